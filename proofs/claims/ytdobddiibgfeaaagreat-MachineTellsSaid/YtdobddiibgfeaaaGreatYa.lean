/- What the walks of this statement lean on: shown. -/
import Derived.Test.YtdobddiibgfeaaaGreatZt
set_option linter.all false
set_option maxRecDepth 100000
set_option maxHeartbeats 16000000
namespace Go.Proofs.YtdobddiibgfeaaaGreat
open Value renaming slice→a_,int→b_,agg→e_,pointer→fG,tuple→fI,bool→fJ
open IntKind renaming i64→c_
open Obj renaming cells→d_
open Ending renaming returned→fH
open Go.Proofs.Tryz renaming prog→gd
section
section
open Go.RowKit
def lG (op a:Int):Int:=
 if op=15 then wrap32 (-(wrap32 a)) else if op=16 then lz (wrap32 a == 0) else if op=17 then wrap32 (-(wrap32 a) - 1) else 0
def DM (op:Int):Bool:=decide (15≤op∧op≤17)

theorem tA (a):wrap32 (wrap32 a)=wrap32 a:=by unfold wrap32;omega
theorem yz (a):word (wrap32 a)=word a:=by unfold word wrap32;omega
theorem jn {a} (h:-2147483648≤a∧a≤2147483647):wrap32 a=a:=by unfold wrap32;omega
theorem qX (a b):wrap32 a=wrap32 b↔a % 4294967296=b % 4294967296:=by unfold wrap32;omega
theorem sT (b):0≤lz b∧lz b≤1:=by cases b <;> decide

theorem qZ a (y:Int):wrap32 ((wrap32 a).tmod y)=(wrap32 a).tmod y:=by
 have h:=nz (wrap32 a) y;have h2:=oi a;by_cases e:(wrap32 a).natAbs<2147483648
 · exact jn f_
 · refine jn ⟨by omega,?_⟩
   have:wrap32 a≤0:=by omega
   have:=Int.tmod_nonneg (a:=-(wrap32 a)) y f_;rw[Int.neg_tmod] at this;omega

/-! ### bits -/
theorem sD (n:Int):wrap32 n=(BitVec.ofInt 32 n).toInt:=by
 rw[BitVec.toInt_ofInt];unfold wrap32 Int.bmod;simp only[Nat.reducePow];omega
theorem pk (x y):bits .or .i32 x y=(BitVec.ofInt 32 x ||| BitVec.ofInt 32 y).toInt:=Gk _
theorem q_ (x y):bits .xor .i32 x y=(BitVec.ofInt 32 x ^^^ BitVec.ofInt 32 y).toInt:=Gk _
theorem rd (x y):bits .xor .i64 x y=(BitVec.ofInt 64 x ^^^ BitVec.ofInt 64 y).toInt:=Bw _
theorem i_ (n):(BitVec.ofInt 64 n).setWidth 32=BitVec.ofInt 32 n:=by
 apply BitVec.eq_of_toNat_eq;simp only[BitVec.toNat_setWidth,BitVec.toNat_ofInt,Nat.reducePow];omega
theorem kW (x:BitVec 64):BitVec.ofInt 32 x.toInt=x.setWidth 32:=by
 apply BitVec.eq_of_toNat_eq;simp only[BitVec.toNat_setWidth,BitVec.toNat_ofInt,Nat.reducePow,BitVec.toInt_eq_toNat_bmod];unfold Int.bmod;simp only;have:=x.isLt;omega
theorem uK (x y):wrap32 (bits .and .i64 x y)=bits .and .i32 x y:=by
 rw[kF,lk,sD,kW,BitVec.setWidth_and,i_,i_]
theorem yx (x y):wrap32 (bits .or .i64 x y)=bits .or .i32 x y:=by
 rw[nt,pk,sD,kW,BitVec.setWidth_or,i_,i_]
theorem uL (x y):wrap32 (bits .xor .i64 x y)=bits .xor .i32 x y:=by
 rw[rd,q_,sD,kW,BitVec.setWidth_xor,i_,i_]
theorem tS op (x y):-9223372036854775808≤bits op .i64 x y∧bits op .i64 x y≤9223372036854775807:=by
 unfold bits;simp only[IntKind.wrap_i64];omega
theorem tu a (k):wrap32 (wrap32 a / 2 ^ k)=wrap32 a / 2 ^ k:=jn (pz (wrap32 a) k (oi a))
theorem AH (x y:Int):-(x.natAbs:Int)≤x.tdiv y∧x.tdiv y≤x.natAbs:=by
 have h:=Int.natAbs_tdiv x y;have h2:x.natAbs.div y.natAbs≤x.natAbs:=Nat.div_le_self _ _;omega
theorem qY (b):wrap32 (lz b)=lz b:=by have:=sT b;exact jn f_
theorem Bp:wrap32 0=0:=jn f_
theorem ub (b):-9223372036854775808≤lz b∧lz b≤9223372036854775807:=by have:=sT b;omega
theorem x_ a (k):-9223372036854775808≤wrap32 a / 2 ^ k∧wrap32 a / 2 ^ k≤9223372036854775807:=by have:=pz (wrap32 a) k (oi a);omega
theorem ue (x y:Int):x*y=4294967296*((x / 65536)*(y / 65536))+65536*((x / 65536)*(y % 65536)+(x % 65536)*(y / 65536))+(x % 65536)*(y % 65536):=by
 have c:x=65536*(x / 65536)+x % 65536:=by omega
 have a:y=65536*(y / 65536)+y % 65536:=by omega
 generalize x / 65536=p at *
 generalize x % 65536=q at *
 generalize y / 65536=r at *
 generalize y % 65536=s at *
 subst c a;simp only[Int.add_mul,Int.mul_add,Int.mul_assoc];have b:p*(65536*r)=65536*(p*r):=by rw[←Int.mul_assoc,Int.mul_comm p,Int.mul_assoc]
 have d:q*(65536*r)=65536*(q*r):=by rw[←Int.mul_assoc,Int.mul_comm q,Int.mul_assoc]
 rw[b,d];omega
theorem ud (x y:Int):(x / 65536)*(y / 65536)+((x / 65536)*(y % 65536)+(x % 65536)*(y / 65536)+(x % 65536)*(y % 65536) / 65536) / 65536=x*y / 4294967296:=by
 rw[ue x y];omega
theorem mZ (a):wrap32 a=if 2147483648≤word a then word a - 4294967296 else word a:=by
 unfold wrap32 word;split <;> omega
theorem wj (a b):wi a b=wrap32 (word a*word b / 4294967296 - (if 2147483648≤word a then word b else 0) - (if 2147483648≤word b then word a else 0)):=by
 unfold wi;rw[mZ a,mZ b];generalize word a=x;generalize word b=y;rw[qX];split <;> split
 · have e:(x - 4294967296)*(y - 4294967296)=x*y+4294967296*(4294967296 - x - y):=by
    rw[Int.sub_mul,Int.mul_sub];omega
   rw[e,Int.add_mul_ediv_left _ _ fZ];omega
 · have e:(x - 4294967296)*y=x*y+4294967296*(- y):=by rw[Int.sub_mul];omega
   rw[e,Int.add_mul_ediv_left _ _ fZ];omega
 · have e:x*(y - 4294967296)=x*y+4294967296*(- x):=by rw[Int.mul_sub];omega
   rw[e,Int.add_mul_ediv_left _ _ fZ];omega
 · omega
end
open Go.RowKit
set_option maxRecDepth 100000
set_option linter.unusedSimpArgs false
theorem uJ a (b:-9223372036854775808≤a∧a≤9223372036854775807):(a.tmod 4294967296<0→a.tmod 4294967296+4294967296=word a)∧(0≤a.tmod 4294967296→a.tmod 4294967296=word a):=by
 unfold word;by_cases h:0≤a
 · rw[Int.tmod_eq_emod_of_nonneg h];omega
 · have e:a.tmod 4294967296 = -((-a) % 4294967296):=by
    rw[←Int.tmod_eq_emod_of_nonneg (by omega:0 ≤ -a),Int.neg_tmod];omega
   rw[e];omega
theorem iu a w (h:-9223372036854775808≤a∧a≤9223372036854775807) :
 Calls gd 98 #[b_ c_ a] w fun e w'=>e =fH (b_ c_ (word a))∧w=w':=by
 have ht:=uJ a h;go_enter Tryz.func98,Tryz.ntmps98;go_wp2
 all_goals
  go_ret;refine⟨gt (io ?_),rfl⟩
 · have b:=pM a
   exact Em f_
 · exact ht.2 (by assumption)
theorem gI a w (h:-9223372036854775808≤a∧a≤9223372036854775807) :
 Calls gd 95 #[b_ c_ a] w fun e w'=>e =fH (b_ c_ (wrap32 a))∧w=w':=by
 have b:=pM a;go_enter Tryz.func95,Tryz.ntmps95
 go_wp2_with (go_at_call 98;refine(iu _ _ h).mono ?_;rintro e w' ⟨rfl,rfl⟩)
 all_goals
  go_ret;refine⟨gt (io ?_),rfl⟩
 · show word a - 4294967296=_
   unfold word wrap32 at *;omega
 · show word a=_
   unfold word wrap32 at *;omega
theorem qA b (w) :
 Calls gd 180 #[fJ b] w fun e w'=>e =fH (b_ c_ (lz b))∧w=w':=by
 cases b <;>
 · go_enter Tryz.func180,Tryz.ntmps180
   go_wp2;go_ret;exact⟨gt (io rfl),rfl⟩
theorem uB op a b (w) :
 Calls gd 141 #[b_ c_ op,b_ c_ (wrap32 a),b_ c_ (wrap32 b)] w fun e w'=>(∃ n,e =fH (fI #[b_ c_ n,fJ (qV op)])∧wrap32 n=gY op a b ∧ -9223372036854775808≤n∧n≤9223372036854775807)∧w=w':=by
 have s:=oi a;have r:=oi b;by_cases i:op=4∨op=5
 · have h:qV op=true:=by unfold qV;rw[decide_eq_true_iff];omega
   rw[h];by_cases h0:wrap32 b=0
   · have j:(wrap32 b == 0)=true:=by simp[h0]
     have c:gY 4 a b = -1:=by simp[gY,h0]
     have d:gY 5 a b=wrap32 a:=by simp[gY,h0]
     have g:=gg c;have f:=gg d;clear c d h h0;rcases i with rfl|rfl
     all_goals
      go_enter Tryz.func141,Tryz.ntmps141;go_wp2
      go_ret2
      refine⟨⟨_,mQ (io rfl) rfl,?_⟩,rfl⟩
      first|(rw[g.o];exact⟨jn f_,by omega,by omega⟩)|(rw[f.o,tA];exact⟨rfl,by omega,by omega⟩)
   · have j:(wrap32 b == 0)=false:=by simp[h0]
     have ht:=nz (wrap32 a) (wrap32 b);have m:=AH (wrap32 a) (wrap32 b);have c:gY 4 a b=wrap32 ((wrap32 a).tdiv (wrap32 b)):=by simp[gY,h0]
     have d:gY 5 a b=wrap32 ((wrap32 a).tmod (wrap32 b)):=by simp[gY,h0,qZ]
     have g:=gg c;have f:=gg d;clear c d h;rcases i with rfl|rfl
     all_goals
      go_enter Tryz.func141,Tryz.ntmps141;go_wp2
      go_ret2
      refine⟨⟨_,mQ (io rfl) rfl,?_⟩,rfl⟩
      first|(rw[g.o];exact⟨rfl,by omega,by omega⟩)|(rw[f.o];exact⟨rfl,by omega,by omega⟩)
 · have o:0≤bits .and .i64 (wrap32 b) 31:=by rw[Fd];omega
   have k:bits .and .i64 (wrap32 b) 31≤31:=by rw[Fd];omega
   have l:bits .and .i64 (wrap32 b) 31≤64:=by omega
   have p:(op == 4)=false:=by simp;omega
   have q:(op == 5)=false:=by simp;omega
   go_enter Tryz.func141,Tryz.ntmps141
   go_wp2_with (first|(go_at_call 180;refine(qA _ _).mono ?_;rintro e w' ⟨rfl,rfl⟩)|(go_at_call 98;refine(iu _ _ f_).mono ?_;rintro e w' ⟨rfl,rfl⟩))
   all_goals
    go_ret2
    refine⟨⟨_,mQ (io rfl) (iO (by unfold qV;symm;first|(rw[decide_eq_true_iff];simp only[beq_iff_eq,beq_eq_false_iff_ne,ne_eq] at *;omega)|(rw[decide_eq_false_iff_not];simp only[beq_iff_eq,beq_eq_false_iff_ne,ne_eq] at *;omega))),?_⟩,rfl⟩;simp only[beq_iff_eq,beq_eq_false_iff_ne,ne_eq] at *
    refine⟨by simp_all [gY,yD,uK,yx,uL,Fd,IW,tu,qY,yz,Bp],?_⟩
    first|exact sE _|exact tS _ _ _|exact ub _|exact x_ _ _|(constructor <;> omega)
theorem iw op a b w (h:-9223372036854775808≤a∧a≤9223372036854775807) (d:-9223372036854775808≤b∧b≤9223372036854775807) :
 Calls gd 99 #[b_ c_ op,b_ c_ a,b_ c_ b] w fun e w'=>e =fH (fI #[b_ c_ (gY op a b),fJ (qV op)])∧w=w':=by
 go_enter Tryz.func99,Tryz.ntmps99
 go_wp2_with fail
 refine(gI a _ h).mono ?_;rintro e w' ⟨rfl,rfl⟩
 go_wp2_with fail
 refine(gI b _ d).mono ?_;rintro e w' ⟨rfl,rfl⟩
 go_wp2_with fail
 refine(uB op a b _).mono ?_;rintro e w' ⟨⟨n,rfl,c,hl,g⟩,rfl⟩;have f:=gg c;clear c
 go_wp2_with fail
 refine(gI n _ ⟨hl,g⟩).mono ?_;rintro e w' ⟨rfl,rfl⟩
 go_wp2_with fail
 go_ret2
 exact⟨mQ (io f.o) rfl,rfl⟩
theorem qH op a w (b:-9223372036854775808≤a∧a≤9223372036854775807) :
 Calls gd 173 #[b_ c_ op,b_ c_ a] w fun e w'=>e =fH (fI #[b_ c_ (lG op a),fJ (DM op)])∧w=w':=by
 have c:=oi a;go_enter Tryz.func173,Tryz.ntmps173
 go_wp2_with fail
 refine(gI a _ b).mono ?_;rintro e w' ⟨rfl,rfl⟩
 go_wp2_with (first|(go_at_call 180;refine(qA _ _).mono ?_;rintro e w' ⟨rfl,rfl⟩)|(go_at_call 95;refine(gI _ _ f_).mono ?_;rintro e w' ⟨rfl,rfl⟩))
 all_goals
  go_ret2
  refine⟨mQ (io ?_) (iO (by unfold DM;symm;first|(rw[decide_eq_true_iff];simp only[beq_iff_eq,beq_eq_false_iff_ne,ne_eq] at *;omega)|(rw[decide_eq_false_iff_not];simp only[beq_iff_eq,beq_eq_false_iff_ne,ne_eq] at *;omega))),rfl⟩
  first|rfl|(simp only[beq_iff_eq,beq_eq_false_iff_ne,ne_eq] at *;simp_all [lG];done)
theorem mf op (w) :
 Calls gd 178 #[b_ c_ op] w fun e w'=>e =fH (b_ c_ (yG op))∧Up w w':=by
 by_cases h:1≤op∧op≤14
 · obtain⟨h1,h2⟩:=h
   have a:op=1∨op=2∨op=3∨op=4∨op=5∨op=6∨op=7∨op=8∨op=9∨op=10∨op=11∨op=12∨op=13∨op=14:=by omega
   clear h1 h2;rcases a with rfl|rfl|rfl|rfl|rfl|rfl|rfl|rfl|rfl|rfl|rfl|rfl|rfl|rfl
   all_goals
    go_enter Tryz.func178,Tryz.ntmps178;go_wp2;go_ret;exact⟨gt (io rfl),fK.alloc fL _⟩
 · have h0:yG op=0:=by unfold yG;repeat(first|rw[if_neg f_]|rfl)
   rw[h0];by_cases h1:op<1
   · go_enter Tryz.func178,Tryz.ntmps178
     go_wp2;go_ret;exact⟨gt (io rfl),fK⟩
   · have h2:14<op:=by omega
     go_enter Tryz.func178,Tryz.ntmps178;go_wp2;go_ret;exact⟨gt (io rfl),fK⟩
theorem oO a b s w (g:-9223372036854775808≤a∧a≤9223372036854775807) (h:-9223372036854775808≤b∧b≤9223372036854775807) :
 Calls gd 175 #[b_ c_ a,b_ c_ b,fJ s] w fun e w'=>e =fH (b_ c_ (qe a b s))∧w=w':=by
 have p:=pM a;have v:=pM b;have m:=mO (word a % 65536) (word b % 65536) 65535 65535 f_ f_;have hl:=mO (word a / 65536) (word b % 65536) 65535 65535 f_ f_;have q:=mO (word a % 65536) (word b / 65536) 65535 65535 f_ f_;have o:=mO (word a / 65536) (word b / 65536) 65535 65535 f_ f_;have n:0≤word a % 65536*(word b % 65536):=Int.mul_nonneg f_ f_;have t:0≤word a / 65536*(word b % 65536):=Int.mul_nonneg f_ f_;have u:0≤word a % 65536*(word b / 65536):=Int.mul_nonneg f_ f_;have r:0≤word a / 65536*(word b / 65536):=Int.mul_nonneg f_ f_;have d:=ud (word a) (word b);have f:Bk a b=wrap32 (word a*word b / 4294967296):=rfl;rw[←d] at f;have j:=gg f;have i:=gg d;clear f d;cases s
 · go_enter Tryz.func175,Tryz.ntmps175
   go_wp2_with fail
   refine(iu a _ g).mono ?_;rintro e w' ⟨rfl,rfl⟩
   go_wp2_with fail
   refine(iu b _ h).mono ?_;rintro e w' ⟨rfl,rfl⟩
   go_wp2_with fail
   refine(gI _ _ f_).mono ?_;rintro e w' ⟨rfl,rfl⟩
   go_wp2
   go_ret;exact⟨gt (io j.o.symm),rfl⟩
 · by_cases hA:2147483648≤word a
   all_goals
    by_cases l:2147483648≤word b
    all_goals
     have c:qe a b true=_:=wj a b;rw[←i.o] at c;simp only[hA,l,if_true,if_false,Int.sub_zero] at c;have k:=gg c;clear c;go_enter Tryz.func175,Tryz.ntmps175
     go_wp2_with fail
     refine(iu a _ g).mono ?_;rintro e w' ⟨rfl,rfl⟩
     go_wp2_with fail
     refine(iu b _ h).mono ?_;rintro e w' ⟨rfl,rfl⟩
     go_wp2_with fail
     refine(gI _ _ f_).mono ?_;rintro e w' ⟨rfl,rfl⟩
     go_wp2
     go_ret;exact⟨gt (io k.o.symm),rfl⟩
end
section
open Go.RowKit
set_option maxRecDepth 100000
set_option linter.unusedSimpArgs false
theorem jO h d n w (m:h.r.length=32) (E:iy n) :
 Calls gd 128 #[e_ (hA h),b_ c_ d,b_ c_ n] w fun e w'=>e =fH (e_ (hA (gR h d n)))∧Up w w':=by
 have G:=gg E;clear E;have a:=gg (gV h m);have z:=gg (jU h);have t:=gg (fun k s=>l9 h m k s);have q:=gg (fun k s v=>p_ h m k s v);by_cases f:0<d∧d<32
 · obtain⟨k,rfl,M,C⟩:∃ k:Nat,d=k∧0<k∧k<32:=⟨d.toNat,by omega,by omega,by omega⟩
   have y:=gg (show gR h k n = { h with r:=h.r.set k (wrap32 n) } by unfold gR;rw[if_pos f];rfl);have l:=gg (gV (gR h k n) (mo m k n));have J:=gg (jU (gR h k n));obtain⟨H,g,c,i,L,K⟩:=lU w (d_ (hA h) 56) (d_ zA 56);have I:=gg (mT c k (b_ c_ (wrap32 n)) (hA (gR h k n)) (by rw[y.o];exact q.o k C _));have D:=gg (jL (b:=w.heap.size) (o:=k) (u:=b_ c_ (wrap32 n)) (by omega:w.heap.size+1≠w.heap.size) i);have N:=gv c (t.o k C);have f0:=gC c k;have p:=gg g;clear t c i g q f;generalize hA (gR h k n)=B at *
   generalize hA h=A at *
   go_enter Tryz.func128,Tryz.ntmps128;go_upto_region 1 with(fail)
   change Code.wp _ _ _ _ ((w.alloc (d_ A 56)).alloc (d_ zA 56));rw[←p.o]
   go_wp2_with (first|(go_at_call 95;refine(gI n _ G.o).mono ?_;rintro e w' ⟨rfl,rfl⟩)|(refine wpList_load_row rfl 56 _ rfl (w.heap.size) rfl 56 B (0,0) _ I.o Tryz.underlying56 rfl (ii l.o) ?_)|(refine wpList_store_row rfl 56 _ _ rfl (w.heap.size+1) B rfl rfl 56 zA D.o (ii l.o) (by rw[l.o];rfl) J.o ?_))
   refine bodyPost_ret (v:=e_ B) (results_cell_row rfl _ _ (w.heap.size+1) 56 B (0,0) _ rfl (setRow_heap _ _ _ _ _ _ D.o) Tryz.underlying56 rfl (ii l.o)) rfl ⟨rfl,below_setRow (by repeat(first|(with_reducible exact Below.refl _ _)|(with_reducible refine gO ?_ ?_ _)|(with_reducible apply iS)|(with_reducible refine gj ?_ (by with_reducible assumption))|(with_reducible apply iR)|omega)) f_ _⟩
 · have y:=gg (show gR h d n=h by unfold gR;rw[if_neg f])
   obtain⟨H,g,c,i,L,K⟩:=lU w (d_ (hA h) 56) (d_ zA 56);have F:=gg c;have j:=gg i;have p:=gg g;clear t c i g q;rw[y.o];generalize hA h=A at *
   by_cases hd1:0<d
   · have hd2:¬ d<32:=fun x=>f ⟨hd1,x⟩
     clear f;go_enter Tryz.func128,Tryz.ntmps128;go_upto_region 1 with(fail)
     change Code.wp _ _ _ _ ((w.alloc (d_ A 56)).alloc (d_ zA 56));rw[←p.o]
     go_wp2_with (first|(refine wpList_load_row rfl 56 _ rfl (w.heap.size) rfl 56 A (0,0) _ F.o Tryz.underlying56 rfl (ii a.o) ?_)|(refine wpList_store_row rfl 56 _ _ rfl (w.heap.size+1) A rfl rfl 56 zA j.o (ii a.o) (by rw[a.o];rfl) z.o ?_))
     refine bodyPost_ret (v:=e_ A) (results_cell_row rfl _ _ (w.heap.size+1) 56 A (0,0) _ rfl (setRow_heap _ _ _ _ _ _ j.o) Tryz.underlying56 rfl (ii a.o)) rfl ⟨rfl,below_setRow (by repeat(first|(with_reducible exact Below.refl _ _)|(with_reducible refine gO ?_ ?_ _)|(with_reducible apply iS)|(with_reducible refine gj ?_ (by with_reducible assumption))|(with_reducible apply iR)|omega)) f_ _⟩
   · clear f
     go_enter Tryz.func128,Tryz.ntmps128;go_upto_region 1 with(fail)
     change Code.wp _ _ _ _ ((w.alloc (d_ A 56)).alloc (d_ zA 56));rw[←p.o]
     go_wp2_with (first|(refine wpList_load_row rfl 56 _ rfl (w.heap.size) rfl 56 A (0,0) _ F.o Tryz.underlying56 rfl (ii a.o) ?_)|(refine wpList_store_row rfl 56 _ _ rfl (w.heap.size+1) A rfl rfl 56 zA j.o (ii a.o) (by rw[a.o];rfl) z.o ?_))
     refine bodyPost_ret (v:=e_ A) (results_cell_row rfl _ _ (w.heap.size+1) 56 A (0,0) _ rfl (setRow_heap _ _ _ _ _ _ j.o) Tryz.underlying56 rfl (ii a.o)) rfl ⟨rfl,below_setRow (by repeat(first|(with_reducible exact Below.refl _ _)|(with_reducible refine gO ?_ ?_ _)|(with_reducible apply iS)|(with_reducible refine gj ?_ (by with_reducible assumption))|(with_reducible apply iR)|omega)) f_ _⟩



theorem ux h p w (a:h.r.length=32) (b:0≤h.st∧h.st≤136) :
 Calls gd 60 #[e_ (hA h),b_ c_ p] w fun e w'=>e =fH (fJ ((h.st / 8 % 2 == 1) && decide (h.le<p)))∧Up w w':=by
 have c:=(lT h a).2.1;have d:=(lT h a).2.2.2.2.2.2;generalize h.st=st at *
 generalize h.le=le at *
 generalize hA h=A at *
 cases h1:(st / 8 % 2 == 1) <;> cases h2:decide (le<p)
 all_goals
  go_enter Tryz.func60,Tryz.ntmps60
  go_wp2
  go_ret;exact⟨rfl,(by repeat(first|(with_reducible exact Below.refl _ _)|(with_reducible refine gO ?_ ?_ _)|(with_reducible apply iS)|(with_reducible refine gj ?_ (by with_reducible assumption))|(with_reducible apply iR)|omega))⟩
def mR (h:Ht) (c:Int):Ht:={ h with ep:=h.pc,ca:=wrap32 c,pc:=h.ve,st:=128*(h.st / 8 % 2) }
theorem uI h c w (b:h.r.length=32) (M:0≤h.st∧h.st≤136) (o:iy c) :
 Calls gd 50 #[e_ (hA h),b_ c_ c] w fun e w'=>e =fH (e_ (hA (mR h c)))∧Up w w':=by
 have s:=gg o;clear o;obtain⟨k,i,m,_,p,j,_⟩:=lT h b;obtain⟨d,l,a,n,B,L⟩:=lU w (d_ (hA h) 56) (d_ zA 56);have y:=gv a k;have G:=gv a i;have z:=gv a m;have A:=gv a p;have t:=gv a j;have q:=gC a 32;have F:=gC a 33;have I:=gC a 36;have u:=gC a 37;have J:=gg l
 have E:gi (((((d.setCell ⟨w.heap.size,36,none⟩ (b_ c_ h.pc)).setCell ⟨w.heap.size,37,none⟩ (b_ c_ (wrap32 c))).setCell ⟨w.heap.size,32,none⟩ (b_ c_ h.ve)).setCell ⟨w.heap.size,33,none⟩ (b_ c_ (128*(h.st / 8 % 2)))).heap[w.heap.size]? = some (d_ (hA (mR h c)) 56 (0,0))):=by
  have H:=mT a 36 (b_ c_ h.pc) _ (sW h b h.pc);have x:=mT H 37 (b_ c_ (wrap32 c)) _ (sV { h with ep:=h.pc } b (wrap32 c));have D:=mT x 32 (b_ c_ h.ve) _ (Bb { h with ep:=h.pc,ca:=wrap32 c } b h.ve);exact gg (mT D 33 (b_ c_ (128*(h.st / 8 % 2))) _ (nN { h with ep:=h.pc,ca:=wrap32 c,pc:=h.ve } b _))
 have f:gi (((((d.setCell ⟨w.heap.size,36,none⟩ (b_ c_ h.pc)).setCell ⟨w.heap.size,37,none⟩ (b_ c_ (wrap32 c))).setCell ⟨w.heap.size,32,none⟩ (b_ c_ h.ve)).setCell ⟨w.heap.size,33,none⟩ (b_ c_ (128*(h.st / 8 % 2)))).heap[w.heap.size+1]? = some (d_ zA 56 (0,0))):=gg (jL f_ (jL f_ (jL f_ (jL f_ n))));have C:gi (Up w ((((d.setCell ⟨w.heap.size,36,none⟩ (b_ c_ h.pc)).setCell ⟨w.heap.size,37,none⟩ (b_ c_ (wrap32 c))).setCell ⟨w.heap.size,32,none⟩ (b_ c_ h.ve)).setCell ⟨w.heap.size,33,none⟩ (b_ c_ (128*(h.st / 8 % 2))))):=gg (gO (gO (gO (gO B fL _) fL _) fL _) fL _);have hl:(mR h c).r.length=32:=b;clear a n l k i m p j;generalize g:mR h c=ht at *
 have K:=gg g;clear g;generalize h.st=st at *
 generalize h.ve=ve at *
 generalize h.pc=pc at *
 go_enter Tryz.func50,Tryz.ntmps50;go_upto_region 1 with(fail)
 change Code.wp _ _ _ _ ((w.alloc (d_ (hA h) 56)).alloc (d_ zA 56));rw[←J.o];go_upto_region 6 with(go_at_call 95;refine(gI c _ s.o).mono ?_;rintro e w' ⟨rfl,rfl⟩)
 clear y G z A t q F I u
 go_wp2_with (first|(refine wpList_load_row rfl 56 _ rfl (w.heap.size) rfl 56 (hA ht) (0,0) _ E.o Tryz.underlying56 rfl (ii (gV ht hl)) ?_)|(refine wpList_store_row rfl 56 _ _ rfl (w.heap.size+1) (hA ht) rfl rfl 56 zA f.o (ii (gV ht hl)) (by rw[gV ht hl];rfl) (jU ht) ?_))
 exact bodyPost_ret (v:=e_ (hA ht)) (results_cell_row rfl _ _ (w.heap.size+1) 56 (hA ht) (0,0) _ rfl (setRow_heap _ _ _ _ _ _ f.o) Tryz.underlying56 rfl (ii (gV ht hl))) rfl ⟨rfl,below_setRow C.o f_ _⟩
theorem xX h c (a:h.st=0∨h.st=8∨h.st=128∨h.st=136):mR h c=sL h c:=by
 unfold mR sL;have:Ep h.st=128*(h.st / 8 % 2):=by rcases a with e|e|e|e <;> rw[e] <;> kernel_rfl
 rw[this]
end
section
open Go.RowKit
set_option maxRecDepth 100000
set_option linter.unusedSimpArgs false
theorem Ax op a b w (h:5≤op∧op≤10) (d:iy a) (c:iy b) :
 Calls gd 129 #[b_ c_ op,b_ c_ a,b_ c_ b] w fun e w'=>e =fH (fJ (A_ op a b))∧w=w':=by
 have g:=gg d;have f:=gg c;clear d c;rcases(by omega:op=5∨op=6∨op=7∨op=8∨op=9∨op=10) with rfl|rfl|rfl|rfl|rfl|rfl
 all_goals
  go_enter Tryz.func129,Tryz.ntmps129
  go_wp2_with (go_at_call 98;first|((with_reducible refine(iu a _ g.o).mono ?_);rintro e w' ⟨rfl,rfl⟩)|((with_reducible refine(iu b _ f.o).mono ?_);rintro e w' ⟨rfl,rfl⟩))
  go_ret;exact⟨gt (iO rfl),rfl⟩
theorem qM a b rest w (i:iy a) (h:iy b) :
 Calls gd 176 #[b_ c_ a,b_ c_ b,fJ rest] w fun e w'=>e =fH (b_ c_ (pL (if rest then 38 else 36) a b))∧w=w':=by
 have c:=gg i;have d:=gg h;clear i h;have g:=pM a;have m:=pM b;by_cases h0:word b=0
 · have q:(word b == 0)=true:=by simpa using h0
   have f:=gg h0;clear h0;cases rest
   · go_enter Tryz.func176,Tryz.ntmps176
     go_wp2_with (go_at_call 98;first|((with_reducible refine(iu a _ c.o).mono ?_);rintro e w' ⟨rfl,rfl⟩)|((with_reducible refine(iu b _ d.o).mono ?_);rintro e w' ⟨rfl,rfl⟩))
     go_ret;exact⟨gt (io (vH a b f.o).symm),rfl⟩
   · go_enter Tryz.func176,Tryz.ntmps176
     go_wp2_with (go_at_call 98;first|((with_reducible refine(iu a _ c.o).mono ?_);rintro e w' ⟨rfl,rfl⟩)|((with_reducible refine(iu b _ d.o).mono ?_);rintro e w' ⟨rfl,rfl⟩))
     go_ret;exact⟨gt (io (vI a b f.o).symm),rfl⟩
 · have q:(word b == 0)=false:=by simpa using h0
   have k:0<word b:=by omega
   have j:gi (word a / word b=pL 36 a b):=by unfold pL;rw[if_pos rfl,if_neg h0];exact gg rfl
   have l:gi (word a % word b=pL 38 a b):=by unfold pL;rw[if_neg fZ,if_neg h0];exact gg rfl
   have r:=Int.ediv_le_self (word b) g.1;have o:0≤word a / word b:=Int.ediv_nonneg g.1 m.1;have p:0≤word a % word b:=Int.emod_nonneg _ h0;have n:word a % word b<word b:=Int.emod_lt_of_pos _ k;clear h0;cases rest
   · go_enter Tryz.func176,Tryz.ntmps176
     go_wp2_with (go_at_call 98;first|((with_reducible refine(iu a _ c.o).mono ?_);rintro e w' ⟨rfl,rfl⟩)|((with_reducible refine(iu b _ d.o).mono ?_);rintro e w' ⟨rfl,rfl⟩))
     go_ret;exact⟨gt (io j.o),rfl⟩
   · go_enter Tryz.func176,Tryz.ntmps176
     go_wp2_with (go_at_call 98;first|((with_reducible refine(iu a _ c.o).mono ?_);rintro e w' ⟨rfl,rfl⟩)|((with_reducible refine(iu b _ d.o).mono ?_);rintro e w' ⟨rfl,rfl⟩))
     go_ret;exact⟨gt (io l.o),rfl⟩
end
section
open Go.RowKit
set_option maxRecDepth 100000
set_option linter.unusedSimpArgs false
theorem pw op a b w (h:yE op) (d:iy a) (c:iy b) :
 Calls gd 132 #[b_ c_ op,b_ c_ a,b_ c_ b] w fun e w'=>e =fH (fI #[b_ c_ (lV op a b),fJ true])∧w=w':=by
 have g:=gg d;have f:=gg c;clear d c;rcases h with rfl|rfl|rfl|rfl|rfl|rfl|rfl|rfl|rfl|rfl|rfl|rfl|rfl|rfl|rfl|rfl|rfl|rfl|rfl|rfl
 all_goals
  go_enter Tryz.func132,Tryz.ntmps132
  go_wp2_with fail
  refine(iw _ a b _ g.o f.o).mono ?_
  rintro e w1 ⟨rfl,rfl⟩
  go_wp2_with fail
  go_ret2
  exact⟨by simp[lV,ul,Cu,qV],rfl⟩
theorem qG op a b w (h:op=33∨op=34∨op=36∨op=38) (g:iy a) (f:iy b) :
 Calls gd 132 #[b_ c_ op,b_ c_ a,b_ c_ b] w fun e w'=>e =fH (fI #[b_ c_ (lV op a b),fJ true])∧w=w':=by
 have d:=gg g;have c:=gg f;clear g f;rcases h with rfl|rfl|rfl|rfl
 · go_enter Tryz.func132,Tryz.ntmps132
   go_wp2_with fail
   refine(oO a b _ _ d.o c.o).mono ?_
   rintro e w1 ⟨rfl,rfl⟩
   go_wp2_with fail
   go_ret2
   exact⟨rfl,rfl⟩
 · go_enter Tryz.func132,Tryz.ntmps132
   go_wp2_with fail
   refine(oO a b _ _ d.o c.o).mono ?_
   rintro e w1 ⟨rfl,rfl⟩
   go_wp2_with fail
   go_ret2
   exact⟨rfl,rfl⟩
 · go_enter Tryz.func132,Tryz.ntmps132
   go_wp2_with fail
   refine(qM a b false _ d.o c.o).mono ?_
   rintro e w1 ⟨rfl,rfl⟩
   go_wp2_with fail
   go_ret2
   exact⟨rfl,rfl⟩
 · go_enter Tryz.func132,Tryz.ntmps132
   go_wp2_with fail
   refine(qM a b true _ d.o c.o).mono ?_
   rintro e w1 ⟨rfl,rfl⟩
   go_wp2_with fail
   go_ret2
   exact⟨rfl,rfl⟩
end
section
open Go.RowKit
set_option maxRecDepth 100000
set_option linter.unusedSimpArgs false
theorem su op a b w (h:op=20∨op=28) (d:iy a) (c:iy b) :
 Calls gd 132 #[b_ c_ op,b_ c_ a,b_ c_ b] w fun e w'=>e =fH (fI #[b_ c_ (lV op a b),fJ true])∧w=w':=by
 have g:=gg d;have i:=gg c;clear d c;have l:=pM a;have n:=pM b;have E:gi (lV op a b=word a / 2 ^ (word b % 32).toNat):=by unfold lV;rw[if_pos h,show word b % 32=b % 32 from by unfold word;omega];exact gg rfl
 have f:=gg (qu a (word b % 32).toNat);have m:=tk (word b % 32) f_;have j:0≤word b % 32:=by omega
 have k:word b % 32≤31:=by omega
 rcases h with rfl|rfl
 all_goals
  go_enter Tryz.func132,Tryz.ntmps132
  go_wp2_with (go_at_call 98;first|((with_reducible refine(iu a _ g.o).mono ?_);rintro e w' ⟨rfl,rfl⟩)|((with_reducible refine(iu b _ i.o).mono ?_);rintro e w' ⟨rfl,rfl⟩))
  go_ret2
  exact⟨by rw[E.o,←f.o];rfl,rfl⟩
theorem nX op a b w (h:13≤op∧op≤38) (c:iy a) (d:iy b) :
 Calls gd 132 #[b_ c_ op,b_ c_ a,b_ c_ b] w fun e w'=>e =fH (fI #[b_ c_ (lV op a b),fJ true])∧w=w':=by
 by_cases h1:op=20∨op=28
 · exact su op a b w h1 c d
 by_cases h2:op=33∨op=34∨op=36∨op=38
 · exact qG op a b w h2 c d
 exact pw op a b w (by unfold yE;omega) c d
end
section
open Go.RowKit
set_option maxRecDepth 100000
theorem pU {x y} (a:iF x) (b:iF y):bits .and .i64 x y=bits .and .i32 x y:=by
 rw[kF,i9 a,i9 b,←BitVec.signExtend_and,BitVec.toInt_signExtend_of_le fZ,lk]
theorem Ag {x y} (a:iF x) (b:iF y):bits .or .i64 x y=bits .or .i32 x y:=by
 rw[nt,i9 a,i9 b,←BitVec.signExtend_or,BitVec.toInt_signExtend_of_le fZ,pk]
theorem Fp (y):BitVec.ofInt 32 (-y - 1) = ~~~ (BitVec.ofInt 32 y):=by
 apply BitVec.eq_of_toNat_eq;rw[BitVec.toNat_not,BitVec.toNat_ofInt,BitVec.toNat_ofInt];omega
theorem pS {x y} (a:iF x) (b:iF y):bits .andNot .i64 x y=bits .and .i32 x (-y - 1):=by
 rw[lK,i9 a,i9 b,←BitVec.signExtend_not fZ,←BitVec.signExtend_and,BitVec.toInt_signExtend_of_le fZ,lk,Fp]
theorem CF {x y} (a:iF x) (b:iF y):gY 6 x y=bits .and .i64 x y:=by
 rw[pU a b];unfold gY;simp only[Int.reduceEq,if_false,if_true];rw[iW a,iW b]
theorem Fq {x y} (a:iF x) (b:iF y):gY 7 x y=bits .or .i64 x y:=by
 rw[Ag a b];unfold gY;simp only[Int.reduceEq,if_false,if_true];rw[iW a,iW b]
theorem AI {x y} (d:iF x) (c:iF y):gY 6 x (lG 17 y)=bits .andNot .i64 x y:=by
 have e:lG 17 y = -y - 1:=by
  unfold lG;simp only[Int.reduceEq,if_false,if_true];rw[iW c,iW (by obtain⟨a,b⟩:=c;constructor <;> omega)]
 rw[e,pS d c];unfold gY;simp only[Int.reduceEq,if_false,if_true];rw[iW d,iW (by obtain⟨a,b⟩:=c;constructor <;> omega)]
theorem ym x {y} (a:iF y):gY 6 x y=bits .and .i64 (wrap32 x) y:=by
 rw[pU (gG x) a];unfold gY;simp only[Int.reduceEq,if_false,if_true];rw[iW a]
def jV (h:Ht) (id csr:Int):Int×Bool:=
 if csr=768 then (h.st,true) else if csr=773 then (h.ve,true) else if csr=832 then (h.sc,true) else if csr=833 then (h.ep,true) else if csr=834 then (h.ca,true) else if csr=1984 then (h.le,true) else if csr=3860 then (wrap32 id,true) else (0,false)
def hP (h:Ht) (csr n:Int):Ht:=
 if csr=768 then { h with st:=gY 6 n 136 } else if csr=773 then { h with ve:=gY 6 n (-4) } else if csr=832 then { h with sc:=n } else if csr=833 then { h with ep:=gY 6 n (-4) } else if csr=834 then { h with ca:=n } else if csr=1984 then { h with le:=n } else h
theorem jP {h} csr n (a:h.r.length=32):(hP h csr n).r.length=32:=by
 unfold hP;repeat' split
 all_goals exact a
def lC (op a n:Int):Int:=if op=41 then gY 7 a n else if op=42 then gY 6 a (lG 17 n) else n
theorem tn {op a n} (c:iF a) (b:iF n):lC op a n=tC op a n:=by
 unfold lC tC;split
 · exact Fq c b
 · split
   · exact AI c b
   · rfl
theorem nM {h} (f:jw h) (id csr):iF (jV h id csr).1:=by
 have hst:iF h.st:=by rcases f.st with e|e|e|e <;> rw[e] <;> constructor <;> decide
 have a:iF h.le:=by have:=f.le;constructor <;> omega
 unfold jV;repeat' split
 all_goals first|exact hst|exact f.ve.1|exact f.sc|exact f.ep.1|exact f.ca|exact a|exact gG _|exact⟨by decide,by decide⟩
def kT (h:Ht) (id:Int) (x:ju):Ht×oW:=
 if (jV h id x.n).2 then ({ gR (hP h x.n (lC x.op (jV h id x.n).1 (tT h x))) x.d (jV h id x.n).1 with pc:=wrap32 (h.pc+4) },⟨0,0,0,0,0⟩) else (h,⟨9,0,0,0,0⟩)
theorem mc h (d v p):({ gR h d v with pc:=p }:Ht)=gR { h with pc:=p } d v:=by
 unfold gR;split <;> rfl
theorem Ao {h} (f:jw h) id x (k:0≤x.a∧x.a<32):kT h id x=jp h id x:=by
 have i:iF (tT h x):=f.reg _ f_;have d:=nM f id x.n;have c:=fun (w:Int) (d:iF w)=>tn (op:=x.op) d i
 have b:=fun (w:Int) (d:iF w)=>rK (op:=x.op) d i
 have hst:iF h.st:=by rcases f.st with e|e|e|e <;> rw[e] <;> constructor <;> decide
 have g:iF h.le:=by have:=f.le;constructor <;> omega
 unfold kT;by_cases h0:x.n=768
 · simp only[jV,jp,hP,if_pos h0,if_true]
   rw[mc,c _ hst,CF (b _ hst) (by constructor <;> decide)];rfl
 by_cases h1:x.n=773
 · simp only[jV,jp,hP,if_neg h0,if_pos h1,if_true]
   rw[mc,c _ f.ve.1,CF (b _ f.ve.1) (by constructor <;> decide)];rfl
 by_cases h2:x.n=832
 · simp only[jV,jp,hP,if_neg h0,if_neg h1,if_pos h2,if_true]
   rw[mc,c _ f.sc];unfold ly;rw[nI (b _ (by exact f.sc))];rfl
 by_cases h3:x.n=833
 · simp only[jV,jp,hP,if_neg h0,if_neg h1,if_neg h2,if_pos h3,if_true]
   rw[mc,c _ f.ep.1,CF (b _ f.ep.1) (by constructor <;> decide)];rfl
 by_cases h4:x.n=834
 · simp only[jV,jp,hP,if_neg h0,if_neg h1,if_neg h2,if_neg h3,if_pos h4,if_true]
   rw[mc,c _ f.ca];unfold ly;rw[nI (b _ (by exact f.ca))];rfl
 by_cases h5:x.n=1984
 · simp only[jV,jp,hP,if_neg h0,if_neg h1,if_neg h2,if_neg h3,if_neg h4,if_pos h5,if_true]
   rw[mc,c _ g];unfold ly;rw[nI (b _ (by exact g))];rfl
 by_cases j:x.n=3860
 · simp only[jV,jp,hP,if_neg h0,if_neg h1,if_neg h2,if_neg h3,if_neg h4,if_neg h5,if_pos j,if_true]
   rw[mc];rfl
 · simp only[jV,jp,if_neg h0,if_neg h1,if_neg h2,if_neg h3,if_neg h4,if_neg h5,if_neg j]
   rfl
def kH (h:Ht):Ht:={ h with pc:=h.ep,st:=128+8*(h.st / 128 % 2) }
theorem xy h (a:h.st=0∨h.st=8∨h.st=128∨h.st=136):kH h=vo h:=by
 unfold kH vo;have:vx h.st=128+8*(h.st / 128 % 2):=by rcases a with e|e|e|e <;> rw[e] <;> kernel_rfl
 rw[this]
end
section
open Go.RowKit
set_option maxRecDepth 100000
set_option linter.unusedSimpArgs false
theorem ur h w (b:h.r.length=32) (B:0≤h.st∧h.st≤136) :
 Calls gd 131 #[e_ (hA h)] w fun e w'=>e =fH (e_ (hA (kH h)))∧Up w w':=by
 obtain⟨d,k,_,_,l,_,_⟩:=lT h b;obtain⟨c,g,a,i,m,z⟩:=lU w (d_ (hA h) 56) (d_ zA 56);have s:=gv a d;have t:=gv a k;have y:=gv a l;have o:=gC a 32;have q:=gC a 33;have x:=gg g
 have p:gi (((c.setCell ⟨w.heap.size,32,none⟩ (b_ c_ h.ep)).setCell ⟨w.heap.size,33,none⟩ (b_ c_ (128+8*(h.st / 128 % 2)))).heap[w.heap.size]? = some (d_ (hA (kH h)) 56 (0,0))):=by
  have u:=mT a 32 (b_ c_ h.ep) _ (Bb h b h.ep);exact gg (mT u 33 (b_ c_ (128+8*(h.st / 128 % 2))) _ (nN { h with pc:=h.ep } b _))
 have f:gi (((c.setCell ⟨w.heap.size,32,none⟩ (b_ c_ h.ep)).setCell ⟨w.heap.size,33,none⟩ (b_ c_ (128+8*(h.st / 128 % 2)))).heap[w.heap.size+1]? = some (d_ zA 56 (0,0))):=gg (jL f_ (jL f_ i));have n:gi (Up w ((c.setCell ⟨w.heap.size,32,none⟩ (b_ c_ h.ep)).setCell ⟨w.heap.size,33,none⟩ (b_ c_ (128+8*(h.st / 128 % 2))))):=gg (gO (gO m fL _) fL _);have hl:(kH h).r.length=32:=b;clear a i g d k l;generalize j:kH h=ht at *
 have A:=gg j;clear j;generalize h.st=st at *
 generalize h.ep=ep at *
 go_enter Tryz.func131,Tryz.ntmps131;go_upto_region 1 with(fail)
 change Code.wp _ _ _ _ ((w.alloc (d_ (hA h) 56)).alloc (d_ zA 56));rw[←x.o];go_upto_region 4 with fail
 clear s t y o q
 go_wp2_with (first|(refine wpList_load_row rfl 56 _ rfl (w.heap.size) rfl 56 (hA ht) (0,0) _ p.o Tryz.underlying56 rfl (ii (gV ht hl)) ?_)|(refine wpList_store_row rfl 56 _ _ rfl (w.heap.size+1) (hA ht) rfl rfl 56 zA f.o (ii (gV ht hl)) (by rw[gV ht hl];rfl) (jU ht) ?_))
 exact bodyPost_ret (v:=e_ (hA ht)) (results_cell_row rfl _ _ (w.heap.size+1) 56 (hA ht) (0,0) _ rfl (setRow_heap _ _ _ _ _ _ f.o) Tryz.underlying56 rfl (ii (gV ht hl))) rfl ⟨rfl,below_setRow n.o f_ _⟩
theorem mC h id csr v ok w (m:h.r.length=32) (hid:iy id) (k:jV h id csr=(v,ok)) :
 Calls gd 172 #[e_ (hA h),b_ c_ id,b_ c_ csr] w fun e w'=>e =fH (fI #[b_ c_ v,fJ ok])∧Up w w':=by
 obtain⟨n,d,j,g,l,f,i⟩:=lT h m;have o:=gg hid;clear hid;have a:=gH w (d_ (hA h) 56);have F:=gv a d;have y:=gv a j;have u:=gv a g;have z:=gv a l;have s:=gv a f;have E:=gv a i;have e:jV h id csr=if csr=768 then (h.st,true) else if csr=773 then (h.ve,true) else if csr=832 then (h.sc,true) else if csr=833 then (h.ep,true) else if csr=834 then (h.ca,true) else if csr=1984 then (h.le,true) else if csr=3860 then (wrap32 id,true) else (0,false):=rfl
 rw[k] at e;clear a k n d j g l f i;generalize h.st=st at *
 generalize h.ve=ve at *
 generalize h.sc=sc at *
 generalize h.ep=ep at *
 generalize h.ca=ca at *
 generalize h.le=le at *
 generalize hA h=A at *
 have q:csr=768∨csr=773∨csr=832∨csr=833∨csr=834∨csr=1984∨csr=3860∨(csr≠768∧csr≠773∧csr≠832∧csr≠833∧csr≠834∧csr≠1984∧csr≠3860):=by omega
 rcases q with rfl|rfl|rfl|rfl|rfl|rfl|rfl|⟨a1,a2,a3,a4,a5,c,b⟩
 case inr.inr.inr.inr.inr.inr.inr=>
  have C:=fS a1;have p:=fS a2;have x:=fS a3;have G:=fS a4;have D:=fS a5;have B:=fS c;have t:=fS b;rw[if_neg a1,if_neg a2,if_neg a3,if_neg a4,if_neg a5,if_neg c,if_neg b] at e;injection e with e1 e2
  subst e1 e2;clear a1 a2 a3 a4 a5 c b;go_enter Tryz.func172,Tryz.ntmps172
  go_wp2_with fail
  go_ret2
  exact⟨rfl,(by repeat(first|(with_reducible exact Below.refl _ _)|(with_reducible refine gO ?_ ?_ _)|(with_reducible apply iS)|(with_reducible refine gj ?_ (by with_reducible assumption))|(with_reducible apply iR)|omega))⟩
 all_goals
  simp only[Int.reduceEq,if_false,if_true] at e;injection e with e1 e2
  subst e1 e2;go_enter Tryz.func172,Tryz.ntmps172
  go_wp2_with (go_at_call 95;(with_reducible refine(gI id _ o.o).mono ?_);rintro e w' ⟨rfl,rfl⟩)
  go_ret2
  exact⟨rfl,(by repeat(first|(with_reducible exact Below.refl _ _)|(with_reducible refine gO ?_ ?_ _)|(with_reducible apply iS)|(with_reducible refine gj ?_ (by with_reducible assumption))|(with_reducible apply iR)|omega))⟩
end
section
open Go.RowKit
set_option maxRecDepth 100000
set_option linter.unusedSimpArgs false
theorem xQ h n w (c:h.r.length=32) (i:iy n) :
 Calls gd 174 #[e_ (hA h),b_ c_ 768,b_ c_ n] w fun e w'=>e =fH (e_ (hA (hP h 768 n)))∧Up w w':=by
 have d:=gg i;clear i;have g:gi (hP h 768 n = { h with st:=gY 6 n 136 }):=gg (by unfold hP;simp only[Int.reduceEq,if_false,if_true]);have hl:=jP 768 n c;obtain⟨b,j,a,k,m,u⟩:=lU w (d_ (hA h) 56) (d_ zA 56);have t:=gv a (lT h c).2.1;have f0:=gC a 33;have s:=gg j
 have p:gi ((b.setCell ⟨w.heap.size,33,none⟩ (b_ c_ (gY 6 n 136))).heap[w.heap.size]? = some (d_ (hA (hP h 768 n)) 56 (0,0))):=by
  have q:=mT a 33 (b_ c_ (gY 6 n 136)) _ (nN h c (gY 6 n 136));rw[g.o];exact gg q
 have f:gi ((b.setCell ⟨w.heap.size,33,none⟩ (b_ c_ (gY 6 n 136))).heap[w.heap.size+1]? = some (d_ zA 56 (0,0))):=gg (jL f_ k);have o:gi (Up w (b.setCell ⟨w.heap.size,33,none⟩ (b_ c_ (gY 6 n 136)))):=gg (gO m fL _);clear a k j g;generalize l:hP h 768 n=ht at *
 have x:=gg l;clear l;go_enter Tryz.func174,Tryz.ntmps174;go_upto_region 1 with(fail)
 change Code.wp _ _ _ _ ((w.alloc (d_ (hA h) 56)).alloc (d_ zA 56));rw[←s.o];go_upto_region 15 with(first|(go_at_call 99;(with_reducible refine(iw 6 n (-4) _ d.o fZ).mono ?_);rintro e w' ⟨rfl,rfl⟩)|(go_at_call 99;(with_reducible refine(iw 6 n 136 _ d.o fZ).mono ?_);rintro e w' ⟨rfl,rfl⟩))
 clear t f0
 go_wp2_with (first|(refine wpList_load_row rfl 56 _ rfl (w.heap.size) rfl 56 (hA ht) (0,0) _ p.o Tryz.underlying56 rfl (ii (gV ht hl)) ?_)|(refine wpList_store_row rfl 56 _ _ rfl (w.heap.size+1) (hA ht) rfl rfl 56 zA f.o (ii (gV ht hl)) (by rw[gV ht hl];rfl) (jU ht) ?_))
 exact bodyPost_ret (v:=e_ (hA ht)) (results_cell_row rfl _ _ (w.heap.size+1) 56 (hA ht) (0,0) _ rfl (setRow_heap _ _ _ _ _ _ f.o) Tryz.underlying56 rfl (ii (gV ht hl))) rfl ⟨rfl,below_setRow o.o f_ _⟩
theorem xR h n w (c:h.r.length=32) (i:iy n) :
 Calls gd 174 #[e_ (hA h),b_ c_ 773,b_ c_ n] w fun e w'=>e =fH (e_ (hA (hP h 773 n)))∧Up w w':=by
 have d:=gg i;clear i;have g:gi (hP h 773 n = { h with ve:=gY 6 n (-4) }):=gg (by unfold hP;simp only[Int.reduceEq,if_false,if_true]);have hl:=jP 773 n c;obtain⟨b,j,a,k,m,u⟩:=lU w (d_ (hA h) 56) (d_ zA 56);have t:=gv a (lT h c).2.2.1;have f0:=gC a 34;have s:=gg j
 have p:gi ((b.setCell ⟨w.heap.size,34,none⟩ (b_ c_ (gY 6 n (-4)))).heap[w.heap.size]? = some (d_ (hA (hP h 773 n)) 56 (0,0))):=by
  have q:=mT a 34 (b_ c_ (gY 6 n (-4))) _ (Bj h c (gY 6 n (-4)));rw[g.o];exact gg q
 have f:gi ((b.setCell ⟨w.heap.size,34,none⟩ (b_ c_ (gY 6 n (-4)))).heap[w.heap.size+1]? = some (d_ zA 56 (0,0))):=gg (jL f_ k);have o:gi (Up w (b.setCell ⟨w.heap.size,34,none⟩ (b_ c_ (gY 6 n (-4))))):=gg (gO m fL _);clear a k j g;generalize l:hP h 773 n=ht at *
 have x:=gg l;clear l;go_enter Tryz.func174,Tryz.ntmps174;go_upto_region 1 with(fail)
 change Code.wp _ _ _ _ ((w.alloc (d_ (hA h) 56)).alloc (d_ zA 56));rw[←s.o];go_upto_region 15 with(first|(go_at_call 99;(with_reducible refine(iw 6 n (-4) _ d.o fZ).mono ?_);rintro e w' ⟨rfl,rfl⟩)|(go_at_call 99;(with_reducible refine(iw 6 n 136 _ d.o fZ).mono ?_);rintro e w' ⟨rfl,rfl⟩))
 clear t f0
 go_wp2_with (first|(refine wpList_load_row rfl 56 _ rfl (w.heap.size) rfl 56 (hA ht) (0,0) _ p.o Tryz.underlying56 rfl (ii (gV ht hl)) ?_)|(refine wpList_store_row rfl 56 _ _ rfl (w.heap.size+1) (hA ht) rfl rfl 56 zA f.o (ii (gV ht hl)) (by rw[gV ht hl];rfl) (jU ht) ?_))
 exact bodyPost_ret (v:=e_ (hA ht)) (results_cell_row rfl _ _ (w.heap.size+1) 56 (hA ht) (0,0) _ rfl (setRow_heap _ _ _ _ _ _ f.o) Tryz.underlying56 rfl (ii (gV ht hl))) rfl ⟨rfl,below_setRow o.o f_ _⟩
theorem xS h n w (c:h.r.length=32) (i:iy n) :
 Calls gd 174 #[e_ (hA h),b_ c_ 832,b_ c_ n] w fun e w'=>e =fH (e_ (hA (hP h 832 n)))∧Up w w':=by
 have d:=gg i;clear i;have g:gi (hP h 832 n = { h with sc:=n }):=gg (by unfold hP;simp only[Int.reduceEq,if_false,if_true]);have hl:=jP 832 n c;obtain⟨b,j,a,k,m,u⟩:=lU w (d_ (hA h) 56) (d_ zA 56);have t:=gv a (lT h c).2.2.2.1;have f0:=gC a 35;have s:=gg j
 have p:gi ((b.setCell ⟨w.heap.size,35,none⟩ (b_ c_ (n))).heap[w.heap.size]? = some (d_ (hA (hP h 832 n)) 56 (0,0))):=by
  have q:=mT a 35 (b_ c_ (n)) _ (Bi h c (n));rw[g.o];exact gg q
 have f:gi ((b.setCell ⟨w.heap.size,35,none⟩ (b_ c_ (n))).heap[w.heap.size+1]? = some (d_ zA 56 (0,0))):=gg (jL f_ k);have o:gi (Up w (b.setCell ⟨w.heap.size,35,none⟩ (b_ c_ (n)))):=gg (gO m fL _);clear a k j g;generalize l:hP h 832 n=ht at *
 have x:=gg l;clear l;go_enter Tryz.func174,Tryz.ntmps174;go_upto_region 1 with(fail)
 change Code.wp _ _ _ _ ((w.alloc (d_ (hA h) 56)).alloc (d_ zA 56));rw[←s.o];go_upto_region 15 with(first|(go_at_call 99;(with_reducible refine(iw 6 n (-4) _ d.o fZ).mono ?_);rintro e w' ⟨rfl,rfl⟩)|(go_at_call 99;(with_reducible refine(iw 6 n 136 _ d.o fZ).mono ?_);rintro e w' ⟨rfl,rfl⟩))
 clear t f0
 go_wp2_with (first|(refine wpList_load_row rfl 56 _ rfl (w.heap.size) rfl 56 (hA ht) (0,0) _ p.o Tryz.underlying56 rfl (ii (gV ht hl)) ?_)|(refine wpList_store_row rfl 56 _ _ rfl (w.heap.size+1) (hA ht) rfl rfl 56 zA f.o (ii (gV ht hl)) (by rw[gV ht hl];rfl) (jU ht) ?_))
 exact bodyPost_ret (v:=e_ (hA ht)) (results_cell_row rfl _ _ (w.heap.size+1) 56 (hA ht) (0,0) _ rfl (setRow_heap _ _ _ _ _ _ f.o) Tryz.underlying56 rfl (ii (gV ht hl))) rfl ⟨rfl,below_setRow o.o f_ _⟩
theorem xT h n w (c:h.r.length=32) (i:iy n) :
 Calls gd 174 #[e_ (hA h),b_ c_ 833,b_ c_ n] w fun e w'=>e =fH (e_ (hA (hP h 833 n)))∧Up w w':=by
 have d:=gg i;clear i;have g:gi (hP h 833 n = { h with ep:=gY 6 n (-4) }):=gg (by unfold hP;simp only[Int.reduceEq,if_false,if_true]);have hl:=jP 833 n c;obtain⟨b,j,a,k,m,u⟩:=lU w (d_ (hA h) 56) (d_ zA 56);have t:=gv a (lT h c).2.2.2.2.1;have f0:=gC a 36;have s:=gg j
 have p:gi ((b.setCell ⟨w.heap.size,36,none⟩ (b_ c_ (gY 6 n (-4)))).heap[w.heap.size]? = some (d_ (hA (hP h 833 n)) 56 (0,0))):=by
  have q:=mT a 36 (b_ c_ (gY 6 n (-4))) _ (sW h c (gY 6 n (-4)));rw[g.o];exact gg q
 have f:gi ((b.setCell ⟨w.heap.size,36,none⟩ (b_ c_ (gY 6 n (-4)))).heap[w.heap.size+1]? = some (d_ zA 56 (0,0))):=gg (jL f_ k);have o:gi (Up w (b.setCell ⟨w.heap.size,36,none⟩ (b_ c_ (gY 6 n (-4))))):=gg (gO m fL _);clear a k j g;generalize l:hP h 833 n=ht at *
 have x:=gg l;clear l;go_enter Tryz.func174,Tryz.ntmps174;go_upto_region 1 with(fail)
 change Code.wp _ _ _ _ ((w.alloc (d_ (hA h) 56)).alloc (d_ zA 56));rw[←s.o];go_upto_region 15 with(first|(go_at_call 99;(with_reducible refine(iw 6 n (-4) _ d.o fZ).mono ?_);rintro e w' ⟨rfl,rfl⟩)|(go_at_call 99;(with_reducible refine(iw 6 n 136 _ d.o fZ).mono ?_);rintro e w' ⟨rfl,rfl⟩))
 clear t f0
 go_wp2_with (first|(refine wpList_load_row rfl 56 _ rfl (w.heap.size) rfl 56 (hA ht) (0,0) _ p.o Tryz.underlying56 rfl (ii (gV ht hl)) ?_)|(refine wpList_store_row rfl 56 _ _ rfl (w.heap.size+1) (hA ht) rfl rfl 56 zA f.o (ii (gV ht hl)) (by rw[gV ht hl];rfl) (jU ht) ?_))
 exact bodyPost_ret (v:=e_ (hA ht)) (results_cell_row rfl _ _ (w.heap.size+1) 56 (hA ht) (0,0) _ rfl (setRow_heap _ _ _ _ _ _ f.o) Tryz.underlying56 rfl (ii (gV ht hl))) rfl ⟨rfl,below_setRow o.o f_ _⟩
theorem xU h n w (c:h.r.length=32) (i:iy n) :
 Calls gd 174 #[e_ (hA h),b_ c_ 834,b_ c_ n] w fun e w'=>e =fH (e_ (hA (hP h 834 n)))∧Up w w':=by
 have d:=gg i;clear i;have g:gi (hP h 834 n = { h with ca:=n }):=gg (by unfold hP;simp only[Int.reduceEq,if_false,if_true]);have hl:=jP 834 n c;obtain⟨b,j,a,k,m,u⟩:=lU w (d_ (hA h) 56) (d_ zA 56);have t:=gv a (lT h c).2.2.2.2.2.1;have f0:=gC a 37;have s:=gg j
 have p:gi ((b.setCell ⟨w.heap.size,37,none⟩ (b_ c_ (n))).heap[w.heap.size]? = some (d_ (hA (hP h 834 n)) 56 (0,0))):=by
  have q:=mT a 37 (b_ c_ (n)) _ (sV h c (n));rw[g.o];exact gg q
 have f:gi ((b.setCell ⟨w.heap.size,37,none⟩ (b_ c_ (n))).heap[w.heap.size+1]? = some (d_ zA 56 (0,0))):=gg (jL f_ k);have o:gi (Up w (b.setCell ⟨w.heap.size,37,none⟩ (b_ c_ (n)))):=gg (gO m fL _);clear a k j g;generalize l:hP h 834 n=ht at *
 have x:=gg l;clear l;go_enter Tryz.func174,Tryz.ntmps174;go_upto_region 1 with(fail)
 change Code.wp _ _ _ _ ((w.alloc (d_ (hA h) 56)).alloc (d_ zA 56));rw[←s.o];go_upto_region 15 with(first|(go_at_call 99;(with_reducible refine(iw 6 n (-4) _ d.o fZ).mono ?_);rintro e w' ⟨rfl,rfl⟩)|(go_at_call 99;(with_reducible refine(iw 6 n 136 _ d.o fZ).mono ?_);rintro e w' ⟨rfl,rfl⟩))
 clear t f0
 go_wp2_with (first|(refine wpList_load_row rfl 56 _ rfl (w.heap.size) rfl 56 (hA ht) (0,0) _ p.o Tryz.underlying56 rfl (ii (gV ht hl)) ?_)|(refine wpList_store_row rfl 56 _ _ rfl (w.heap.size+1) (hA ht) rfl rfl 56 zA f.o (ii (gV ht hl)) (by rw[gV ht hl];rfl) (jU ht) ?_))
 exact bodyPost_ret (v:=e_ (hA ht)) (results_cell_row rfl _ _ (w.heap.size+1) 56 (hA ht) (0,0) _ rfl (setRow_heap _ _ _ _ _ _ f.o) Tryz.underlying56 rfl (ii (gV ht hl))) rfl ⟨rfl,below_setRow o.o f_ _⟩
theorem uD h n w (c:h.r.length=32) (i:iy n) :
 Calls gd 174 #[e_ (hA h),b_ c_ 1984,b_ c_ n] w fun e w'=>e =fH (e_ (hA (hP h 1984 n)))∧Up w w':=by
 have d:=gg i;clear i;have g:gi (hP h 1984 n = { h with le:=n }):=gg (by unfold hP;simp only[Int.reduceEq,if_false,if_true]);have hl:=jP 1984 n c;obtain⟨b,j,a,k,m,u⟩:=lU w (d_ (hA h) 56) (d_ zA 56);have t:=gv a (lT h c).2.2.2.2.2.2;have f0:=gC a 38;have s:=gg j
 have p:gi ((b.setCell ⟨w.heap.size,38,none⟩ (b_ c_ (n))).heap[w.heap.size]? = some (d_ (hA (hP h 1984 n)) 56 (0,0))):=by
  have q:=mT a 38 (b_ c_ (n)) _ (Bh h c (n));rw[g.o];exact gg q
 have f:gi ((b.setCell ⟨w.heap.size,38,none⟩ (b_ c_ (n))).heap[w.heap.size+1]? = some (d_ zA 56 (0,0))):=gg (jL f_ k);have o:gi (Up w (b.setCell ⟨w.heap.size,38,none⟩ (b_ c_ (n)))):=gg (gO m fL _);clear a k j g;generalize l:hP h 1984 n=ht at *
 have x:=gg l;clear l;go_enter Tryz.func174,Tryz.ntmps174;go_upto_region 1 with(fail)
 change Code.wp _ _ _ _ ((w.alloc (d_ (hA h) 56)).alloc (d_ zA 56));rw[←s.o];go_upto_region 15 with(first|(go_at_call 99;(with_reducible refine(iw 6 n (-4) _ d.o fZ).mono ?_);rintro e w' ⟨rfl,rfl⟩)|(go_at_call 99;(with_reducible refine(iw 6 n 136 _ d.o fZ).mono ?_);rintro e w' ⟨rfl,rfl⟩))
 clear t f0
 go_wp2_with (first|(refine wpList_load_row rfl 56 _ rfl (w.heap.size) rfl 56 (hA ht) (0,0) _ p.o Tryz.underlying56 rfl (ii (gV ht hl)) ?_)|(refine wpList_store_row rfl 56 _ _ rfl (w.heap.size+1) (hA ht) rfl rfl 56 zA f.o (ii (gV ht hl)) (by rw[gV ht hl];rfl) (jU ht) ?_))
 exact bodyPost_ret (v:=e_ (hA ht)) (results_cell_row rfl _ _ (w.heap.size+1) 56 (hA ht) (0,0) _ rfl (setRow_heap _ _ _ _ _ _ f.o) Tryz.underlying56 rfl (ii (gV ht hl))) rfl ⟨rfl,below_setRow o.o f_ _⟩
theorem AD h csr n w (a:h.r.length=32) (f:iy n) (m:qn csr) :
 Calls gd 174 #[e_ (hA h),b_ c_ csr,b_ c_ n] w fun e w'=>e =fH (e_ (hA (hP h csr n)))∧Up w w':=by
 have k:=gg f;clear f;obtain⟨a1,a2,a3,a4,a5,b⟩:=m;have t:=fS a1;have u:=fS a2;have y:=fS a3;have z:=fS a4;have A:=fS a5;have p:=fS b;have d:hP h csr n=h:=by unfold hP;rw[if_neg a1,if_neg a2,if_neg a3,if_neg a4,if_neg a5,if_neg b]
 rw[d];clear a1 a2 a3 a4 a5 b d;obtain⟨x,g,j,i,s,q⟩:=lU w (d_ (hA h) 56) (d_ zA 56);have o:=gg g;have l:=gg j;have c:=gg i;clear j i g;go_enter Tryz.func174,Tryz.ntmps174;go_upto_region 1 with(fail)
 change Code.wp _ _ _ _ ((w.alloc (d_ (hA h) 56)).alloc (d_ zA 56));rw[←o.o];go_upto_region 15 with(go_at_call 99;(with_reducible refine(iw 6 n (-4) _ k.o fZ).mono ?_);rintro e w' ⟨rfl,rfl⟩)
 go_wp2_with (first|(refine wpList_load_row rfl 56 _ rfl (w.heap.size) rfl 56 (hA h) (0,0) _ l.o Tryz.underlying56 rfl (ii (gV h a)) ?_)|(refine wpList_store_row rfl 56 _ _ rfl (w.heap.size+1) (hA h) rfl rfl 56 zA c.o (ii (gV h a)) (by rw[gV h a];rfl) (jU h) ?_))
 exact bodyPost_ret (v:=e_ (hA h)) (results_cell_row rfl _ _ (w.heap.size+1) 56 (hA h) (0,0) _ rfl (setRow_heap _ _ _ _ _ _ c.o) Tryz.underlying56 rfl (ii (gV h a))) rfl ⟨rfl,below_setRow (by repeat(first|(with_reducible exact Below.refl _ _)|(with_reducible refine gO ?_ ?_ _)|(with_reducible apply iS)|(with_reducible refine gj ?_ (by with_reducible assumption))|(with_reducible apply iR)|omega)) f_ _⟩
theorem xV h csr n w (a:h.r.length=32) (b:iy n) :
 Calls gd 174 #[e_ (hA h),b_ c_ csr,b_ c_ n] w fun e w'=>e =fH (e_ (hA (hP h csr n)))∧Up w w':=by
 by_cases h0:csr=768
 · subst h0;exact xQ h n w a b
 by_cases h1:csr=773
 · subst h1;exact xR h n w a b
 by_cases h2:csr=832
 · subst h2;exact xS h n w a b
 by_cases h3:csr=833
 · subst h3;exact xT h n w a b
 by_cases h4:csr=834
 · subst h4;exact xU h n w a b
 by_cases h5:csr=1984
 · subst h5;exact uD h n w a b
 exact AD h csr n w a b ⟨h0,h1,h2,h3,h4,h5⟩
end
section
open Go.RowKit
set_option maxRecDepth 100000
set_option linter.unusedSimpArgs false
set_option linter.unusedVariables false
theorem iH {w w'} {b:Nat} {o} (a:Up w w') (h:w.heap[b]? = some o):w'.heap[b]? = some o:=iE a (gn h) h
theorem qm w (o):Up w (w.alloc o):=fK.alloc fL _
theorem j9 {x} (h:iF x):iy x:=by obtain⟨a,b⟩:=h;constructor <;> omega
theorem Al (v n):lC 41 v n=gY 7 v n:=by unfold lC;rw[if_pos rfl]
theorem Am (v n):lC 42 v n=gY 6 v (lG 17 n):=by unfold lC;rw[if_neg fZ,if_pos rfl]
set_option maxRecDepth 100000 in
theorem Ap h id op d b n v (k:Nat) w (f:jw h) (hid:iy id) (G:k<32) (p:jV h id n=(v,false)) :
 Calls gd 130 #[e_ (hA h),b_ c_ id,gK ⟨op,d,k,b,n⟩] w fun e w'=>e =fH (fI #[e_ (hA h),jj ⟨9,0,0,0,0⟩])∧Up w w':=by
 have a:=f.len;obtain⟨I,s,q,i,t,x,B,A⟩:=vf w (d_ (hA h) 56) (d_ #[b_ c_ op,b_ c_ d,b_ c_ k,b_ c_ b,b_ c_ n] 72) (d_ zA 56) (d_ gL 131);have C:=gv i (j:=4) (u:=b_ c_ n) rfl;have y:=gg s;have g:=gg q;have z:=gg i;have l:=gg t;have o:=gg x;have F:=gg p;have E:=gg hid;clear q i t x s p hid f;unfold gK;go_enter Tryz.func130,Tryz.ntmps130;go_upto_region 1 with(fail)
 change Code.wp _ _ _ _ ((((w.alloc (d_ (hA h) 56)).alloc (d_ #[b_ c_ op,b_ c_ d,b_ c_ k,b_ c_ b,b_ c_ n] 72)).alloc (d_ zA 56)).alloc (d_ gL 131));rw[←y.o]
 go_wp2_with (refine wpList_load_row rfl 56 _ rfl (w.heap.size) rfl 56 (hA h) (0,0) _ g.o Tryz.underlying56 rfl (ii (gV h a)) ?_)
 refine(mC h id n v false _ a E.o F.o).mono ?_
 rintro e w1 ⟨rfl,c⟩;have D:=gg (iH c g.o);have K:=gg (iH c z.o);have m:=gg (iH c l.o);have r:=gg (iH c o.o);have H:Up w w1:=(by repeat(first|(with_reducible exact Below.refl _ _)|(with_reducible refine gO ?_ ?_ _)|(with_reducible apply iS)|(with_reducible refine gj ?_ (by with_reducible assumption))|(with_reducible apply iR)|omega));have J:w.heap.size+4≤w1.heap.size:=by have:=c.size;omega
 clear C g z l o y B A c
 go_wp2_with (first|(refine wpList_load_row rfl 56 _ rfl (w.heap.size) rfl 56 (hA h) (0,0) _ D.o Tryz.underlying56 rfl (ii (gV h a)) ?_)|(refine wpList_store_row rfl 56 _ _ rfl (w.heap.size+2) (hA h) rfl rfl 56 zA m.o (ii (gV h a)) (by rw[gV h a];rfl) (jU h) ?_)|(refine wpList_store_row rfl 131 _ _ rfl (w.heap.size+3) #[b_ c_ 9,b_ c_ 0,b_ c_ 0,b_ c_ 0,b_ c_ 0] rfl rfl 131 gL (iL f_ r.o) ga rfl ga ?_))
 exact bodyPost_ret (v:=fI #[e_ (hA h),jj ⟨9,0,0,0,0⟩]) (yI rfl _ _ (w.heap.size+2) (w.heap.size+3) 56 131 (hA h) #[b_ c_ 9,b_ c_ 0,b_ c_ 0,b_ c_ 0,b_ c_ 0] (0,0) (0,0) _ _ rfl rfl (iL f_ (setRow_heap _ _ _ _ _ _ m.o)) (setRow_heap _ _ _ _ _ _ (iL f_ r.o)) Tryz.underlying56 rfl (ii (gV h a)) Tryz.underlying131 rfl ga) rfl ⟨rfl,below_setRow (below_setRow (by repeat(first|(with_reducible exact Below.refl _ _)|(with_reducible refine gO ?_ ?_ _)|(with_reducible apply iS)|(with_reducible refine gj ?_ (by with_reducible assumption))|(with_reducible apply iR)|omega)) f_ _) f_ _⟩
set_option maxRecDepth 100000 in
theorem xB h id op d b n v (k:Nat) w (f:jw h) (hid:iy id) (p:k<32) (F:jV h id n=(v,true)) :
 Calls gd 130 #[e_ (hA h),b_ c_ id,gK ⟨op,d,k,b,n⟩] w fun e w'=>e =fH (fI #[e_ (hA { gR (hP h n (lC op v (h.r.getD k 0))) d v with pc:=wrap32 (h.pc+4) }),jj ⟨0,0,0,0,0⟩])∧Up w w':=by
 have m:=f.len;have ap:iy v:=by have:=nM f id n;rw[F] at this;exact j9 this
 have s:iy (h.r.getD k 0):=j9 (f.reg k p);have ah:iy (h.pc+4):=by have:=f.pc.1;have:=f.pc.2;constructor <;> omega
 have ar:iy (lC op v (h.r.getD k 0)):=by
  have h1:iF v:=by have:=nM f id n;rw[F] at this;exact this
  rw[tn h1 (f.reg k p)];exact j9 (rK h1 (f.reg k p))
 have ak:iy (lG 17 (h.r.getD k 0)):=by have:=f.reg k p;unfold lG;simp only[Int.reduceEq,if_false,if_true];exact j9 (gG _)
 have U:=gg ap;have H:=gg s;have K:=gg ah;have R:=gg ar;have Q:=gg ak;clear ap s ah ar ak;obtain⟨w0,ag,hx,V,hz,hy,ax,aw⟩:=vf w (d_ (hA h) 56) (d_ #[b_ c_ op,b_ c_ d,b_ c_ k,b_ c_ b,b_ c_ n] 72) (d_ zA 56) (d_ gL 131);have i4:=gv V (j:=4) (u:=b_ c_ n) rfl;have HW:=gg ag;have N:=gg hx;have HI:=gg V;have HZ:=gg hz;have HY:=gg hy;have HV:=gg F;have aq:=gg hid;clear hx V hz hy ag F hid f;unfold gK;obtain⟨l,s⟩:∃ l,h.r.getD k 0=l:=⟨_,rfl⟩;rw[s] at H R Q ⊢
 obtain⟨c,T⟩:∃ c,lC op v l=c:=⟨_,rfl⟩;rw[T] at R ⊢
 obtain⟨ht,X⟩:∃ ht:Ht,({ gR (hP h n c) d v with pc:=wrap32 (h.pc+4) }:Ht)=ht:=⟨_,rfl⟩;rw[X];have ae:=gg s;have G:=gg T;have af:=gg X;clear s T X;go_enter Tryz.func130,Tryz.ntmps130;go_upto_region 1 with(fail)
 change Code.wp _ _ _ _ ((((w.alloc (d_ (hA h) 56)).alloc (d_ #[b_ c_ op,b_ c_ d,b_ c_ k,b_ c_ b,b_ c_ n] 72)).alloc (d_ zA 56)).alloc (d_ gL 131));rw[←HW.o]
 go_wp2_with (refine wpList_load_row rfl 56 _ rfl (w.heap.size) rfl 56 (hA h) (0,0) _ N.o Tryz.underlying56 rfl (ii (gV h m)) ?_)
 refine(mC h id n v true _ m aq.o HV.o).mono ?_
 rintro e w1 ⟨rfl,t⟩;have C:=gg (iH t N.o);have B:=gg (iH t HI.o);have ai:=gg (iH t HZ.o);have an:=gg (iH t HY.o);have Y:Up w w1:=(by repeat(first|(with_reducible exact Below.refl _ _)|(with_reducible refine gO ?_ ?_ _)|(with_reducible apply iS)|(with_reducible refine gj ?_ (by with_reducible assumption))|(with_reducible apply iR)|omega));have aA:w.heap.size+4≤w1.heap.size:=by have:=t.size;omega
 clear i4 N HI HZ HY HW ax aw t;have L:=gv C.o (l9 h m k p);have S:gi ((hA h)[k]? = some (b_ c_ l)):=gg (by rw[l9 h m k p,ae.o]);clear L;have L:=gv C.o S.o;have m0:=gv B.o (j:=0) (u:=b_ c_ op) rfl;have m2:=gv B.o (j:=2) (u:=b_ c_ k) rfl;have lx:=gn C.o;have li:=gn B.o;clear S
 go_upto_block 0 with(go_at_call 173;(with_reducible refine(qH 17 l _ H.o).mono ?_);rintro e w' ⟨rfl,rfl⟩)
 go_cut [10] (fun aB wx=>aB =b_ c_ c∧wx=w1)
 case first=>as_aux_lemma=>
  by_cases J:op=41
  · subst J
    have q:gi (gY 7 v l=c):=gg ((Al v l).symm.trans G.o)
    go_wp2_with (go_at_call 99;(with_reducible refine(iw 7 v l _ U.o H.o).mono ?_);rintro e w' ⟨rfl,rfl⟩)
    rw[q.o];go_meet
    case rel=>exact⟨rfl,rfl⟩
  by_cases I:op=42
  · subst I
    have q:gi (gY 6 v (lG 17 l)=c):=gg ((Am v l).symm.trans G.o)
    go_wp2_with (go_at_call 99;(with_reducible refine(iw 6 v (lG 17 l) _ U.o Q.o).mono ?_);rintro e w' ⟨rfl,rfl⟩)
    rw[q.o];go_meet
    case rel=>exact⟨rfl,rfl⟩
  · have q:l=c:=by rw[←G.o];unfold lC;rw[if_neg J,if_neg I]
    have S:=fS J;have q2:=fS I;clear J I;subst q
    go_wp2
    go_meet
    case rel=>exact⟨rfl,rfl⟩
 case rest=>as_aux_lemma=>
  obtain⟨rfl,aC⟩:=hcut;subst aC;clear L m0 m2
  go_wp2_with fail
  have ab:gi (∃ g:Ht,gR (hP h n c) d v=g∧g.r.length=32∧({ g with pc:=wrap32 (h.pc+4) }:Ht)=ht):=gg ⟨_,rfl,mo (jP n c m) d v,af.o⟩;obtain⟨g,hg,am,ad⟩:=ab.o;have HG:=gg hg;have z:=gg am;have ao:=gg ad;clear ab hg am ad af ae G HV aq H Q;refine fX (fun w'=>w'.heap[w.heap.size]? = some (d_ (hA h) 56 (0,0))∧w'.heap[w.heap.size+1]? = some (d_ #[b_ c_ op,b_ c_ d,b_ c_ k,b_ c_ b,b_ c_ n] 72 (0,0))) [true,true,true,true,true,true,true,true,true,false,false] (fun _ _ hh hu=>⟨iH hu hh.1,iH hu hh.2⟩) ⟨C.o,B.o⟩ ?ra ?rh ?rt
  case rh=>
   intro w0 h0
   have R0:gi (∀ w':World,(∃ x:Wd w0,w'=x.val)→(loadVar 56 ⟨w.heap.size,0,none⟩).run gd w' = .ok (e_ (hA h)) w'):=by
    rintro w' ⟨x,rfl⟩;exact run_loadVar_row _ _ 56 56 (hA h) (0,0) _ (iE x.bel (gn h0.1) h0.1) Tryz.underlying56 rfl (ii (gV h m))
   have r1:=fun x=>gD (gn h0.2) (gv h0.2 (j:=1) (u:=b_ c_ d) rfl) x
   have r4:=fun x=>gD (gn h0.2) (gv h0.2 (j:=4) (u:=b_ c_ n) rfl) x
   clear h0;simp only[jd]
   go_big_quiet_want
   refine Br 56 _ (w.heap.size) (hA h) rfl rfl R0.o ?_
   simp only[Act.put,fU,fV,fW]
   go_big_quiet_on
   repeat(go_big_quiet_step ((first|(go_at_call 174;with_reducible exact oS (xV h n c _ m R.o))|(go_at_call 128;with_reducible exact oS (jO (hP h n c) d v _ (jP n c m) U.o)))))
   refine wpQuiet_nil ?_
   rfl
  case rt=>as_aux_lemma=>
   change kN _ _ _ _ _ 2 _ _ _;rw[HG.o];refine js (i:=9) ga rfl ?_
   intro a o ac;have o:=nE o;have B5:=gg (gj Y o);have P:=gg ac;have Z5:=gg (iH o ai.o);have Y5:=gg (iH o an.o);have s5:w.heap.size+4≤a.heap.size:=by have:=o.size;omega
   clear o ac C B ai an Y aA lx li
   go_wp2_with fail
   refine⟨⟨iH (qm _ _) P.o.1,iH (qm _ _) P.o.2⟩,?_⟩;refine js (i:=10) ga rfl ?_
   intro w6 D aj;have W:=gg (iH D (gH a (d_ zA 56)));have B6:=gg (gj B5.o (gj (qm a (d_ zA 56)) D));have O:=gg aj;have Z6:=gg (iH (gj (qm a (d_ zA 56)) D) Z5.o);have Y6:=gg (iH (gj (qm a (d_ zA 56)) D) Y5.o);clear D aj P Z5 Y5 B5
   go_wp2_with ((refine wpList_store_row rfl 56 _ _ rfl (a.heap.size) (hA g) rfl rfl 56 zA W.o (ii (gV g z.o)) (by rw[gV g z.o];rfl) (jU g) ?_))
   refine⟨⟨iL f_ O.o.1,iL f_ O.o.2⟩,?_⟩;refine od ga ?_
   intro y A al;have M:=gg (iH A (setRow_heap _ _ _ _ _ _ W.o:(w6.setRow a.heap.size (hA g)).heap[a.heap.size]? = some (d_ (hA g) 56 (0,0))));have B7:=gg (gj (below_setRow B6.o f_ (hA g)) A:Up w y);have Z7:=gg (iH A (iL (cs:=hA g) f_ Z6.o));have Y7:=gg (iH A (iL (cs:=hA g) f_ Y6.o));have D7:=gg al;clear A al O Z6 Y6 B6 W;have au:=gv D7.o.1 (lT h m).1;have av:=gv M.o (lT g z.o).1;have ay:=gC M.o 32;have az:c_.wrap (h.pc+4)=h.pc+4:=IntWalk.i64_in _ (by have:=K.o.1;have:=K.o.2;omega)
   have X8:gi ((y.setCell ⟨a.heap.size,32,none⟩ (b_ c_ (wrap32 (h.pc+4)))).heap[a.heap.size]? = some (d_ (hA ht) 56 (0,0))):=by
    have s1:=mT M.o 32 (b_ c_ (wrap32 (h.pc+4))) _ (Bb g z.o (wrap32 (h.pc+4)));rw[ao.o] at s1;exact gg s1
   have Z:gi ((y.setCell ⟨a.heap.size,32,none⟩ (b_ c_ (wrap32 (h.pc+4)))).heap[w.heap.size+2]? = some (d_ zA 56 (0,0))):=gg (jL f_ Z7.o);have Y8:gi ((y.setCell ⟨a.heap.size,32,none⟩ (b_ c_ (wrap32 (h.pc+4)))).heap[w.heap.size+3]? = some (d_ gL 131 (0,0))):=gg (jL f_ Y7.o);have B8:gi (Up w (y.setCell ⟨a.heap.size,32,none⟩ (b_ c_ (wrap32 (h.pc+4))))):=gg (gO B7.o (by show w.heap.size≤a.heap.size;omega) _);have aa:ht.r.length=32:=by rw[←ao.o];exact z.o
   have E:=gg aa;clear aa;go_upto_region 13 with(go_at_call 95;(with_reducible refine(gI (h.pc+4) _ K.o).mono ?_);rintro e w' ⟨rfl,rfl⟩)
   clear au av ay az
   go_wp2_with (first|(refine wpList_load_row rfl 56 _ rfl (a.heap.size) rfl 56 (hA ht) (0,0) _ X8.o Tryz.underlying56 rfl (ii (gV ht E.o)) ?_)|(refine wpList_store_row rfl 56 _ _ rfl (w.heap.size+2) (hA ht) rfl rfl 56 zA Z.o (ii (gV ht E.o)) (by rw[gV ht E.o];rfl) (jU ht) ?_)|(refine wpList_store_row rfl 131 _ _ rfl (w.heap.size+3) gL rfl rfl 131 gL (iL f_ Y8.o) ga rfl ga ?_))
   exact bodyPost_ret (v:=fI #[e_ (hA ht),e_ gL]) (yI rfl _ _ (w.heap.size+2) (w.heap.size+3) 56 131 (hA ht) gL (0,0) (0,0) _ _ rfl rfl (iL f_ (setRow_heap _ _ _ _ _ _ Z.o)) (setRow_heap _ _ _ _ _ _ (iL f_ Y8.o)) Tryz.underlying56 rfl (ii (gV ht E.o)) Tryz.underlying131 rfl ga) rfl ⟨rfl,below_setRow (below_setRow B8.o f_ _) f_ _⟩
theorem xz h id x w (f:jw h) (hid:iy id) (i:0≤x.a∧x.a<32) :
 Calls gd 130 #[e_ (hA h),b_ c_ id,gK x] w fun e w'=>e =fH (fI #[e_ (hA (kT h id x).1),jj (kT h id x).2])∧Up w w':=by
 obtain⟨op,d,a,b,n⟩:=x;simp only at i;obtain⟨k,rfl,g⟩:∃ k:Nat,a=k∧k<32:=⟨a.toNat,by omega,by omega⟩;obtain⟨⟨v,ok⟩,c⟩:∃ r,jV h id n=r:=⟨_,rfl⟩;cases ok
 · have E:kT h id ⟨op,d,k,b,n⟩=(h,⟨9,0,0,0,0⟩):=by unfold kT;simp only;rw[c];rfl
   rw[E];exact Ap h id op d b n v k w f hid g c
 · have E:kT h id ⟨op,d,k,b,n⟩=({ gR (hP h n (lC op v (h.r.getD k 0))) d v with pc:=wrap32 (h.pc+4) },⟨0,0,0,0,0⟩):=by unfold kT;simp only;rw[c];rfl
   rw[E];exact xB h id op d b n v k w f hid g c
end
