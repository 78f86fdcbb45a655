/- What the walks of this statement lean on: shown. -/
import Derived.Test.YtdobddiibgfeaaaGreatZa
import Derived.Test.YtdobddiibgfeaaaGreatRows
import Derived.StillTailTactics
set_option linter.all false
set_option maxRecDepth 100000
set_option maxHeartbeats 16000000
namespace Go.Proofs.YtdobddiibgfeaaaGreat
open Value renaming slice→a_,int→b_,agg→e_,pointer→fG,tuple→fI,bool→fJ
open IntKind renaming i64→c_
open Obj renaming cells→d_
open Ending renaming returned→fH
open Go.Proofs.Tryz renaming prog→gd
section
open Go.RowKit
def lz (b:Bool):Int:=if b then 1 else 0
def word (n:Int):Int:=n % 4294967296
def gY (op a b:Int):Int:=
 if op=1 then wrap32 (wrap32 a+wrap32 b)
 else if op=2 then wrap32 (wrap32 a - wrap32 b)
 else if op=3 then wrap32 (wrap32 a*wrap32 b)
 else if op=4 then (if wrap32 b=0 then -1 else wrap32 ((wrap32 a).tdiv (wrap32 b)))
 else if op=5 then (if wrap32 b=0 then wrap32 a else (wrap32 a).tmod (wrap32 b))
 else if op=6 then bits .and .i32 (wrap32 a) (wrap32 b)
 else if op=7 then bits .or .i32 (wrap32 a) (wrap32 b)
 else if op=8 then bits .xor .i32 (wrap32 a) (wrap32 b)
 else if op=9 then wrap32 (wrap32 a*2 ^ (b % 32).toNat)
 else if op=10 then wrap32 a / 2 ^ (b % 32).toNat
 else if op=11 then lz (decide (wrap32 a<wrap32 b))
 else if op=12 then lz (decide (word a<word b))
 else if op=13 then lz (wrap32 a == wrap32 b)
 else if op=14 then lz (wrap32 a != wrap32 b)
 else 0
def qV (op:Int):Bool:=decide (1≤op∧op≤14)
def wi (a b:Int):Int:=wrap32 (wrap32 a*wrap32 b / 4294967296)
def Bk (a b:Int):Int:=wrap32 (word a*word b / 4294967296)
def qe (a b:Int) (s:Bool):Int:=if s then wi a b else Bk a b
def yG (op:Int):Int:=
 if op=3∨op=4∨op=5 then 8 else if op=1∨op=2 then 7 else if op=9∨op=10 then 6 else if op=11∨op=12 then 5
 else if op=13∨op=14 then 4 else if op=6 then 3 else if op=8 then 2 else if op=7 then 1 else 0
/-! ### wraps -/
theorem oi (a:Int):-2147483648≤wrap32 a∧wrap32 a≤2147483647:=by unfold wrap32;omega
theorem pM (a):0≤word a∧word a<4294967296:=by unfold word;omega
theorem Bx (a):wrap64 (wrap32 a)=wrap32 a:=by unfold wrap64 wrap32;omega
theorem yD (a):wrap32 (wrap64 a)=wrap32 a:=by unfold wrap64 wrap32;omega
theorem Em {a} (h:-9223372036854775808≤a∧a≤9223372036854775807):wrap64 a=a:=by unfold wrap64;omega
theorem nz (x y:Int):-(x.natAbs:Int)≤x.tmod y∧x.tmod y≤x.natAbs:=by
 have h:=Int.natAbs_tmod x y;have h2:x.natAbs % y.natAbs≤x.natAbs:=Nat.mod_le _ _;omega
theorem yy a (y:Int):wrap64 ((wrap32 a).tmod y)=(wrap32 a).tmod y:=by
 have h:=nz (wrap32 a) y;have h2:=oi a;exact Em f_
theorem La (x):wrap32 x % 4294967296=x % 4294967296:=by unfold wrap32;omega
theorem Gk (x:BitVec 32):IntKind.i32.wrap (x.toNat:Int)=x.toInt:=by
 rw[IntKind.wrap_i32,BitVec.toInt_eq_toNat_bmod];unfold Int.bmod;simp only[Nat.reducePow];have:=x.isLt;omega
theorem Bw (x:BitVec 64):c_.wrap (x.toNat:Int)=x.toInt:=by
 rw[IntKind.wrap_i64,BitVec.toInt_eq_toNat_bmod];unfold Int.bmod;simp only[Nat.reducePow];have:=x.isLt;omega
theorem lk (x y):bits .and .i32 x y=(BitVec.ofInt 32 x &&& BitVec.ofInt 32 y).toInt:=Gk _
theorem kF (x y):bits .and .i64 x y=(BitVec.ofInt 64 x &&& BitVec.ofInt 64 y).toInt:=Bw _
theorem CY op (x y):-2147483648≤bits op .i32 x y∧bits op .i32 x y≤2147483647:=by
 unfold bits;simp only[IntKind.wrap_i32];omega
theorem Gb (x):bits .and .i32 x 31=x % 32:=by
 rw[lk,BitVec.toInt_eq_toNat_bmod,BitVec.toNat_and,BitVec.toNat_ofInt,BitVec.toNat_ofInt];rw[show ((31:Int) % (2 ^ 32:Nat)).toNat=31 from rfl,Nat.and_two_pow_sub_one_eq_mod _ 5];unfold Int.bmod;simp only[Nat.reducePow];omega
theorem Fd (x):bits .and .i64 x 31=x % 32:=by
 rw[kF,BitVec.toInt_eq_toNat_bmod,BitVec.toNat_and,BitVec.toNat_ofInt,BitVec.toNat_ofInt];rw[show ((31:Int) % (2 ^ 64:Nat)).toNat=31 from rfl,Nat.and_two_pow_sub_one_eq_mod _ 5];unfold Int.bmod;simp only[Nat.reducePow];omega
theorem IW (x):wrap32 x % 32=x % 32:=by unfold wrap32;omega
theorem K_ op (x y):wrap64 (bits op .i32 x y)=bits op .i32 x y:=by
 have:=CY op x y;exact Em f_
theorem pz x k (h:-2147483648≤x∧x≤2147483647):-2147483648≤x / 2 ^ k∧x / 2 ^ k≤2147483647:=by
 have a:(0:Int)<2 ^ k:=Int.pow_pos fZ;refine⟨?_,?_⟩
 · rw[Int.le_ediv_iff_mul_le a]
   have:(1:Int)≤2 ^ k:=a;have h2:(-2147483648:Int)*2 ^ k ≤ -2147483648*1:=Int.mul_le_mul_of_nonpos_left fZ this;omega
 · by_cases b:0≤x
   · have:=Int.ediv_le_self (2 ^ k) b;omega
   · have:x / 2 ^ k<0:=Int.ediv_neg_of_neg_of_pos f_ a
     omega
theorem AM a (k):wrap64 (wrap32 a / 2 ^ k)=wrap32 a / 2 ^ k:=by
 have:=pz (wrap32 a) k (oi a);exact Em f_
theorem mO x y B C (a:x.natAbs≤B) (b:y.natAbs≤C):-((B*C:Nat):Int)≤x*y∧x*y≤((B*C:Nat):Int):=by
 have h:=Nat.mul_le_mul a b;rw[←Int.natAbs_mul] at h;omega
theorem wT (a b):-4611686018427387904≤wrap32 a*wrap32 b∧wrap32 a*wrap32 b≤4611686018427387904:=by
 have h1:=oi a;have h2:=oi b;exact mO _ _ 2147483648 2147483648 f_ f_
theorem I7 (a b):0≤word a*word b∧word a*word b≤18446744065119617025:=by
 have h1:=pM a;have h2:=pM b;refine⟨Int.mul_nonneg h1.1 h2.1,(mO _ _ 4294967295 4294967295 f_ f_).2⟩
theorem EJ (a):IntKind.u64.wrap (word a)=word a:=by have:=pM a;exact IntWalk.u64_in _ f_
theorem Ir (a b):IntKind.u64.wrap (word a*word b)=word a*word b:=by have:=I7 a b;exact IntWalk.u64_in _ f_
theorem z_ (a b):word a*word b / 4294967296 % 4294967296=word a*word b / 4294967296:=by have:=I7 a b;omega
theorem LW (a b):wrap64 (wrap32 a*wrap32 b)=wrap32 a*wrap32 b:=by have:=wT a b;exact Em f_
theorem sE (x):-9223372036854775808≤wrap64 x∧wrap64 x≤9223372036854775807:=by unfold wrap64;omega
set_option linter.unusedSimpArgs false
theorem io {k a b} (h:a=b):Value.int k a = .int k b:=by rw[h]
theorem iO {a b} (h:a=b):Value.bool a = fJ b:=by rw[h]
theorem gt {a b} (h:a=b):Ending.returned a =fH b:=by rw[h]
theorem mQ {a b c d} (h:a=c) (e:b=d):Ending.returned (fI #[a,b]) =fH (fI #[c,d]):=by rw[h,e]
theorem mF a (w) :
 Calls gd 124 #[b_ c_ a] w fun e w'=>e =fH (b_ c_ (wrap32 a))∧w=w':=by
 go_in;go_wp2;go_ret;exact⟨gt (io (Bx a)),rfl⟩
theorem vV b (w) :
 Calls gd 193 #[fJ b] w fun e w'=>e =fH (b_ c_ (lz b))∧w=w':=by
 cases b <;>
 · go_in
   go_wp2;go_ret;exact⟨gt (io rfl),rfl⟩
theorem Kt op x y w (b:op=4∨op=5) :
 Calls gd 186 #[b_ c_ op,.int .i32 (wrap32 x),.int .i32 (wrap32 y)] w fun e w'=>e =fH (b_ c_ (gY op x y))∧w=w':=by
 have c:=oi x;by_cases a:wrap32 y=0
 · rcases b with rfl|rfl
   all_goals
    have d:(wrap32 y == 0)=true:=by simp[a]
    clear c;have f:=gg a;clear a;go_in;go_wp2;go_ret;exact⟨gt (io (by simp[gY,f.o,Bx])),rfl⟩
 · have d:(wrap32 y == 0)=false:=by simp[a]
   have g:¬ wrap32 y=0:=a;rcases b with rfl|rfl
   all_goals
    go_in;go_wp2;go_ret;exact⟨gt (io (by simp[gY,a,Bx,yy])),rfl⟩
theorem J5 op x y w (a:op=11∨op=12∨op=13∨op=14) :
 Calls gd 187 #[b_ c_ op,.int .i32 (wrap32 x),.int .i32 (wrap32 y)] w fun e w'=>e =fH (b_ c_ (gY op x y))∧w=w':=by
 rcases a with rfl|rfl|rfl|rfl
 all_goals
  go_in
  go_wp2_with (go_at_call 193;refine(vV _ _).mono ?_;rintro e w' ⟨rfl,rfl⟩)
  go_ret;exact⟨gt (io (by first|(simp[gY];done)|(simp only[gY,Int.reduceEq,if_false,if_true];exact congrArg lz (decide_eq_decide.2 (by simp[word,La]))))),rfl⟩
theorem IX op a b (w) :
 Calls gd 158 #[b_ c_ op,b_ c_ a,b_ c_ b] w fun e w'=>e =fH (fI #[b_ c_ (gY op a b),fJ (qV op)])∧w=w':=by
 have c:0≤bits .and .i32 (wrap32 b) 31:=by rw[Gb];omega
 have d:bits .and .i32 (wrap32 b) 31≤31:=by rw[Gb];omega
 have f:bits .and .i32 (wrap32 b) 31≤32:=by omega
 go_in
 go_wp2_with (first|(go_at_call 186;refine(Kt _ _ _ _ (by simp_all)).mono ?_;rintro e w' ⟨rfl,rfl⟩)|(go_at_call 187;refine(J5 _ _ _ _ (by simp_all)).mono ?_;rintro e w' ⟨rfl,rfl⟩))
 all_goals
  go_ret2
  refine⟨mQ (io ?_) (iO (by unfold qV;symm;first|(rw[decide_eq_true_iff];simp only[beq_iff_eq,beq_eq_false_iff_ne,ne_eq] at *;omega)|(rw[decide_eq_false_iff_not];simp only[beq_iff_eq,beq_eq_false_iff_ne,ne_eq] at *;omega))),rfl⟩
  first|rfl|(simp only[beq_iff_eq,beq_eq_false_iff_ne,ne_eq] at *;simp_all [gY,Bx,K_,Gb,IW,AM])
theorem MA a b (w) :
 Calls gd 142 #[.int .u32 (word a),.int .u32 (word b)] w fun e w'=>e =fH (fI #[.int .u32 (word a*word b / 4294967296),.int .u32 (word (word a*word b))])∧w=w':=by
 go_in;go_wp2
 go_ret2
 refine⟨mQ (io ?_) (io ?_),rfl⟩
 · show IntKind.u64.wrap (IntKind.u64.wrap (word a)*IntKind.u64.wrap (word b)) / 4294967296 % 4294967296=_
   rw[EJ,EJ,Ir,z_]
 · show IntKind.u64.wrap (IntKind.u64.wrap (word a)*IntKind.u64.wrap (word b)) % 4294967296=_
   rw[EJ,EJ,Ir];rfl
theorem II a b s (w) :
 Calls gd 156 #[b_ c_ a,b_ c_ b,fJ s] w fun e w'=>e =fH (b_ c_ (qe a b s))∧w=w':=by
 cases s
 all_goals
  go_in
  go_wp2_with (go_at_call 142;refine(MA a b _).mono ?_;rintro e w' ⟨rfl,rfl⟩)
  go_ret;refine⟨gt (io ?_),rfl⟩
 · show wrap64 (wrap32 (word a*word b / 4294967296))=_
   rw[Bx];rfl
 · show wrap64 (wrap32 (wrap64 (wrap64 (wrap32 a)*wrap64 (wrap32 b)) / 4294967296))=_
   rw[Bx,Bx,Bx,LW];rfl
theorem MD op (w) :
 Calls gd 190 #[b_ c_ op] w fun e w'=>e =fH (b_ c_ (yG op))∧w=w':=by
 go_in;go_wp2
 all_goals
  go_ret;refine⟨gt (io ?_),rfl⟩
 all_goals simp only[beq_iff_eq,beq_eq_false_iff_ne,ne_eq] at *
 all_goals simp_all [yG]
abbrev iF (x:Int):Prop:=-2147483648≤x∧x≤2147483647
theorem gG (a):iF (wrap32 a):=oi a
theorem iW {a} (h:iF a):wrap32 a=a:=by obtain⟨h1,h2⟩:=h;unfold wrap32;omega
theorem i9 {x} (h:iF x):BitVec.ofInt 64 x=(BitVec.ofInt 32 x).signExtend 64:=by
 apply BitVec.eq_of_toInt_eq;rw[BitVec.toInt_signExtend_of_le fZ,BitVec.toInt_ofInt,BitVec.toInt_ofInt];simp only[Int.bmod];simp only[Nat.reducePow];omega
theorem kU (x:BitVec 32):iF x.toInt:=by
 have:=x.toInt_lt;have:=x.le_toInt;simp only[Nat.add_one_sub_one] at *;constructor <;> omega
theorem sB {x} (h:iF x):(BitVec.ofInt 64 x).toInt=x:=by
 rw[BitVec.toInt_ofInt];simp only[Int.bmod];simp only[Nat.reducePow];omega
theorem mu {x y} (hx:iF x) (hy:iF y):iF (bits .and .i64 x y):=by
 rw[kF,i9 hx,i9 hy,←BitVec.signExtend_and,BitVec.toInt_signExtend_of_le fZ];exact kU _
theorem nt (x y):bits .or .i64 x y=(BitVec.ofInt 64 x ||| BitVec.ofInt 64 y).toInt:=Bw _
theorem ti {x y} (hx:iF x) (hy:iF y):iF (bits .or .i64 x y):=by
 rw[nt,i9 hx,i9 hy,←BitVec.signExtend_or,BitVec.toInt_signExtend_of_le fZ];exact kU _
theorem AO {x y} (hx:iF x) (hy:iF y):iF (bits .xor .i64 x y):=by
 rw[show bits .xor .i64 x y=(BitVec.ofInt 64 x ^^^ BitVec.ofInt 64 y).toInt from Bw _,i9 hx,i9 hy,←BitVec.signExtend_xor,BitVec.toInt_signExtend_of_le fZ];exact kU _
theorem lK (x y):bits .andNot .i64 x y=(BitVec.ofInt 64 x &&& ~~~ (BitVec.ofInt 64 y)).toInt:=Bw _
theorem nH {x y} (hx:iF x) (hy:iF y):iF (bits .andNot .i64 x y):=by
 rw[lK,i9 hx,i9 hy,←BitVec.signExtend_not fZ,←BitVec.signExtend_and,BitVec.toInt_signExtend_of_le fZ];exact kU _
theorem nI {a} (h:iF a):bits .and .i64 a (-1)=a:=by
 rw[kF,show BitVec.ofInt 64 (-1)=BitVec.allOnes 64 by decide,BitVec.and_allOnes,sB h]
theorem pf {c:Prop} [Decidable c] {x y} (h:iF x) (k:iF y):iF (if c then x else y):=by
 by_cases d:c
 · rw[if_pos d];exact h
 · rw[if_neg d];exact k
theorem AJ (op a b):iF (gY op a b):=by
 have f:∀ b,iF (lz b):=fun b=>by cases b <;> decide
 have t:iF ((wrap32 a).tmod (wrap32 b)):=by
  have c:=nz (wrap32 a) (wrap32 b);have d:=oi a;have e:0≤(-wrap32 a).tmod (wrap32 b)∨0≤wrap32 a:=(Int.le_total 0 (wrap32 a)).elim .inr fun h=>.inl (Int.tmod_nonneg _ f_)
  rw[Int.neg_tmod] at e;constructor <;> omega
 unfold gY;repeat' first|with_reducible refine pf ?_ ?_|exact gG _|exact t|exact CY _ _ _|exact f _|exact pz _ _ (oi a)|decide
end
section
open Go.RowKit
theorem IH:(gd.info? 3).map (fun i=>(i.zero,i.size,i.bytes))=some (some (b_ c_ 0),1,8):=by kernel_rfl
theorem pD v n xs w (h:gl w 1 n v xs) (x:n*8≤140737488355328) :
 Calls gd 33 #[v] w fun e w'=>∃ a,e =fH a∧w'.ownsRow w.heap.size 3 1 a n xs∧Up w w':=by
 obtain⟨hl,h1,h2⟩:=h;obtain⟨m,G,F,E,r⟩:=info_parts IH;rcases h2 with⟨rfl,rfl⟩|⟨b,o,c,rfl,H,J,K,d⟩
 · have q:=fun w:World=>Lib.run_eql_slice_nil (P:=gd) w 24 3 none 0 0 0 0 Tryz.underlying24
   have i:xs=[]:=fT (by simpa using hl);have C:=gg i;clear i hl x;go_in;go_wp2;go_ret;exact⟨_,rfl,by rw[C.o];exact World.ownsRow_nil _ _ _ _,fK⟩
 · have q:=fun w:World=>Lib.run_eql_slice_nil (P:=gd) w 24 3 (some ⟨b,o,none⟩) n c 0 0 Tryz.underlying24
   have f:(w.alloc (d_ #[] 3)).ownsRow w.heap.size 3 1 (a_ (some ⟨w.heap.size,0,none⟩) 0 0) 0 []:=World.ownsRow_made w #[] 0 fL gb gb
   have g:∀ j u,xs[j]? = some u→(w.alloc (d_ #[] 3)).cell? ((⟨b,o,none⟩:Addr).add j)=some u:=fun j u I=>by
    rw[←d j u I];rw[kx];exact Below.cell (p:=⟨b,o+j,none⟩) (fK.alloc fL (d_ #[] 3)) H
   have z:=gg f;have y:=gg g;have D:=gg hl;have l:=gg h1;clear f g hl h1 d;have A:0+n≤maxLen:=by omega
   go_in
   go_wp2_with (at_builtin;refine wpList_append_own _ rfl _ _ 24 rfl w.heap.size 3 m (b_ c_ 0) 1 8 Tryz.underlying24 G F E r rfl fZ _ 0 [] rfl z.o ⟨b,o,none⟩ n c xs rfl D.o y.o l.o A f_ gb ?_;intro a w1 t B _)
   go_ret;refine⟨_,rfl,by simpa using t,?_⟩;exact(fK.alloc fL _).grown B gb (fun k s=>by cases s;exact fL)
structure St where
 k:Int
 r0:Int
 r1:Int
 r2:Int
 r3:Int
 q:List Int
 sent:Int
 ra:Bool
def gX (s:St) (a:Value):Array Value:=#[b_ c_ s.k,b_ c_ s.r0,b_ c_ s.r1,b_ c_ s.r2,b_ c_ s.r3,a,b_ c_ s.sent,fJ s.ra]
def qL (s:St):List Value:=s.q.map (b_ c_)
def iZ (w:World) (v:Value) (s:St):Prop:=∃ a,v =e_ (gX s a)∧gl w 1 s.q.length a (qL s)
theorem iZ.below {w w' v s} (h:iZ w v s) (c:Up w w'):iZ w' v s:=by
 obtain⟨a,b,d⟩:=h;exact⟨a,b,d.below c⟩
theorem oB (s):∀ u∈qL s,u.oneCell'=true:=by
 intro u a;simp only[qL,List.mem_map] at a;obtain⟨n,_,rfl⟩:=a;rfl
theorem Cm (s):(qL s).length=s.q.length:=by simp[qL]
theorem jz {w:World} {b} {t:TypeId} {f c1 e c3 c4 c a d} (h:w.heap[b]? = some (d_ #[f,c1,e,c3,c4,c,a,d] t (0,0))) :
 w.cell? ⟨b,0,none⟩=some f∧w.cell? ⟨b,1,none⟩=some c1∧w.cell? ⟨b,2,none⟩=some e∧w.cell? ⟨b,3,none⟩=some c3∧w.cell? ⟨b,4,none⟩=some c4∧w.cell? ⟨b,5,none⟩=some c∧w.cell? ⟨b,6,none⟩=some a∧w.cell? ⟨b,7,none⟩=some d∧w.frozen? ⟨b,0,none⟩=false∧w.frozen? ⟨b,1,none⟩=false∧w.frozen? ⟨b,2,none⟩=false∧w.frozen? ⟨b,3,none⟩=false∧w.frozen? ⟨b,4,none⟩=false∧w.frozen? ⟨b,5,none⟩=false∧w.frozen? ⟨b,6,none⟩=false∧w.frozen? ⟨b,7,none⟩=false:=
 ⟨gv h rfl,gv h rfl,gv h rfl,gv h rfl,gv h rfl,gv h rfl,gv h rfl,gv h rfl,gC h 0,gC h 1,gC h 2,gC h 3,gC h 4,gC h 5,gC h 6,gC h 7⟩
def iU (B:Nat) (T:TypeId) (w:World) (b:Nat) (s:St):Prop:=
 ∃ a,w.heap[b]? = some (d_ (gX s a) T (0,0))∧B≤b∧w.ownsRow B 3 1 a s.q.length (qL s)∧a.ownBlock≠some b
theorem EX v s w (h:iZ w v s) (c:s.k=1) (n:s.q.length≤1000) :
 Calls gd 64 #[v] w fun e w'=>∃ b,e =fH (.iface 160 (fG (some ⟨b,0,none⟩)))∧iU w.heap.size 164 w' b s∧Up w w':=by
 obtain⟨C,rfl,g⟩:=h;obtain⟨l,j,rfl⟩:=g.shape;have m:gl (w.alloc (d_ (gX s (a_ l s.q.length j)) 75)) 1 s.q.length (a_ l s.q.length j) (qL s):=g.below (fK.alloc fL _);have p:=gg m;have y:=gg c;clear g m;obtain⟨k,r0,r1,r2,r3,q,sent,ra⟩:=s;simp only at c n;subst c;unfold gX at *
 go_in
 go_wp2_with fail
 refine(pD _ _ _ _ p.o f_).mono ?_
 rintro e w1 ⟨E,rfl,d,f⟩;obtain⟨a1,c1,rfl⟩:=gN d;have a:=iE f gb (gH w _);have r:=gn a;obtain⟨G,u,A,H,z,F,D,t,f0,f1,f2,f3,f4,x,f6,f7⟩:=jz a;have o:=gg f;have i:=gg d;have B:=gg a;clear f d a
 go_wp2
 go_ret;refine⟨w1.heap.size,rfl,⟨_,Gq _ _ _ _,Nat.le_of_lt r,?_,BC i.o fL⟩,?_⟩
 · exact jW ((ownsRow_setCell_below i.o gb _).alloc _) gb
 · exact(((fK.alloc fL _).trans (o.o.mono gb)).setCell fL _).alloc (by rw[kj];omega) _
theorem EM v s w (h:iZ w v s) (c:s.k=2) (n:s.q.length≤1000) :
 Calls gd 64 #[v] w fun e w'=>∃ b,e =fH (.iface 165 (fG (some ⟨b,0,none⟩)))∧iU w.heap.size 166 w' b s∧Up w w':=by
 obtain⟨C,rfl,g⟩:=h;obtain⟨l,j,rfl⟩:=g.shape;have m:gl (w.alloc (d_ (gX s (a_ l s.q.length j)) 75)) 1 s.q.length (a_ l s.q.length j) (qL s):=g.below (fK.alloc fL _);have p:=gg m;have y:=gg c;clear g m;obtain⟨k,r0,r1,r2,r3,q,sent,ra⟩:=s;simp only at c n;subst c;unfold gX at *
 go_in
 go_wp2_with fail
 refine(pD _ _ _ _ p.o f_).mono ?_
 rintro e w1 ⟨E,rfl,d,f⟩;obtain⟨a1,c1,rfl⟩:=gN d;have a:=iE f gb (gH w _);have r:=gn a;obtain⟨G,u,A,H,z,F,D,t,f0,f1,f2,f3,f4,x,f6,f7⟩:=jz a;have o:=gg f;have i:=gg d;have B:=gg a;clear f d a
 go_wp2
 go_ret;refine⟨w1.heap.size,rfl,⟨_,Gq _ _ _ _,Nat.le_of_lt r,?_,BC i.o fL⟩,?_⟩
 · exact jW ((ownsRow_setCell_below i.o gb _).alloc _) gb
 · exact(((fK.alloc fL _).trans (o.o.mono gb)).setCell fL _).alloc (by rw[kj];omega) _
theorem EY v s w (h:iZ w v s) (c:s.k=3) (n:s.q.length≤1000) :
 Calls gd 64 #[v] w fun e w'=>∃ b,e =fH (.iface 167 (fG (some ⟨b,0,none⟩)))∧iU w.heap.size 168 w' b s∧Up w w':=by
 obtain⟨C,rfl,g⟩:=h;obtain⟨l,j,rfl⟩:=g.shape;have m:gl (w.alloc (d_ (gX s (a_ l s.q.length j)) 75)) 1 s.q.length (a_ l s.q.length j) (qL s):=g.below (fK.alloc fL _);have p:=gg m;have y:=gg c;clear g m;obtain⟨k,r0,r1,r2,r3,q,sent,ra⟩:=s;simp only at c n;subst c;unfold gX at *
 go_in
 go_wp2_with fail
 refine(pD _ _ _ _ p.o f_).mono ?_
 rintro e w1 ⟨E,rfl,d,f⟩;obtain⟨a1,c1,rfl⟩:=gN d;have a:=iE f gb (gH w _);have r:=gn a;obtain⟨G,u,A,H,z,F,D,t,f0,f1,f2,f3,f4,x,f6,f7⟩:=jz a;have o:=gg f;have i:=gg d;have B:=gg a;clear f d a
 go_wp2
 go_ret;refine⟨w1.heap.size,rfl,⟨_,Gq _ _ _ _,Nat.le_of_lt r,?_,BC i.o fL⟩,?_⟩
 · exact jW ((ownsRow_setCell_below i.o gb _).alloc _) gb
 · exact(((fK.alloc fL _).trans (o.o.mono gb)).setCell fL _).alloc (by rw[kj];omega) _
theorem J1 a (w) : (method 362 160 (.pointer (some a)) "headstock/device.told").run gd w = .ok (214, .pointer (some a)) w := by kernel_rfl
theorem JL a (w) : (method 362 165 (.pointer (some a)) "headstock/device.told").run gd w = .ok (214, .pointer (some a)) w := by kernel_rfl
theorem J2 a (w) : (method 362 167 (.pointer (some a)) "headstock/device.told").run gd w = .ok (214, .pointer (some a)) w := by kernel_rfl
theorem JT a (w) : (method 362 160 (.pointer (some a)) "headstock/device.raises").run gd w = .ok (212, .pointer (some a)) w := by kernel_rfl
theorem JC a (w) : (method 362 165 (.pointer (some a)) "headstock/device.raises").run gd w = .ok (218, .pointer (some a)) w := by kernel_rfl
theorem JU a (w) : (method 362 167 (.pointer (some a)) "headstock/device.raises").run gd w = .ok (222, .pointer (some a)) w := by kernel_rfl
theorem J3 a (w) : (method 362 160 (.pointer (some a)) "headstock/device.read").run gd w = .ok (213, .pointer (some a)) w := by kernel_rfl
theorem JM a (w) : (method 362 165 (.pointer (some a)) "headstock/device.read").run gd w = .ok (219, .pointer (some a)) w := by kernel_rfl
theorem J4 a (w) : (method 362 167 (.pointer (some a)) "headstock/device.read").run gd w = .ok (216, .pointer (some a)) w := by kernel_rfl
theorem JJ a (w) : (method 362 160 (.pointer (some a)) "headstock/device.write").run gd w = .ok (215, .pointer (some a)) w := by kernel_rfl
theorem JF a (w) : (nilAhead 362 160 (.pointer (some a)) "headstock/device.write").run gd w = .ok (some false) w := by kernel_rfl
theorem JS a (w) : (method 362 165 (.pointer (some a)) "headstock/device.write").run gd w = .ok (220, .pointer (some a)) w := by kernel_rfl
theorem JQ a (w) : (nilAhead 362 165 (.pointer (some a)) "headstock/device.write").run gd w = .ok (some false) w := by kernel_rfl
theorem JK a (w) : (method 362 167 (.pointer (some a)) "headstock/device.write").run gd w = .ok (223, .pointer (some a)) w := by kernel_rfl
theorem JG a (w) : (nilAhead 362 167 (.pointer (some a)) "headstock/device.write").run gd w = .ok (some false) w := by kernel_rfl
theorem JN a (w) : (method 362 160 (.pointer (some a)) "headstock/device.input").run gd w = .ok (211, .pointer (some a)) w := by kernel_rfl
theorem JH a (w) : (nilAhead 362 160 (.pointer (some a)) "headstock/device.input").run gd w = .ok (some false) w := by kernel_rfl
theorem JV a (w) : (method 362 165 (.pointer (some a)) "headstock/device.input").run gd w = .ok (217, .pointer (some a)) w := by kernel_rfl
theorem JR a (w) : (nilAhead 362 165 (.pointer (some a)) "headstock/device.input").run gd w = .ok (some false) w := by kernel_rfl
theorem JO a (w) : (method 362 167 (.pointer (some a)) "headstock/device.input").run gd w = .ok (221, .pointer (some a)) w := by kernel_rfl
theorem JI a (w) : (nilAhead 362 167 (.pointer (some a)) "headstock/device.input").run gd w = .ok (some false) w := by kernel_rfl
def en (s:St):Bool:=bits .and .i64 s.r2 1 != 0
theorem F2 b T j c1 g c3 c4 a i f c (d) (w)
 (h:w.heap[b]? = some (d_ #[b_ c_ j,b_ c_ c1,b_ c_ g,b_ c_ c3,b_ c_ c4,a_ a i f,b_ c_ c,fJ d] T (0,0))) :
 Calls gd 214 #[fG (some ⟨b,0,none⟩)] w fun e w'=>e =fH (e_ #[b_ c_ j,b_ c_ c1,b_ c_ g,b_ c_ c3,b_ c_ c4,a_ a i f,b_ c_ c,fJ d])∧Up w w':=by
 have q:=gn h;obtain⟨r,m,l,t,s,p,o,k,f0,f1,f2,f3,f4,n,f6,f7⟩:=jz h;clear h;go_in;go_wp2;exact bodyPost_ret (v:=e_ #[b_ c_ j,b_ c_ c1,b_ c_ g,b_ c_ c3,b_ c_ c4,a_ a i f,b_ c_ c,fJ d]) (by simp[results,Tryz.results214,go_sem]) rfl ⟨rfl,fK.alloc fL _⟩
theorem FG b r2 (w) (h:w.cell? ⟨b,3,none⟩=some (b_ c_ r2)) :
 Calls gd 210 #[fG (some ⟨b,0,none⟩)] w fun e w'=>e =fH (fJ (bits .and .i64 r2 1 != 0))∧w=w':=by
 go_in;go_wp2;go_ret;exact⟨gt (iO rfl),rfl⟩
theorem Ki b ra (w) (h:w.cell? ⟨b,7,none⟩=some (fJ ra)) :
 Calls gd 218 #[fG (some ⟨b,0,none⟩)] w fun e w'=>e =fH (fJ ra)∧w=w':=by
 go_in;go_wp2;go_ret;exact⟨gt (iO rfl),rfl⟩
theorem KJ b r3 (w) (h:w.cell? ⟨b,4,none⟩=some (b_ c_ r3)) :
 Calls gd 222 #[fG (some ⟨b,0,none⟩)] w fun e w'=>e =fH (fJ (r3 != 0))∧w=w':=by
 go_in;go_wp2;go_ret;exact⟨gt (iO rfl),rfl⟩
theorem KI b r2 a n c (w) (h:w.cell? ⟨b,3,none⟩=some (b_ c_ r2)) (f:w.cell? ⟨b,5,none⟩=some (a_ a n c)) :
 Calls gd 212 #[fG (some ⟨b,0,none⟩)] w fun e w'=>e =fH (fJ (decide (0<n) && (bits .and .i64 r2 1 != 0)))∧w=w':=by
 by_cases d:0<n
 · go_in
   go_wp2_with (go_at_call 210;refine(FG _ r2 _ h).mono ?_;rintro e w' ⟨rfl,rfl⟩)
   go_ret;exact⟨gt (iO (by simp[d])),rfl⟩
 · go_in
   go_wp2_with (go_at_call 210;refine(FG _ r2 _ h).mono ?_;rintro e w' ⟨rfl,rfl⟩)
   go_ret;exact⟨gt (iO (by simp[d])),rfl⟩
def oV (B:Nat) (v:Value):Prop:=∀ a n c,v =a_ (some a) n c→B≤a.block
theorem pI {w:World} {B e k n:Nat} {v xs} (h:w.ownsRow B e k v n xs):oV B v:=by
 intro a m c b;rcases h.2 with⟨rfl,_⟩|⟨g,f,i,rfl,d,_⟩
 · cases b
 · cases b;exact d
def iM (B:Nat) (T:TypeId) (w:World) (b:Nat) (s:St):Prop:=∃ a,w.heap[b]? = some (d_ (gX s a) T (0,0))∧gl w 1 s.q.length a (qL s)∧oV B a
def gQ (B:Nat) (w:World) (v:Value) (s:St):Prop:=∃ a,v =e_ (gX s a)∧gl w 1 s.q.length a (qL s)∧oV B a
theorem gQ.set {B b o w v u s} (h:gQ B w v s) (t:b<B):gQ B (w.setCell ⟨b,o,none⟩ u) v s:=by
 obtain⟨m,e,a,d⟩:=h;refine⟨m,e,⟨a.1,a.2.1,?_⟩,d⟩;rcases a.2.2 with i|⟨g,p,c,rfl,q,n,k,l⟩
 · exact .inl i
 · have:=d _ _ _ rfl
   refine .inr ⟨g,p,c,rfl,by rw[kj];exact q,n,k,fun j f r=>?_⟩;rw[Bq (by simp only at this;omega)];exact l j f r
def tl (s:St):Bool:=if s.k=1 then (decide (0<s.q.length) && en s) else if s.k=2 then s.ra else s.r3 != 0
def ja (s:St):St:={ s with ra:=tl s }
theorem F3 {w W B F v s s' a} (h:gl w 1 s.q.length a (qL s)) (d:oV F a) (e:s'.q=s.q) (c:v =e_ (gX s' a)) (f:Up w W) (g:Below B w W) :
 ∃ b,Ending.returned v =fH b∧gQ F W b s'∧Below B w W:=by
 refine⟨v,rfl,⟨a,c,?_,d⟩,g⟩;unfold qL at *
 rw[e];exact h.below f
def kV (s:St) (a:Int):Int:=
 if s.k=1 then (if a=0 then s.q.headD (-1) else if a=1 then (if s.q.length=0 then 2 else 3) else if a=3 then s.sent else s.r2)
 else if s.k=2 then (if a=0 then s.r0 else if a=1 then s.r1 else if a=2 then s.r2 else lz s.ra)
 else (if a=0 then s.r0 else if a=1 then s.r1 else if a=2 then s.r2 else s.r3)
def ls (s:St) (a:Int):St:=if s.k=1∧a=0 then { s with q:=s.q.tail } else s
def kX (s:St) (a n:Int):St:=
 if s.k=1 then (if a=0 then { s with sent:=bits .and .i64 (s.sent+1) 2147483647 } else if a=2 then { s with r2:=n } else s)
 else if s.k=2 then (if a=1 then { s with r1:=n } else if a=2 then { s with r2:=n } else if a=3 then { s with ra:=false } else s)
 else (if a=0 then { s with r0:=n } else if a=2 then { s with r2:=n } else if a=3 then { s with r3:=bits .andNot .i64 s.r3 n } else s)
def kL (s:St) (n:Int):St:=
 if s.k=1 then (if s.q.length<16 then { s with q:=s.q ++ [bits .and .i64 n 255] } else s)
 else if s.k=2 then { s with r0:=wrap32 (s.r0+1),ra:=s.ra || ((wrap32 (s.r0+1) == s.r1) && en s) }
 else { s with r3:=bits .or .i64 s.r3 (bits .and .i64 (bits .xor .i64 n s.r1) s.r2),r1:=n }
theorem uw {a:Int} (h:0≤a∧a<4):a=0∨a=1∨a=2∨a=3:=by omega
theorem Gj {B} {T:TypeId} {w b s a} (h:w.heap[b]? = some (d_ (gX s a) T (0,0))) (d:gl w 1 s.q.length a (qL s)) (c:oV B a):iM B T w b s:=⟨a,h,d,c⟩
theorem Nl (w:World) b o (u):w.grownBy (w.setCell ⟨b,o,none⟩ u) (some b):=
 ⟨rfl,rfl,rfl,by rw[kj];exact fL,fun k _ a=>Below.heap_setCell w _ u k (fun e=>a (by rw[e]))⟩
theorem Df {w:World} {base e k n:Nat} {v xs b} (h:w.ownsRow base e k v n xs) (a:v.ownBlock≠some b) o (u):(w.setCell ⟨b,o,none⟩ u).ownsRow base e k v n xs:=
 h.kept (Nl w b o u) (.inr a)
theorem uZ {B} {T:TypeId} {w:World} {b s s' a} (f:w.heap[b]? = some (d_ (gX s a) T (0,0))) (c:w.ownsRow B 3 1 a s.q.length (qL s)) (e:a.ownBlock≠some b) (o) (u)
 (g:s'.q=s.q) (d:(gX s a).setIfInBounds o u=gX s' a):iM B T (w.setCell ⟨b,o,none⟩ u) b s':=by
 refine⟨a,by rw[jb f,d],?_,pI c⟩;have h1:=gl.own (Df c e o u) (oB s);unfold qL at *
 rw[g];exact h1
theorem gl.drew {w k n v xs} (h:gl w k n v xs):gl w.drew k n v xs:=h.below (fK.drew)
theorem iM.drew {B} {T:TypeId} {w b s} (h:iM B T w b s):iM B T w.drew b s:=by
 obtain⟨a,d,e,c⟩:=h;exact⟨a,d,e.drew,c⟩
theorem KL {w:World} {base e k n b:Nat} {v xs cs} {T:TypeId} (h:w.ownsRow base e k v n xs) (f:w.heap[b]? = some (d_ cs T (0,0))) (ht:T≠e):v.ownBlock≠some b:=by
 rcases h.2 with⟨rfl,_⟩|⟨g,c,i,rfl,_,a,_⟩
 · simp[Value.ownBlock]
 · intro d
   have:g=b:=by simpa[Value.ownBlock] using d
   subst this;rw[f] at a;injection a with a
   injection a with _ h2 _
   exact ht h2
theorem Gu s a n {k} (h:s.k=k):(kX s a n).k=k:=by
 subst h;unfold kX;repeat' (first|rfl|split)
theorem GB s a {k} (h:s.k=k):(ls s a).k=k:=by
 subst h;unfold ls;repeat' (first|rfl|split)
theorem Gv s n {k} (h:s.k=k):(kL s n).k=k:=by
 subst h;unfold kL;repeat' (first|rfl|split)
theorem gQ.mono {B b w v s} (i:b≤B) (h:gQ B w v s):gQ b w v s:=by
 obtain⟨d,f,j,g⟩:=h;exact⟨d,f,j,fun a n c e=>fO i (g a n c e)⟩
theorem yP {B b o w v u s} (a:b<B) (h:gQ B w v s):gQ B (w.setCell ⟨b,o,none⟩ u) v s:=h.set a
theorem iM.set {B p o} {T:TypeId} {w b s u} (h:iM B T w b s) (i:p<B) (k:B≤b):iM B T (w.setCell ⟨p,o,none⟩ u) b s:=by
 obtain⟨a,f,j,d⟩:=h;obtain⟨c,e,g,_⟩:=gQ.set (o:=o) (u:=u) (⟨a,rfl,j,d⟩:gQ B w (e_ (gX s a)) s) i
 have:c=a:=by
  have h1:(gX s a)[5]? = (gX s c)[5]?:=by injection e with e;rw[e]
  simp[gX] at h1;exact h1.symm
 subst this;exact⟨c,jL f_ f,g,d⟩
theorem FK F b s w (h:iM F 164 w b s) (l:s.k=1) :
 Calls gd 170 #[.iface 160 (fG (some ⟨b,0,none⟩))] w fun e w'=>∃ v,e =fH v∧gQ F w' v (ja s)∧Up w w':=by
 obtain⟨M,a,g,t⟩:=h;obtain⟨a1,c1,rfl⟩:=g.shape;obtain⟨k,r0,r1,r2,r3,q,sent,ra⟩:=s;simp only at l;subst l;unfold gX at a;simp only at a;have n:=gn a;have i:=gg a;have r:=gg g;clear a g;have O:=J1;have y:=JT;go_in
 go_wp2_with fail
 refine(F2 b _ _ _ _ _ _ _ _ _ _ _ _ (iE (fK.alloc fL _) n i.o)).mono ?_
 rintro e w1 ⟨rfl,d⟩;have c:=iE d gb (gH w _);have f:=iE d (by simp;omega) (iE (fK.alloc fL _) n i.o);have C:=gn f;have o:=gn c;obtain⟨_,_,_,I,G,D,_,L,_⟩:=jz f;obtain⟨_,_,_,_,_,_,_,_,K,z,A,B,H,J,N,E⟩:=jz c;obtain⟨u0,u1,u2,u3,u4,u5,u6,u7,_⟩:=jz c;have p:=gg d;clear d c f
 go_wp2_with fail
 refine(KI _ r2 a1 q.length c1 _ (by go_simp) (by go_simp)).mono ?_
 rintro e w' ⟨rfl,rfl⟩
 go_wp2_with fail
 have u:Up w w1:=(fK.alloc fL _).trans (p.o.mono gb);refine bodyPost_ret (v:=e_ #[b_ c_ 1,b_ c_ r0,b_ c_ r1,b_ c_ r2,b_ c_ r3,a_ a1 q.length c1,b_ c_ sent,fJ (decide (0<q.length) && (bits .and .i64 r2 1 != 0))]) (by simp[results,Tryz.results170,go_sem,o,u0,u1,u2,u3,u4,u5,u6,u7]) rfl ?_
 have a:∀ W,Up w W → ∃ m,Ending.returned (e_ #[b_ c_ 1,b_ c_ r0,b_ c_ r1,b_ c_ r2,b_ c_ r3,a_ a1 q.length c1,b_ c_ sent,fJ (decide (0<q.length) && (bits .and .i64 r2 1 != 0))]) =fH m∧gQ F W m (ja ⟨1,r0,r1,r2,r3,q,sent,ra⟩)∧Up w W:=fun W j=>F3 r.o t rfl rfl j j
 refine a _ ?_
 refine Below.alloc ?_ (by simp only[kj];omega) _;have x:=Nat.le_refl w.heap.size
 iterate 8 apply lD x
 exact u
theorem FA F b s w (h:iM F 166 w b s) (l:s.k=2) :
 Calls gd 170 #[.iface 165 (fG (some ⟨b,0,none⟩))] w fun e w'=>∃ v,e =fH v∧gQ F w' v (ja s)∧Up w w':=by
 obtain⟨M,a,g,t⟩:=h;obtain⟨a1,c1,rfl⟩:=g.shape;obtain⟨k,r0,r1,r2,r3,q,sent,ra⟩:=s;simp only at l;subst l;unfold gX at a;simp only at a;have n:=gn a;have i:=gg a;have r:=gg g;clear a g;have O:=JL;have y:=JC;go_in
 go_wp2_with fail
 refine(F2 b _ _ _ _ _ _ _ _ _ _ _ _ (iE (fK.alloc fL _) n i.o)).mono ?_
 rintro e w1 ⟨rfl,d⟩;have c:=iE d gb (gH w _);have f:=iE d (by simp;omega) (iE (fK.alloc fL _) n i.o);have C:=gn f;have o:=gn c;obtain⟨_,_,_,I,G,D,_,L,_⟩:=jz f;obtain⟨_,_,_,_,_,_,_,_,K,z,A,B,H,J,N,E⟩:=jz c;obtain⟨u0,u1,u2,u3,u4,u5,u6,u7,_⟩:=jz c;have p:=gg d;clear d c f
 go_wp2_with fail
 refine(Ki _ ra _ (by go_simp)).mono ?_
 rintro e w' ⟨rfl,rfl⟩
 go_wp2_with fail
 have u:Up w w1:=(fK.alloc fL _).trans (p.o.mono gb);refine bodyPost_ret (v:=e_ #[b_ c_ 2,b_ c_ r0,b_ c_ r1,b_ c_ r2,b_ c_ r3,a_ a1 q.length c1,b_ c_ sent,fJ ra]) (by simp[results,Tryz.results170,go_sem,o,u0,u1,u2,u3,u4,u5,u6,u7]) rfl ?_
 have a:∀ W,Up w W → ∃ m,Ending.returned (e_ #[b_ c_ 2,b_ c_ r0,b_ c_ r1,b_ c_ r2,b_ c_ r3,a_ a1 q.length c1,b_ c_ sent,fJ ra]) =fH m∧gQ F W m (ja ⟨2,r0,r1,r2,r3,q,sent,ra⟩)∧Up w W:=fun W j=>F3 r.o t rfl rfl j j
 refine a _ ?_
 refine Below.alloc ?_ (by simp only[kj];omega) _;have x:=Nat.le_refl w.heap.size
 iterate 8 apply lD x
 exact u
theorem FL F b s w (h:iM F 168 w b s) (l:s.k=3) :
 Calls gd 170 #[.iface 167 (fG (some ⟨b,0,none⟩))] w fun e w'=>∃ v,e =fH v∧gQ F w' v (ja s)∧Up w w':=by
 obtain⟨M,a,g,t⟩:=h;obtain⟨a1,c1,rfl⟩:=g.shape;obtain⟨k,r0,r1,r2,r3,q,sent,ra⟩:=s;simp only at l;subst l;unfold gX at a;simp only at a;have n:=gn a;have i:=gg a;have r:=gg g;clear a g;have O:=J2;have y:=JU;go_in
 go_wp2_with fail
 refine(F2 b _ _ _ _ _ _ _ _ _ _ _ _ (iE (fK.alloc fL _) n i.o)).mono ?_
 rintro e w1 ⟨rfl,d⟩;have c:=iE d gb (gH w _);have f:=iE d (by simp;omega) (iE (fK.alloc fL _) n i.o);have C:=gn f;have o:=gn c;obtain⟨_,_,_,I,G,D,_,L,_⟩:=jz f;obtain⟨_,_,_,_,_,_,_,_,K,z,A,B,H,J,N,E⟩:=jz c;obtain⟨u0,u1,u2,u3,u4,u5,u6,u7,_⟩:=jz c;have p:=gg d;clear d c f
 go_wp2_with fail
 refine(KJ _ r3 _ (by go_simp)).mono ?_
 rintro e w' ⟨rfl,rfl⟩
 go_wp2_with fail
 have u:Up w w1:=(fK.alloc fL _).trans (p.o.mono gb);refine bodyPost_ret (v:=e_ #[b_ c_ 3,b_ c_ r0,b_ c_ r1,b_ c_ r2,b_ c_ r3,a_ a1 q.length c1,b_ c_ sent,fJ (r3 != 0)]) (by simp[results,Tryz.results170,go_sem,o,u0,u1,u2,u3,u4,u5,u6,u7]) rfl ?_
 have a:∀ W,Up w W → ∃ m,Ending.returned (e_ #[b_ c_ 3,b_ c_ r0,b_ c_ r1,b_ c_ r2,b_ c_ r3,a_ a1 q.length c1,b_ c_ sent,fJ (r3 != 0)]) =fH m∧gQ F W m (ja ⟨3,r0,r1,r2,r3,q,sent,ra⟩)∧Up w W:=fun W j=>F3 r.o t rfl rfl j j
 refine a _ ?_
 refine Below.alloc ?_ (by simp only[kj];omega) _;have x:=Nat.le_refl w.heap.size
 iterate 8 apply lD x
 exact u
theorem K2 B b s f n w (h:iU B 164 w b s) (l:s.k=1) (d:0≤f∧f<4) (p:0≤s.sent∧s.sent≤2147483647) :
 Calls gd 215 #[fG (some ⟨b,0,none⟩),b_ c_ f,b_ c_ n] w fun e w'=>e =fH (fI #[])∧iM B 164 w' b (kX s f n)∧Below B w w':=by
 obtain⟨y,c,m,i,j⟩:=h;obtain⟨a1,c1,rfl⟩:=gN i;obtain⟨k,r0,r1,r2,r3,q,sent,ra⟩:=s;simp only at l;subst l;unfold gX at c;simp only at c i j;have C:=gn c;obtain⟨D,t,x,E,v,A,z,r,f0,f1,f2,f3,f4,u,f6,f7⟩:=jz c;have g:=gg c;have a:=gg i;have o:=gg j;clear c i j;simp only at p;rcases uw d with rfl|rfl|rfl|rfl
 · clear d
   go_in
   go_wp2_with fail
   go_end0
   exact⟨rfl,uZ (s':=kX ⟨1,r0,r1,r2,r3,q,sent,ra⟩ 0 n) g.o a.o o.o 6 _ rfl rfl,lD m fK⟩
 · clear d
   go_in
   go_wp2_with fail
   go_end0
   exact⟨rfl,⟨_,g.o,gl.own a.o (oB _),pI a.o⟩,fK⟩
 · clear d
   go_in
   go_wp2_with fail
   go_end0
   exact⟨rfl,uZ (s':=kX ⟨1,r0,r1,r2,r3,q,sent,ra⟩ 2 n) g.o a.o o.o 3 _ rfl rfl,lD m fK⟩
 · clear d
   go_in
   go_wp2_with fail
   go_end0
   exact⟨rfl,⟨_,g.o,gl.own a.o (oB _),pI a.o⟩,fK⟩
theorem J7 B b s f n w (h:iU B 166 w b s) (o:s.k=2) (d:0≤f∧f<4) (p:0≤s.sent∧s.sent≤2147483647) :
 Calls gd 220 #[fG (some ⟨b,0,none⟩),b_ c_ f,b_ c_ n] w fun e w'=>e =fH (fI #[])∧iM B 166 w' b (kX s f n)∧Below B w w':=by
 obtain⟨y,a,l,i,j⟩:=h;obtain⟨a1,c1,rfl⟩:=gN i;obtain⟨k,r0,r1,r2,r3,q,sent,ra⟩:=s;simp only at o;subst o;unfold gX at a;simp only at a i j;have C:=gn a;obtain⟨D,t,x,E,v,A,z,r,f0,f1,f2,f3,f4,u,f6,f7⟩:=jz a;have g:=gg a;have c:=gg i;have m:=gg j;clear a i j;simp only at p;rcases uw d with rfl|rfl|rfl|rfl
 · clear d
   go_in
   go_wp2_with fail
   go_end0
   exact⟨rfl,⟨_,g.o,gl.own c.o (oB _),pI c.o⟩,fK⟩
 · clear d
   go_in
   go_wp2_with fail
   go_end0
   exact⟨rfl,uZ (s':=kX ⟨2,r0,r1,r2,r3,q,sent,ra⟩ 1 n) g.o c.o m.o 2 _ rfl rfl,lD l fK⟩
 · clear d
   go_in
   go_wp2_with fail
   go_end0
   exact⟨rfl,uZ (s':=kX ⟨2,r0,r1,r2,r3,q,sent,ra⟩ 2 n) g.o c.o m.o 3 _ rfl rfl,lD l fK⟩
 · clear d
   go_in
   go_wp2_with fail
   go_end0
   exact⟨rfl,uZ (s':=kX ⟨2,r0,r1,r2,r3,q,sent,ra⟩ 3 n) g.o c.o m.o 7 _ rfl rfl,lD l fK⟩
theorem K3 B b s f n w (h:iU B 168 w b s) (o:s.k=3) (d:0≤f∧f<4) (p:0≤s.sent∧s.sent≤2147483647) :
 Calls gd 223 #[fG (some ⟨b,0,none⟩),b_ c_ f,b_ c_ n] w fun e w'=>e =fH (fI #[])∧iM B 168 w' b (kX s f n)∧Below B w w':=by
 obtain⟨y,a,l,i,j⟩:=h;obtain⟨a1,c1,rfl⟩:=gN i;obtain⟨k,r0,r1,r2,r3,q,sent,ra⟩:=s;simp only at o;subst o;unfold gX at a;simp only at a i j;have C:=gn a;obtain⟨D,t,x,E,v,A,z,r,f0,f1,f2,f3,f4,u,f6,f7⟩:=jz a;have g:=gg a;have c:=gg i;have m:=gg j;clear a i j;simp only at p;rcases uw d with rfl|rfl|rfl|rfl
 · clear d
   go_in
   go_wp2_with fail
   go_end0
   exact⟨rfl,uZ (s':=kX ⟨3,r0,r1,r2,r3,q,sent,ra⟩ 0 n) g.o c.o m.o 1 _ rfl rfl,lD l fK⟩
 · clear d
   go_in
   go_wp2_with fail
   go_end0
   exact⟨rfl,⟨_,g.o,gl.own c.o (oB _),pI c.o⟩,fK⟩
 · clear d
   go_in
   go_wp2_with fail
   go_end0
   exact⟨rfl,uZ (s':=kX ⟨3,r0,r1,r2,r3,q,sent,ra⟩ 2 n) g.o c.o m.o 3 _ rfl rfl,lD l fK⟩
 · clear d
   go_in
   go_wp2_with fail
   go_region
   all_goals
    go_wp2_with fail
    go_end0
    exact⟨rfl,iM.drew (uZ (s':=kX ⟨3,r0,r1,r2,r3,q,sent,ra⟩ 3 n) g.o c.o m.o 4 _ rfl rfl),(lD l fK).drew⟩
theorem DZ b s T f g h a (w) (d:0≤a∧a<4)
 (c:w.heap[b]? = some (d_ (gX s (a_ f g h)) T (0,0))) :
 Calls gd 216 #[fG (some ⟨b,0,none⟩),b_ c_ a] w fun e w'=>e =fH (b_ c_ (if a=0 then s.r0 else if a=1 then s.r1 else if a=2 then s.r2 else s.r3))∧w=w':=by
 obtain⟨k,r0,r1,r2,r3,q,sent,ra⟩:=s;unfold gX at c;simp only at c;obtain⟨p,l,j,t,r,o,n,i,f0,f1,f2,f3,f4,m,f6,f7⟩:=jz c;clear c;rcases uw d with rfl|rfl|rfl|rfl
 all_goals
  clear d;go_in;go_wp2;go_ret;exact⟨gt (io rfl),rfl⟩
theorem Lk B b s f w (h:iU B 166 w b s) (m:s.k=2) (g:0≤f∧f<4) :
 Calls gd 219 #[fG (some ⟨b,0,none⟩),b_ c_ f] w fun e w'=>e =fH (b_ c_ (kV s f))∧iM B 166 w' b (ls s f)∧Below B w w':=by
 obtain⟨y,d,v,i,j⟩:=h;obtain⟨a1,c1,rfl⟩:=gN i;obtain⟨k,r0,r1,r2,r3,q,sent,ra⟩:=s;simp only at m;subst m;unfold gX at d;simp only at d i j;have C:=gn d;obtain⟨D,o,u,E,t,A,z,n,f0,f1,f2,f3,f4,p,f6,f7⟩:=jz d;have c:=gg d;have a:=gg i;have x:=gg j;clear d i j;have l:∀ r:Int,ls ⟨2,r0,r1,r2,r3,q,sent,ra⟩ r=⟨2,r0,r1,r2,r3,q,sent,ra⟩:=fun r=>by unfold ls;rw[if_neg];simp
 rw[l];clear l;rcases uw g with rfl|rfl|rfl|rfl
 · go_in
   go_wp2_with (go_at_call 216;refine(DZ _ ⟨2,r0,r1,r2,r3,q,sent,ra⟩ _ _ _ _ 0 _ g c.o).mono ?_;rintro e w' ⟨rfl,rfl⟩)
   go_ret;exact⟨gt (io rfl),⟨_,c.o,gl.own a.o (oB _),pI a.o⟩,fK⟩
 · go_in
   go_wp2_with (go_at_call 216;refine(DZ _ ⟨2,r0,r1,r2,r3,q,sent,ra⟩ _ _ _ _ 1 _ g c.o).mono ?_;rintro e w' ⟨rfl,rfl⟩)
   go_ret;exact⟨gt (io rfl),⟨_,c.o,gl.own a.o (oB _),pI a.o⟩,fK⟩
 · go_in
   go_wp2_with (go_at_call 216;refine(DZ _ ⟨2,r0,r1,r2,r3,q,sent,ra⟩ _ _ _ _ 2 _ g c.o).mono ?_;rintro e w' ⟨rfl,rfl⟩)
   go_ret;exact⟨gt (io rfl),⟨_,c.o,gl.own a.o (oB _),pI a.o⟩,fK⟩
 · cases ra
   all_goals
    go_in
    go_wp2
    go_ret;exact⟨gt (io rfl),⟨_,c.o,gl.own a.o (oB _),pI a.o⟩,fK⟩
theorem MO B b s a w (h:iU B 168 w b s) (j:s.k=3) (m:0≤a∧a<4) :
 Calls gd 216 #[fG (some ⟨b,0,none⟩),b_ c_ a] w fun e w'=>e =fH (b_ c_ (kV s a))∧iM B 168 w' b (ls s a)∧Below B w w':=by
 obtain⟨x,c,u,d,f⟩:=h;obtain⟨a1,c1,rfl⟩:=gN d;obtain⟨k,r0,r1,r2,r3,q,sent,ra⟩:=s;simp only at j;subst j;unfold gX at c;simp only at c d f;have A:=gn c;obtain⟨C,o,t,D,r,z,y,n,f0,f1,f2,f3,f4,p,f6,f7⟩:=jz c;have g:=gg c;have i:=gg d;have v:=gg f;clear c d f;refine(DZ _ ⟨3,r0,r1,r2,r3,q,sent,ra⟩ _ _ _ _ a _ m g.o).mono ?_
 rintro e w' ⟨rfl,rfl⟩;have l:ls ⟨3,r0,r1,r2,r3,q,sent,ra⟩ a=⟨3,r0,r1,r2,r3,q,sent,ra⟩:=by unfold ls;rw[if_neg];simp
 rw[l];exact⟨gt (io rfl),⟨_,g.o,gl.own i.o (oB _),pI i.o⟩,fK⟩
theorem MN B b s o w (h:iU B 164 w b s) (p:s.k=1) (i:0≤o∧o<4) :
 Calls gd 213 #[fG (some ⟨b,0,none⟩),b_ c_ o] w fun e w'=>e =fH (b_ c_ (kV s o))∧iM B 164 w' b (ls s o)∧Below B w w':=by
 obtain⟨U,l,D,r,y⟩:=h;obtain⟨a1,c1,rfl⟩:=gN r;obtain⟨k,r0,r1,r2,r3,q,sent,ra⟩:=s;simp only at p;subst p;unfold gX at l;simp only at l r y;have X:=gn l;obtain⟨Y,N,T,Z,R,W,V,M,f0,f1,f2,f3,f4,O,f6,f7⟩:=jz l;have f:=gg l;have d:=gg r;have J:=gg y;clear l r y;rcases uw i with rfl|rfl|rfl|rfl
 · cases q with
   |
    nil=>
    simp only[List.length_nil] at *
    clear i;go_in
    go_wp2
    go_ret;exact⟨gt (io rfl),⟨_,f.o,gl.own d.o (oB _),pI d.o⟩,fK⟩
   |
    cons x q=>
    obtain⟨g,c,t,C,A,z,P,K,H,ht⟩:∃ g c t,a_ a1 (q.length+1) c1 =a_ (some ⟨g,0,none⟩) (q.length+1) c∧B≤g∧w.heap[g]? = some (d_ t 3 (0,0))∧q.length+1≤c∧c≤maxLen∧t.size=c*1∧t.toList.take ((q.length+1)*1)=qL ⟨1,r0,r1,r2,r3,x :: q,sent,ra⟩:=by
     rcases d.o.2 with⟨h1,h2⟩|h
     · simp at h2
     · simpa using h
    obtain⟨rfl,rfl⟩:a1=some ⟨g,0,none⟩∧c1=c:=by simpa using C
    have L:g≠b:=fun e=>J.o (by rw[e];rfl)
    have v:∀ j u,(qL ⟨1,r0,r1,r2,r3,x :: q,sent,ra⟩)[j]? = some u→w.cell? ⟨g,j,none⟩=some u:=fun j u m=>by
     have F:j<(q.length+1)*1:=by
      have:=(fR m).1;rw[Cm] at this;simpa using this
     have p:w.ownsRow B 3 1 (a_ (some ⟨g,0,none⟩) (q.length+1) c1) (q.length+1) (qL ⟨1,r0,r1,r2,r3,x :: q,sent,ra⟩):=d.o;rw[p.cellAt j F,m]
    have S:=v 0 _ rfl;have G:=gg v;have Q:=gg z;have E:=gn z;clear v z ht H C;unfold maxLen at K;simp only[List.length_cons] at *
    clear i;by_cases hc1:c1=1
    · subst hc1
      go_in
      go_wp2
      go_ret;have I:q=[]:=fT f_;subst I;exact⟨gt (io rfl),Gj (s:=⟨1,r0,r1,r2,r3,[],sent,ra⟩) (jb f.o 5 _) ⟨rfl,by simp[qL],.inr ⟨g,0,0,rfl,by rw[kj];exact E,fM,by simp,fun j u m=>by simp[qL] at m⟩⟩ (fun a n c h=>by cases h;exact A),lD D fK⟩
    · go_in
      go_wp2
      go_ret;refine⟨gt (io rfl),Gj (s:=⟨1,r0,r1,r2,r3,q,sent,ra⟩) (jb f.o 5 _) ⟨by simp[qL],oB _,.inr ⟨g,1,c1 - 1,rfl,by rw[kj];exact E,by simp only;omega,by unfold maxLen;omega,fun j u m=>?_⟩⟩ (fun a n c h=>by cases h;exact A),lD D fK⟩;rw[Bq L];refine G.o (1+j) u ?_
      rw[Nat.add_comm];exact m
 · cases q with
   |
    nil=>
    simp only[List.length_nil] at *
    clear i;go_in
    go_wp2
    go_ret;exact⟨gt (io rfl),⟨_,f.o,gl.own d.o (oB _),pI d.o⟩,fK⟩
   |
    cons x q=>
    simp only[List.length_cons] at *
    clear i;go_in
    go_wp2
    go_ret;exact⟨gt (io rfl),⟨_,f.o,gl.own d.o (oB _),pI d.o⟩,fK⟩
 · go_in
   go_wp2_with (go_at_call 216;refine(DZ _ ⟨1,r0,r1,r2,r3,q,sent,ra⟩ _ _ _ _ 2 _ i f.o).mono ?_;rintro e w' ⟨rfl,rfl⟩)
   go_ret;exact⟨gt (io rfl),⟨_,f.o,gl.own d.o (oB _),pI d.o⟩,fK⟩
 · clear i
   go_in
   go_wp2
   go_ret;exact⟨gt (io rfl),⟨_,f.o,gl.own d.o (oB _),pI d.o⟩,fK⟩
section
theorem GU {P b w} {Q:Act→Prop} {a o rest} (c:Region.wanted o (yielded b a.tmps)=false) (h:wpStill P b w Q rest (a.put o.dst undef)):wpStill P b w Q (o :: rest) a:=by
 simp only[wpStill,c];exact h
theorem DU {P b w} {Q:Act→Prop} {a o rest} (c:Region.wanted o (yielded b a.tmps)=true) (h:∀ K:Act→Prop,(∀ a,wpStill P b w Q rest a→K a)→o.still P a w K):wpStill P b w Q (o :: rest) a:=by
 simp only[wpStill,c];exact h _ (fun _ h=>h)
attribute [local irreducible] wpStill
theorem L6 B b s n w (h:iU B 168 w b s) (f:s.k=3) (_:-2147483648≤n∧n≤2147483647) (m:-2147483648≤s.r0∧s.r0≤2147483647) :
 Calls gd 221 #[fG (some ⟨b,0,none⟩),b_ c_ n] w fun e w'=>e =fH (fI #[])∧iM B 168 w' b (kL s n)∧Below B w w':=by
 obtain⟨v,a,g,c,d⟩:=h;obtain⟨a1,c1,rfl⟩:=gN c;obtain⟨k,r0,r1,r2,r3,q,sent,ra⟩:=s;simp only at f;subst f;unfold gX at a;simp only at a c d;have z:=gn a;obtain⟨A,p,u,C,t,y,x,o,f0,f1,f2,f3,f4,r,f6,f7⟩:=jz a;have j:=gg a;have l:=gg c;have i:=gg d;clear a c d;simp only at m;go_in
 go_wp2_with fail
 go_still_tail 30,ga
 change wpList _ _ _ _ _ w.drew
 go_wp2_with fail
 go_end0
 refine⟨rfl,iM.drew ?_,(lD g (lD g fK)).drew⟩;exact uZ (s:=⟨3,r0,r1,r2,bits .or .i64 r3 (bits .and .i64 (bits .xor .i64 n r1) r2),q,sent,ra⟩) (s':=kL ⟨3,r0,r1,r2,r3,q,sent,ra⟩ n) (jb j.o 4 _) (Df l.o i.o 4 _) i.o 2 _ rfl rfl
theorem KO B b s n w (h:iU B 166 w b s) (N:s.k=2) (_:-2147483648≤n∧n≤2147483647) (O:-2147483648≤s.r0∧s.r0≤2147483647) :
 Calls gd 217 #[fG (some ⟨b,0,none⟩),b_ c_ n] w fun e w'=>e =fH (fI #[])∧iM B 166 w' b (kL s n)∧Below B w w':=by
 obtain⟨P,t,x,H,J⟩:=h;obtain⟨a1,c1,rfl⟩:=gN H;obtain⟨k,r0,r1,r2,r3,q,sent,ra⟩:=s;simp only at N;subst N;unfold gX at t;simp only at t H J;have Q:=gn t;obtain⟨C,p,v,j,u,A,z,l,f0,f1,f2,f3,f4,r,f6,f7⟩:=jz t;have m:=gg t;have o:=gg H;have y:=gg J;clear t H J;simp only at O;cases ra with
 |
  true=>
  go_in
  go_wp2_with fail
  go_still_tail 15,ga
  still_call ((mF _ _).mono fun _ _ ⟨h,G⟩=>⟨h,G.symm⟩)
  repeat still_step
  refine wpStill_nil ?_
  change wpList _ _ _ _ _ w.drew
  go_wp2_with fail
  have g:=jb m.o 1 (Value.int IntKind.i64 (wrap32 (r0+1)));have d:((w.setCell ⟨b,1,none⟩ (Value.int IntKind.i64 (wrap32 (r0+1)))).drew).heap[b]? = some (d_ #[b_ c_ 2,b_ c_ (wrap32 (r0+1)),b_ c_ r1,b_ c_ r2,b_ c_ r3,a_ a1 q.length c1,b_ c_ sent,fJ true] 166 (0,0)):=g;have f:((w.setCell ⟨b,1,none⟩ (Value.int IntKind.i64 (wrap32 (r0+1)))).drew).ownsRow B 3 1 (a_ a1 q.length c1) q.length (qL ⟨2,r0,r1,r2,r3,q,sent,true⟩):=Df o.o y.o 1 _;have i:Below B w ((w.setCell ⟨b,1,none⟩ (Value.int IntKind.i64 (wrap32 (r0+1)))).drew):=(lD x fK).drew;have c:=gg d;have E:=gg f;have D:=gg i;clear g d f i m o C p v j u A z l f0 f1 f2 f3 f4 r f6 f7;generalize (w.setCell ⟨b,1,none⟩ (Value.int IntKind.i64 (wrap32 (r0+1)))).drew=w1 at *
  have L:=gn c.o;obtain⟨C,p,v,j,u,A,z,l,f0,f1,f2,f3,f4,r,f6,f7⟩:=jz c.o;refine wp_region_still_tail 34 ga ga ?_
  simp only[List.take_succ_cons,List.take_zero,List.drop_succ_cons,List.drop_zero]
  iterate 8 still_step
  iterate 21 refine GU ga ?_
  repeat still_step
  refine wpStill_nil ?_
  change wpList _ _ _ _ _ w1.drew
  go_wp2_with fail
  go_end0
  exact⟨rfl,iM.drew (uZ (s:=⟨2,wrap32 (r0+1),r1,r2,r3,q,sent,true⟩) (s':=kL ⟨2,r0,r1,r2,r3,q,sent,true⟩ n) c.o E.o y.o 7 _ rfl rfl),(lD x D.o).drew⟩
 |
  false=>
  by_cases he:wrap32 (r0+1)=r1
  · skip
    have I:(wrap32 (r0+1) == r1)=true:=beq_iff_eq.2 he;have F:kL ⟨2,r0,r1,r2,r3,q,sent,false⟩ n=⟨2,wrap32 (r0+1),r1,r2,r3,q,sent,bits .and .i64 r2 1 != 0⟩:=by simp[kL,I,en]
    rw[F];clear F he;go_in
    go_wp2_with fail
    go_still_tail 15,ga
    still_call ((mF _ _).mono fun _ _ ⟨h,G⟩=>⟨h,G.symm⟩)
    repeat still_step
    refine wpStill_nil ?_
    change wpList _ _ _ _ _ w.drew
    go_wp2_with fail
    have g:=jb m.o 1 (Value.int IntKind.i64 (wrap32 (r0+1)));have d:((w.setCell ⟨b,1,none⟩ (Value.int IntKind.i64 (wrap32 (r0+1)))).drew).heap[b]? = some (d_ #[b_ c_ 2,b_ c_ (wrap32 (r0+1)),b_ c_ r1,b_ c_ r2,b_ c_ r3,a_ a1 q.length c1,b_ c_ sent,fJ false] 166 (0,0)):=g;have f:((w.setCell ⟨b,1,none⟩ (Value.int IntKind.i64 (wrap32 (r0+1)))).drew).ownsRow B 3 1 (a_ a1 q.length c1) q.length (qL ⟨2,r0,r1,r2,r3,q,sent,false⟩):=Df o.o y.o 1 _;have i:Below B w ((w.setCell ⟨b,1,none⟩ (Value.int IntKind.i64 (wrap32 (r0+1)))).drew):=(lD x fK).drew;have c:=gg d;have E:=gg f;have D:=gg i;clear g d f i m o C p v j u A z l f0 f1 f2 f3 f4 r f6 f7;generalize (w.setCell ⟨b,1,none⟩ (Value.int IntKind.i64 (wrap32 (r0+1)))).drew=w1 at *
    have L:=gn c.o;obtain⟨C,p,v,j,u,A,z,l,f0,f1,f2,f3,f4,r,f6,f7⟩:=jz c.o;refine wp_region_still_tail 34 ga ga ?_
    simp only[List.take_succ_cons,List.take_zero,List.drop_succ_cons,List.drop_zero]
    iterate 8 still_step
    iterate 19 (refine DU ga (fun K a=>?_);go_simp;refine a _ ?_;clear a K)
    (refine DU ga (fun K a=>?_);go_simp;refine⟨_,((FG _ r2 w1.drew j).mono fun _ _ M=>⟨M.1,M.2.symm⟩),a _ ?_⟩;clear a K)
    (refine DU ga (fun K a=>?_);go_simp;refine a _ ?_;clear a K)
    repeat still_step
    refine wpStill_nil ?_
    change wpList _ _ _ _ _ w1.drew
    go_wp2_with fail
    go_end0
    exact⟨rfl,iM.drew (uZ (s:=⟨2,wrap32 (r0+1),r1,r2,r3,q,sent,false⟩) (s':=⟨2,wrap32 (r0+1),r1,r2,r3,q,sent,bits .and .i64 r2 1 != 0⟩) c.o E.o y.o 7 _ rfl rfl),(lD x D.o).drew⟩
  · skip
    have I:(wrap32 (r0+1) == r1)=false:=fS he;have F:kL ⟨2,r0,r1,r2,r3,q,sent,false⟩ n=⟨2,wrap32 (r0+1),r1,r2,r3,q,sent,false⟩:=by simp[kL,I]
    rw[F];clear F he;go_in
    go_wp2_with fail
    go_still_tail 15,ga
    still_call ((mF _ _).mono fun _ _ ⟨h,G⟩=>⟨h,G.symm⟩)
    repeat still_step
    refine wpStill_nil ?_
    change wpList _ _ _ _ _ w.drew
    go_wp2_with fail
    have g:=jb m.o 1 (Value.int IntKind.i64 (wrap32 (r0+1)));have d:((w.setCell ⟨b,1,none⟩ (Value.int IntKind.i64 (wrap32 (r0+1)))).drew).heap[b]? = some (d_ #[b_ c_ 2,b_ c_ (wrap32 (r0+1)),b_ c_ r1,b_ c_ r2,b_ c_ r3,a_ a1 q.length c1,b_ c_ sent,fJ false] 166 (0,0)):=g;have f:((w.setCell ⟨b,1,none⟩ (Value.int IntKind.i64 (wrap32 (r0+1)))).drew).ownsRow B 3 1 (a_ a1 q.length c1) q.length (qL ⟨2,r0,r1,r2,r3,q,sent,false⟩):=Df o.o y.o 1 _;have i:Below B w ((w.setCell ⟨b,1,none⟩ (Value.int IntKind.i64 (wrap32 (r0+1)))).drew):=(lD x fK).drew;have c:=gg d;have E:=gg f;have D:=gg i;clear g d f i m o C p v j u A z l f0 f1 f2 f3 f4 r f6 f7;generalize (w.setCell ⟨b,1,none⟩ (Value.int IntKind.i64 (wrap32 (r0+1)))).drew=w1 at *
    have L:=gn c.o;obtain⟨C,p,v,j,u,A,z,l,f0,f1,f2,f3,f4,r,f6,f7⟩:=jz c.o;refine wp_region_still_tail 34 ga ga ?_
    simp only[List.take_succ_cons,List.take_zero,List.drop_succ_cons,List.drop_zero]
    iterate 8 still_step
    iterate 16 (refine DU ga (fun K a=>?_);go_simp;refine a _ ?_;clear a K)
    iterate 4 refine GU ga ?_
    (refine DU ga (fun K a=>?_);go_simp;refine a _ ?_;clear a K)
    repeat still_step
    refine wpStill_nil ?_
    change wpList _ _ _ _ _ w1.drew
    go_wp2_with fail
    go_end0
    exact⟨rfl,iM.drew (uZ (s:=⟨2,wrap32 (r0+1),r1,r2,r3,q,sent,false⟩) (s':=⟨2,wrap32 (r0+1),r1,r2,r3,q,sent,false⟩) c.o E.o y.o 7 _ rfl rfl),(lD x D.o).drew⟩
theorem L5 B b s n w (h:iU B 164 w b s) (c:s.k=1) (_:-2147483648≤n∧n≤2147483647) (I:-2147483648≤s.r0∧s.r0≤2147483647) :
 Calls gd 211 #[fG (some ⟨b,0,none⟩),b_ c_ n] w fun e w'=>e =fH (fI #[])∧iM B 164 w' b (kL s n)∧Below B w w':=by
 obtain⟨qv,a,C,i,r⟩:=h;obtain⟨a1,c1,rfl⟩:=gN i;obtain⟨k,r0,r1,r2,r3,q,sent,ra⟩:=s;simp only at c;subst c;unfold gX at a;simp only at a i r;have M:=gn a;obtain⟨g0,g1,V,g3,T,g5,Z,g7,f0,f1,f2,f3,f4,R,f6,f7⟩:=jz a;have y:=gg a;have g:=gg i;have D:=gg r;clear a i r;simp only at I;obtain⟨A,N,L,F,H⟩:=info_parts IH;by_cases x:q.length<16
 · have t:∀ j u,[Value.int IntKind.i64 (bits .and .i64 n 255)][j]? = some u→(w.alloc (d_ #[b_ c_ (bits .and .i64 n 255)] 3)).cell? ((⟨w.heap.size,0,none⟩:Addr).add j)=some u:=cell_one_new _ _ _
   have K:=gg t;clear t;go_in
   go_wp2_with (at_builtin;refine wpList_append_own _ rfl _ _ 24 rfl B 3 A (b_ c_ 0) 1 8 Tryz.underlying24 N L F H rfl fZ _ q.length _ rfl (g.o.alloc _) ⟨w.heap.size,0,none⟩ 1 1 [b_ c_ (bits .and .i64 n 255)] rfl rfl K.o (by simp[Value.oneCell']) (by unfold maxLen;omega) f_ (by simp;omega) ?_;intro v' w1 o m _;obtain⟨a2,f,rfl⟩:=gN o;have l:=(m.block b (by simp;omega) (fun e=>D.o e.symm)).trans (iE (fK.alloc fL _) M y.o);have O:=gn l;obtain⟨W,z1,P,z3,z4,S,z6,X,Y,y1,y2,y3,y4,y5,Q,U⟩:=jz l;have v:=gg l;have p:=gg o;have E:=gg m;clear l o m)
   go_end0
   have J:(a_ a2 (q.length+1) f).ownBlock≠some b:=KL p.o v.o fZ;have z:(q ++ [bits .and .i64 n 255]).length=q.length+1:=by simp
   have G:gl (w1.setCell ⟨b,5,none⟩ (a_ a2 (q.length+1) f)) 1 (q ++ [bits .and .i64 n 255]).length (a_ a2 (q.length+1) f) (qL ⟨1,r0,r1,r2,r3,q ++ [bits .and .i64 n 255],sent,ra⟩):=by
    rw[z];refine gl.own (base:=B) (e:=3) ?_ (oB _)
    have:=Df p.o J 5 (a_ a2 (q.length+1) f)
    simpa[qL] using this
   have d:kL ⟨1,r0,r1,r2,r3,q,sent,ra⟩ n=⟨1,r0,r1,r2,r3,q ++ [bits .and .i64 n 255],sent,ra⟩:=by simp[kL,x]
   rw[d];exact⟨rfl,Gj (s:=⟨1,r0,r1,r2,r3,q ++ [bits .and .i64 n 255],sent,ra⟩) (jb v.o 5 _) G (pI p.o),lD C ((((Below.refl B w).alloc f_ _).grown E.o (by simp;omega) (fun k c=>(g.o.lt k c).1)))⟩
 · have d:kL ⟨1,r0,r1,r2,r3,q,sent,ra⟩ n=⟨1,r0,r1,r2,r3,q,sent,ra⟩:=by simp[kL,x]
   rw[d];clear d;go_in
   go_wp2_with fail
   go_end0
   exact⟨rfl,⟨_,y.o,gl.own g.o (oB _),pI g.o⟩,fK⟩
end
theorem iU.drew {B} {T:TypeId} {w b s} (h:iU B T w b s):iU B T w.drew b s:=h
theorem Below.of_drew {B w w'} (h:Below B w.drew w'):Below B w w':=⟨h.os,h.tape,h.output,h.size,h.block⟩
theorem LR B b i d s a n w (h:iU B 164 w b s) (g:s.k=1) (m:0≤a∧a<4) (r:0≤s.sent∧s.sent≤2147483647)
 (h1:w.cell? ⟨i,0,none⟩=some (b_ c_ a)) (h2:w.cell? ⟨d,0,none⟩=some (b_ c_ n)) :
 Calls gd 191 #[.iface 160 (fG (some ⟨b,0,none⟩)),fG (some ⟨i,0,none⟩),fG (some ⟨d,0,none⟩)] w fun e w'=>e =fH (fI #[])∧iM B 164 w' b (kX s a (wrap32 n))∧Below B w w':=by
 have u:=JJ;have t:=JF;have l:=gg h;have o:=gg g;clear h g;go_in
 go_wp2_with fail
 go_still_tail 7,ga
 still_call ((mF n _).mono fun _ _ c=>⟨c.1,c.2.symm⟩)
 repeat still_step
 refine wpStill_nil ?_
 change wpList _ _ _ _ _ w.drew
 go_wp2_with fail
 refine(K2 B b s a _ _ (iU.drew l.o) o.o m r).mono ?_
 rintro e w1 ⟨rfl,f,j⟩;have p:=gg f;have q:=gg j;clear f j
 go_wp2_with fail
 go_end0
 exact⟨rfl,p.o,Below.of_drew q.o⟩
theorem Ng B b c s n w (h:iU B 164 w b s) (f:s.k=1) (o:-2147483648≤s.r0∧s.r0≤2147483647)
 (h2:w.cell? ⟨c,0,none⟩=some (b_ c_ n)) :
 Calls gd 126 #[.iface 160 (fG (some ⟨b,0,none⟩)),fG (some ⟨c,0,none⟩)] w fun e w'=>e =fH (fI #[])∧iM B 164 w' b (kL s (wrap32 n))∧Below B w w':=by
 have q:=JN;have p:=JH;have i:=gg h;have j:=gg f;clear h f;go_in
 go_wp2_with fail
 go_still_tail 6,ga
 still_call ((mF n _).mono fun _ _ a=>⟨a.1,a.2.symm⟩)
 repeat still_step
 refine wpStill_nil ?_
 change wpList _ _ _ _ _ w.drew
 go_wp2_with fail
 refine(L5 B b s _ _ (iU.drew i.o) j.o (oi n) o).mono ?_
 rintro e w1 ⟨rfl,d,g⟩;have l:=gg d;have m:=gg g;clear d g
 go_wp2_with fail
 go_end0
 exact⟨rfl,l.o,Below.of_drew m.o⟩
theorem MP B b i c s a u T w (h:iU B 164 w b s) (g:s.k=1) (o:0≤a∧a<4)
 (h1:w.cell? ⟨i,0,none⟩=some (b_ c_ a)) (h2:w.heap[c]? = some (d_ #[u] T (0,0))) (l:c<B) :
 Calls gd 192 #[.iface 160 (fG (some ⟨b,0,none⟩)),fG (some ⟨i,0,none⟩),fG (some ⟨c,0,none⟩)] w fun e w'=>e =fH (fI #[]) ∧ ∃ w1,w'=w1.setCell ⟨c,0,none⟩ (b_ c_ (kV s a))∧iM B 164 w1 b (ls s a)∧Below B w w1:=by
 have v:=J3;have n:=gg h;have p:=gg g;have m:=gg h2;clear h g h2;go_in
 go_wp2_with fail
 refine(MN B b s a _ n.o p.o o).mono ?_
 rintro e w1 ⟨rfl,f,d⟩;have h3:=iE d l m.o;have t:=gv (j:=0) h3 rfl;have f0:=gC h3 0;simp only[List.getElem_toArray,List.getElem_cons_zero] at t;have q:=gg f;have r:=gg d;clear f d h3
 go_wp2_with fail
 go_end0
 exact⟨rfl,_,rfl,q.o,r.o⟩
theorem K9 B b i d s a n w (h:iU B 166 w b s) (g:s.k=2) (m:0≤a∧a<4) (r:0≤s.sent∧s.sent≤2147483647)
 (h1:w.cell? ⟨i,0,none⟩=some (b_ c_ a)) (h2:w.cell? ⟨d,0,none⟩=some (b_ c_ n)) :
 Calls gd 191 #[.iface 165 (fG (some ⟨b,0,none⟩)),fG (some ⟨i,0,none⟩),fG (some ⟨d,0,none⟩)] w fun e w'=>e =fH (fI #[])∧iM B 166 w' b (kX s a (wrap32 n))∧Below B w w':=by
 have u:=JS;have t:=JQ;have l:=gg h;have o:=gg g;clear h g;go_in
 go_wp2_with fail
 go_still_tail 7,ga
 still_call ((mF n _).mono fun _ _ c=>⟨c.1,c.2.symm⟩)
 repeat still_step
 refine wpStill_nil ?_
 change wpList _ _ _ _ _ w.drew
 go_wp2_with fail
 refine(J7 B b s a _ _ (iU.drew l.o) o.o m r).mono ?_
 rintro e w1 ⟨rfl,f,j⟩;have p:=gg f;have q:=gg j;clear f j
 go_wp2_with fail
 go_end0
 exact⟨rfl,p.o,Below.of_drew q.o⟩
theorem L9 B b c s n w (h:iU B 166 w b s) (f:s.k=2) (o:-2147483648≤s.r0∧s.r0≤2147483647)
 (h2:w.cell? ⟨c,0,none⟩=some (b_ c_ n)) :
 Calls gd 126 #[.iface 165 (fG (some ⟨b,0,none⟩)),fG (some ⟨c,0,none⟩)] w fun e w'=>e =fH (fI #[])∧iM B 166 w' b (kL s (wrap32 n))∧Below B w w':=by
 have q:=JV;have p:=JR;have i:=gg h;have j:=gg f;clear h f;go_in
 go_wp2_with fail
 go_still_tail 6,ga
 still_call ((mF n _).mono fun _ _ a=>⟨a.1,a.2.symm⟩)
 repeat still_step
 refine wpStill_nil ?_
 change wpList _ _ _ _ _ w.drew
 go_wp2_with fail
 refine(KO B b s _ _ (iU.drew i.o) j.o (oi n) o).mono ?_
 rintro e w1 ⟨rfl,d,g⟩;have l:=gg d;have m:=gg g;clear d g
 go_wp2_with fail
 go_end0
 exact⟨rfl,l.o,Below.of_drew m.o⟩
theorem Lo B b i c s a u T w (h:iU B 166 w b s) (g:s.k=2) (o:0≤a∧a<4)
 (h1:w.cell? ⟨i,0,none⟩=some (b_ c_ a)) (h2:w.heap[c]? = some (d_ #[u] T (0,0))) (l:c<B) :
 Calls gd 192 #[.iface 165 (fG (some ⟨b,0,none⟩)),fG (some ⟨i,0,none⟩),fG (some ⟨c,0,none⟩)] w fun e w'=>e =fH (fI #[]) ∧ ∃ w1,w'=w1.setCell ⟨c,0,none⟩ (b_ c_ (kV s a))∧iM B 166 w1 b (ls s a)∧Below B w w1:=by
 have v:=JM;have n:=gg h;have p:=gg g;have m:=gg h2;clear h g h2;go_in
 go_wp2_with fail
 refine(Lk B b s a _ n.o p.o o).mono ?_
 rintro e w1 ⟨rfl,f,d⟩;have h3:=iE d l m.o;have t:=gv (j:=0) h3 rfl;have f0:=gC h3 0;simp only[List.getElem_toArray,List.getElem_cons_zero] at t;have q:=gg f;have r:=gg d;clear f d h3
 go_wp2_with fail
 go_end0
 exact⟨rfl,_,rfl,q.o,r.o⟩
theorem LT B b i d s a n w (h:iU B 168 w b s) (g:s.k=3) (m:0≤a∧a<4) (r:0≤s.sent∧s.sent≤2147483647)
 (h1:w.cell? ⟨i,0,none⟩=some (b_ c_ a)) (h2:w.cell? ⟨d,0,none⟩=some (b_ c_ n)) :
 Calls gd 191 #[.iface 167 (fG (some ⟨b,0,none⟩)),fG (some ⟨i,0,none⟩),fG (some ⟨d,0,none⟩)] w fun e w'=>e =fH (fI #[])∧iM B 168 w' b (kX s a (wrap32 n))∧Below B w w':=by
 have u:=JK;have t:=JG;have l:=gg h;have o:=gg g;clear h g;go_in
 go_wp2_with fail
 go_still_tail 7,ga
 still_call ((mF n _).mono fun _ _ c=>⟨c.1,c.2.symm⟩)
 repeat still_step
 refine wpStill_nil ?_
 change wpList _ _ _ _ _ w.drew
 go_wp2_with fail
 refine(K3 B b s a _ _ (iU.drew l.o) o.o m r).mono ?_
 rintro e w1 ⟨rfl,f,j⟩;have p:=gg f;have q:=gg j;clear f j
 go_wp2_with fail
 go_end0
 exact⟨rfl,p.o,Below.of_drew q.o⟩
theorem Nh B b c s n w (h:iU B 168 w b s) (f:s.k=3) (o:-2147483648≤s.r0∧s.r0≤2147483647)
 (h2:w.cell? ⟨c,0,none⟩=some (b_ c_ n)) :
 Calls gd 126 #[.iface 167 (fG (some ⟨b,0,none⟩)),fG (some ⟨c,0,none⟩)] w fun e w'=>e =fH (fI #[])∧iM B 168 w' b (kL s (wrap32 n))∧Below B w w':=by
 have q:=JO;have p:=JI;have i:=gg h;have j:=gg f;clear h f;go_in
 go_wp2_with fail
 go_still_tail 6,ga
 still_call ((mF n _).mono fun _ _ a=>⟨a.1,a.2.symm⟩)
 repeat still_step
 refine wpStill_nil ?_
 change wpList _ _ _ _ _ w.drew
 go_wp2_with fail
 refine(L6 B b s _ _ (iU.drew i.o) j.o (oi n) o).mono ?_
 rintro e w1 ⟨rfl,d,g⟩;have l:=gg d;have m:=gg g;clear d g
 go_wp2_with fail
 go_end0
 exact⟨rfl,l.o,Below.of_drew m.o⟩
theorem MQ B b i c s a u T w (h:iU B 168 w b s) (g:s.k=3) (o:0≤a∧a<4)
 (h1:w.cell? ⟨i,0,none⟩=some (b_ c_ a)) (h2:w.heap[c]? = some (d_ #[u] T (0,0))) (l:c<B) :
 Calls gd 192 #[.iface 167 (fG (some ⟨b,0,none⟩)),fG (some ⟨i,0,none⟩),fG (some ⟨c,0,none⟩)] w fun e w'=>e =fH (fI #[]) ∧ ∃ w1,w'=w1.setCell ⟨c,0,none⟩ (b_ c_ (kV s a))∧iM B 168 w1 b (ls s a)∧Below B w w1:=by
 have v:=J4;have n:=gg h;have p:=gg g;have m:=gg h2;clear h g h2;go_in
 go_wp2_with fail
 refine(MO B b s a _ n.o p.o o).mono ?_
 rintro e w1 ⟨rfl,f,d⟩;have h3:=iE d l m.o;have t:=gv (j:=0) h3 rfl;have f0:=gC h3 0;simp only[List.getElem_toArray,List.getElem_cons_zero] at t;have q:=gg f;have r:=gg d;clear f d h3
 go_wp2_with fail
 go_end0
 exact⟨rfl,_,rfl,q.o,r.o⟩
end
section
open Go.RowKit
theorem J8 f g v s a n w (h:iZ w v s) (i:s.k=1∨s.k=2∨s.k=3) (t:s.q.length≤1000) (D:0≤a∧a<4) (x:0≤s.sent∧s.sent≤2147483647)
 (h1:w.cell? ⟨f,0,none⟩=some (b_ c_ a)) (hp:f<w.heap.size) (h2:w.cell? ⟨g,0,none⟩=some (b_ c_ n)) (aa:g<w.heap.size) :
 Calls gd 125 #[v,b_ c_ a,.func (.func 191) #[] #[fG (some ⟨f,0,none⟩),fG (some ⟨g,0,none⟩)]] w fun e w'=>∃ F,e =fH F∧gQ w.heap.size w' F (ja (kX s a (wrap32 n)))∧Up w w':=by
 rcases i with i|i|i
 all_goals
  obtain⟨qv,rfl,j⟩:=h;obtain⟨l,m,rfl⟩:=j.shape;have I:Up w ((w.alloc (d_ (gX s (a_ l s.q.length m)) 75)).alloc (d_ #[b_ c_ 0,b_ c_ 0,b_ c_ 0,b_ c_ 0,b_ c_ 0,a_ none 0 0,b_ c_ 0,fJ false] 75)):=(fK.alloc fL _).alloc gb _;have hst:iZ ((w.alloc (d_ (gX s (a_ l s.q.length m)) 75)).alloc (d_ #[b_ c_ 0,b_ c_ 0,b_ c_ 0,b_ c_ 0,b_ c_ 0,a_ none 0 0,b_ c_ 0,fJ false] 75)) (e_ (gX s (a_ l s.q.length m))) s:=⟨_,rfl,j.below I⟩;have H2:=gg h2;have c:=gg i;have G:=gg hst;have B0:=gg I;clear h2 i hst j I;have Z:=gg h1;clear h1;unfold gX at *
  go_in
  go_wp2_with fail
  first|refine(EX _ s _ G.o c.o t).mono ?_|refine(EM _ s _ G.o c.o t).mono ?_|refine(EY _ s _ G.o c.o t).mono ?_
  rintro e w1 ⟨b,rfl,L,d⟩;have C:=gg L;have T:=gg d;clear L d;have O:Up w w1:=B0.o.trans (T.o.mono (by simp;omega));have o:=gg O;clear O;have K:w1.cell? ⟨f,0,none⟩=some (b_ c_ a):=by rw[o.o.cell (p:=⟨f,0,none⟩) hp];exact Z.o
  have H:=gg K;clear K;have S:w1.cell? ⟨g,0,none⟩=some (b_ c_ n):=by rw[o.o.cell (p:=⟨g,0,none⟩) aa];exact H2.o
  have y:=gg S;clear S
  go_wp2_with fail
  first|refine(LR _ b f g s a n _ C.o c.o D x H.o y.o).mono ?_|refine(K9 _ b f g s a n _ C.o c.o D x H.o y.o).mono ?_|refine(LT _ b f g s a n _ C.o c.o D x H.o y.o).mono ?_
  rintro e w2 ⟨rfl,R,d⟩;have u:=gg R;have E:=gg d;clear R d
  go_wp2_with fail
  first|refine(FK _ b _ _ u.o (Gu s a _ c.o)).mono ?_|refine(FA _ b _ _ u.o (Gu s a _ c.o)).mono ?_|refine(FL _ b _ _ u.o (Gu s a _ c.o)).mono ?_
  rintro e A ⟨F,rfl,r,d⟩;have Q:=gg r;have J:=gg d;clear d;obtain⟨qv,r,j,W⟩:=r;obtain⟨P,M,rfl⟩:=j.shape;clear j W
  have z:A.heap[w.heap.size+1]? = some (d_ #[b_ c_ 0,b_ c_ 0,b_ c_ 0,b_ c_ 0,b_ c_ 0,a_ none 0 0,b_ c_ 0,fJ false] 75):=by
   have h0:((w.alloc (d_ #[b_ c_ s.k,b_ c_ s.r0,b_ c_ s.r1,b_ c_ s.r2,b_ c_ s.r3,a_ l s.q.length m,b_ c_ s.sent,fJ s.ra] 75)).alloc (d_ #[b_ c_ 0,b_ c_ 0,b_ c_ 0,b_ c_ 0,b_ c_ 0,a_ none 0 0,b_ c_ 0,fJ false] 75)).heap[w.heap.size+1]? = some (d_ #[b_ c_ 0,b_ c_ 0,b_ c_ 0,b_ c_ 0,b_ c_ 0,a_ none 0 0,b_ c_ 0,fJ false] 75):=by
    have:=gH (w.alloc (d_ #[b_ c_ s.k,b_ c_ s.r0,b_ c_ s.r1,b_ c_ s.r2,b_ c_ s.r3,a_ l s.q.length m,b_ c_ s.sent,fJ s.ra] 75)) (d_ #[b_ c_ 0,b_ c_ 0,b_ c_ 0,b_ c_ 0,b_ c_ 0,a_ none 0 0,b_ c_ 0,fJ false] 75)
    simpa using this
   have h1:=iE T.o gb h0;have h2:=iE E.o gb h1;exact iE J.o (gn h2) h2
  have ab:=gn z;obtain⟨u0,u1,u2,u3,u4,u5,u6,u7,t0,t1,t2,t3,t4,t5,t6,t7⟩:=jz z;clear z;subst r;have V:w.heap.size+1<w.heap.size+1+1:=by omega
  have X:w.heap.size≤w.heap.size+1:=by omega
  have N:gQ (w.heap.size+1+1) A (e_ (gX (ja (kX s a (wrap32 n))) (a_ P (ja (kX s a (wrap32 n))).q.length M))) (ja (kX s a (wrap32 n))):=by simpa using Q.o
  have U:Up w A:=o.o.trans ((E.o.mono (by simp;omega)).trans (J.o.mono (fO o.o.size E.o.size)));have Y:=gg N;have B4:=gg U;clear Q N U;unfold gX
  go_wp2_with fail
  refine bodyPost_ret (v:=e_ (gX (ja (kX s a (wrap32 n))) (a_ P (ja (kX s a (wrap32 n))).q.length M))) (by simp[results,Tryz.results125,go_sem,gX,u0,u1,u2,u3,u4,u5,u6,u7]) rfl ⟨_,rfl,gQ.mono (B:=w.heap.size+1+1) f_ ?_,?_⟩
  · iterate 8 apply yP V
    exact Y.o
  · iterate 8 apply lD X
    exact B4.o
theorem KD d v s n w (h:iZ w v s) (f:s.k=1∨s.k=2∨s.k=3) (m:s.q.length≤1000)  (y:-2147483648≤s.r0∧s.r0≤2147483647)
 (h2:w.cell? ⟨d,0,none⟩=some (b_ c_ n)) (U:d<w.heap.size) :
 Calls gd 125 #[v,b_ c_ 0,.func (.func 126) #[] #[fG (some ⟨d,0,none⟩)]] w fun e w'=>∃ u,e =fH u∧gQ w.heap.size w' u (ja (kL s (wrap32 n)))∧Up w w':=by
 rcases f with f|f|f
 all_goals
  obtain⟨X,rfl,g⟩:=h;obtain⟨j,i,rfl⟩:=g.shape;have E:Up w ((w.alloc (d_ (gX s (a_ j s.q.length i)) 75)).alloc (d_ #[b_ c_ 0,b_ c_ 0,b_ c_ 0,b_ c_ 0,b_ c_ 0,a_ none 0 0,b_ c_ 0,fJ false] 75)):=(fK.alloc fL _).alloc gb _;have hst:iZ ((w.alloc (d_ (gX s (a_ j s.q.length i)) 75)).alloc (d_ #[b_ c_ 0,b_ c_ 0,b_ c_ 0,b_ c_ 0,b_ c_ 0,a_ none 0 0,b_ c_ 0,fJ false] 75)) (e_ (gX s (a_ j s.q.length i))) s:=⟨_,rfl,g.below E⟩;have T:=gg h2;have a:=gg f;have z:=gg hst;have S:=gg E;clear h2 f hst g E;unfold gX at *
  go_in
  go_wp2_with fail
  first|refine(EX _ s _ z.o a.o m).mono ?_|refine(EM _ s _ z.o a.o m).mono ?_|refine(EY _ s _ z.o a.o m).mono ?_
  rintro e w1 ⟨b,rfl,J,c⟩;have o:=gg J;have M:=gg c;clear J c;have G:Up w w1:=S.o.trans (M.o.mono (by simp;omega));have r:=gg G;clear G;have L:w1.cell? ⟨d,0,none⟩=some (b_ c_ n):=by rw[r.o.cell (p:=⟨d,0,none⟩) U];exact T.o
  have A:=gg L;clear L
  go_wp2_with fail
  first|refine(Ng _ b d s n _ o.o a.o y A.o).mono ?_|refine(L9 _ b d s n _ o.o a.o y A.o).mono ?_|refine(Nh _ b d s n _ o.o a.o y A.o).mono ?_
  rintro e w2 ⟨rfl,K,c⟩;have x:=gg K;have t:=gg c;clear K c
  go_wp2_with fail
  first|refine(FK _ b _ _ x.o (Gv s _ a.o)).mono ?_|refine(FA _ b _ _ x.o (Gv s _ a.o)).mono ?_|refine(FL _ b _ _ x.o (Gv s _ a.o)).mono ?_
  rintro e D ⟨u,rfl,l,c⟩;have I:=gg l;have F:=gg c;clear c;obtain⟨X,l,g,R⟩:=l;obtain⟨H,O,rfl⟩:=g.shape;clear g R
  have C:D.heap[w.heap.size+1]? = some (d_ #[b_ c_ 0,b_ c_ 0,b_ c_ 0,b_ c_ 0,b_ c_ 0,a_ none 0 0,b_ c_ 0,fJ false] 75):=by
   have h0:((w.alloc (d_ #[b_ c_ s.k,b_ c_ s.r0,b_ c_ s.r1,b_ c_ s.r2,b_ c_ s.r3,a_ j s.q.length i,b_ c_ s.sent,fJ s.ra] 75)).alloc (d_ #[b_ c_ 0,b_ c_ 0,b_ c_ 0,b_ c_ 0,b_ c_ 0,a_ none 0 0,b_ c_ 0,fJ false] 75)).heap[w.heap.size+1]? = some (d_ #[b_ c_ 0,b_ c_ 0,b_ c_ 0,b_ c_ 0,b_ c_ 0,a_ none 0 0,b_ c_ 0,fJ false] 75):=by
    have:=gH (w.alloc (d_ #[b_ c_ s.k,b_ c_ s.r0,b_ c_ s.r1,b_ c_ s.r2,b_ c_ s.r3,a_ j s.q.length i,b_ c_ s.sent,fJ s.ra] 75)) (d_ #[b_ c_ 0,b_ c_ 0,b_ c_ 0,b_ c_ 0,b_ c_ 0,a_ none 0 0,b_ c_ 0,fJ false] 75)
    simpa using this
   have h1:=iE M.o gb h0;have h2:=iE t.o gb h1;exact iE F.o (gn h2) h2
  have aa:=gn C;obtain⟨u0,u1,u2,u3,u4,u5,u6,u7,t0,Z,t2,t3,t4,t5,t6,t7⟩:=jz C;clear C;subst l;have Q:w.heap.size+1<w.heap.size+1+1:=by omega
  have W:w.heap.size≤w.heap.size+1:=by omega
  have P:gQ (w.heap.size+1+1) D (e_ (gX (ja (kL s (wrap32 n))) (a_ H (ja (kL s (wrap32 n))).q.length O))) (ja (kL s (wrap32 n))):=by simpa using I.o
  have N:Up w D:=r.o.trans ((t.o.mono (by simp;omega)).trans (F.o.mono (fO r.o.size t.o.size)));have Y:=gg P;have V:=gg N;clear I P N;unfold gX
  go_wp2_with fail
  refine bodyPost_ret (v:=e_ (gX (ja (kL s (wrap32 n))) (a_ H (ja (kL s (wrap32 n))).q.length O))) (by simp[results,Tryz.results125,go_sem,gX,u0,u1,u2,u3,u4,u5,u6,u7]) rfl ⟨_,rfl,gQ.mono (B:=w.heap.size+1+1) f_ ?_,?_⟩
  · iterate 8 apply yP Q
    exact Y.o
  · iterate 8 apply lD W
    exact V.o
theorem KC f c v s a u T w (h:iZ w v s) (g:s.k=1∨s.k=2∨s.k=3) (A:s.q.length≤1000) (I:0≤a∧a<4) 
 (h1:w.cell? ⟨f,0,none⟩=some (b_ c_ a)) (hp:f<w.heap.size) (h2:w.heap[c]? = some (d_ #[u] T (0,0))) (aj:c<w.heap.size) :
 Calls gd 125 #[v,b_ c_ a,.func (.func 192) #[] #[fG (some ⟨f,0,none⟩),fG (some ⟨c,0,none⟩)]] w fun e w'=>∃ J,e =fH J∧gQ w.heap.size w' J (ja (ls s a))∧w.grownBy w' (some c)∧w'.heap[c]? = some (d_ #[b_ c_ (kV s a)] T (0,0)):=by
 rcases g with g|g|g
 all_goals
  obtain⟨qv,rfl,i⟩:=h;obtain⟨j,l,rfl⟩:=i.shape;have M:Up w ((w.alloc (d_ (gX s (a_ j s.q.length l)) 75)).alloc (d_ #[b_ c_ 0,b_ c_ 0,b_ c_ 0,b_ c_ 0,b_ c_ 0,a_ none 0 0,b_ c_ 0,fJ false] 75)):=(fK.alloc fL _).alloc gb _;have hst:iZ ((w.alloc (d_ (gX s (a_ j s.q.length l)) 75)).alloc (d_ #[b_ c_ 0,b_ c_ 0,b_ c_ 0,b_ c_ 0,b_ c_ 0,a_ none 0 0,b_ c_ 0,fJ false] 75)) (e_ (gX s (a_ j s.q.length l))) s:=⟨_,rfl,i.below M⟩;have H2:=gg h2;have d:=gg g;have K:=gg hst;have B0:=gg M;clear h2 g hst i M;have H1:=gg h1;clear h1;unfold gX at *
  go_in
  go_wp2_with fail
  first|refine(EX _ s _ K.o d.o A).mono ?_|refine(EM _ s _ K.o d.o A).mono ?_|refine(EY _ s _ K.o d.o A).mono ?_
  rintro e w1 ⟨b,rfl,P,m⟩;have t:=gg P;have B1:=gg m;clear P m;have W:Up w w1:=B0.o.trans (B1.o.mono (by simp;omega));have H:=gg W;clear W;have O:w1.cell? ⟨f,0,none⟩=some (b_ c_ a):=by rw[H.o.cell (p:=⟨f,0,none⟩) hp];exact H1.o
  have L:=gg O;clear O;have n:=gg (iE H.o aj H2.o)
  go_wp2_with fail
  first|refine(MP _ b f c s a _ _ _ t.o d.o I L.o n.o (by simp;omega)).mono ?_|refine(Lo _ b f c s a _ _ _ t.o d.o I L.o n.o (by simp;omega)).mono ?_|refine(MQ _ b f c s a _ _ _ t.o d.o I L.o n.o (by simp;omega)).mono ?_
  rintro e w2 ⟨rfl,af,y,aa,r⟩;have Q:((w.alloc (d_ #[b_ c_ s.k,b_ c_ s.r0,b_ c_ s.r1,b_ c_ s.r2,b_ c_ s.r3,a_ j s.q.length l,b_ c_ s.sent,fJ s.ra] 75)).alloc (d_ #[b_ c_ 0,b_ c_ 0,b_ c_ 0,b_ c_ 0,b_ c_ 0,a_ none 0 0,b_ c_ 0,fJ false] 75)).heap.size≤b:=by obtain⟨_,_,h,_⟩:=t.o;exact h
  have V:=iE r (by simp;omega) n.o;have D:=jb V 0 (b_ c_ (kV s a));have G:=iM.set (o:=0) (u:=b_ c_ (kV s a)) aa (by simp;omega:c<_) Q;rw[←y] at G D
  have N:w.grownBy w2 (some c):=by
   rw[y];exact J9 (BA (Kl H.o) (by simp;omega) r)
  have Z:∀ o,af.heap[w.heap.size+1]? = o→w2.heap[w.heap.size+1]? = o:=fun o h=>by rw[y];exact jL f_ h
  have ab:=gg D;have HG:=gg N;have ak:=gg Z;have al:=gg r;clear y aa V D N Z r Q;have C:=gg G;clear G
  go_wp2_with fail
  first|refine(FK _ b _ _ C.o (GB s a d.o)).mono ?_|refine(FA _ b _ _ C.o (GB s a d.o)).mono ?_|refine(FL _ b _ _ C.o (GB s a d.o)).mono ?_
  rintro e F ⟨J,rfl,x,m⟩;have Y:=gg x;have z:=gg m;clear m;obtain⟨qv,x,i,hf⟩:=x;obtain⟨X,S,rfl⟩:=i.shape;clear i hf
  have E:F.heap[w.heap.size+1]? = some (d_ #[b_ c_ 0,b_ c_ 0,b_ c_ 0,b_ c_ 0,b_ c_ 0,a_ none 0 0,b_ c_ 0,fJ false] 75):=by
   have h0:((w.alloc (d_ #[b_ c_ s.k,b_ c_ s.r0,b_ c_ s.r1,b_ c_ s.r2,b_ c_ s.r3,a_ j s.q.length l,b_ c_ s.sent,fJ s.ra] 75)).alloc (d_ #[b_ c_ 0,b_ c_ 0,b_ c_ 0,b_ c_ 0,b_ c_ 0,a_ none 0 0,b_ c_ 0,fJ false] 75)).heap[w.heap.size+1]? = some (d_ #[b_ c_ 0,b_ c_ 0,b_ c_ 0,b_ c_ 0,b_ c_ 0,a_ none 0 0,b_ c_ 0,fJ false] 75):=by
    have:=gH (w.alloc (d_ #[b_ c_ s.k,b_ c_ s.r0,b_ c_ s.r1,b_ c_ s.r2,b_ c_ s.r3,a_ j s.q.length l,b_ c_ s.sent,fJ s.ra] 75)) (d_ #[b_ c_ 0,b_ c_ 0,b_ c_ 0,b_ c_ 0,b_ c_ 0,a_ none 0 0,b_ c_ 0,fJ false] 75)
    simpa using this
   have h1:=iE B1.o gb h0;have h2:=ak.o _ (iE al.o gb h1);exact iE z.o (gn h2) h2
  have am:=gn E;obtain⟨u0,u1,u2,u3,u4,u5,u6,u7,t0,t1,t2,t3,t4,t5,t6,t7⟩:=jz E;clear E;subst x;have ad:w.heap.size+1<w.heap.size+1+1:=by omega
  have ae:w.heap.size≤w.heap.size+1:=by omega
  have U:gQ (w.heap.size+1+1) F (e_ (gX (ja (ls s a)) (a_ X (ja (ls s a)).q.length S))) (ja (ls s a)):=by simpa using Y.o
  have ac:w.grownBy F (some c):=BA HG.o HG.o.size z.o;have R:=iE z.o (gn ab.o) ab.o;have ai:c≠w.heap.size+1:=by omega
  have ah:=gg R;clear R;have ag:=gg U;have B4:=gg ac;clear Y U ac;unfold gX
  go_wp2_with fail
  refine bodyPost_ret (v:=e_ (gX (ja (ls s a)) (a_ X (ja (ls s a)).q.length S))) (by simp[results,Tryz.results125,go_sem,gX,u0,u1,u2,u3,u4,u5,u6,u7]) rfl ⟨_,rfl,gQ.mono (B:=w.heap.size+1+1) f_ ?_,?_⟩
  · iterate 8 apply yP ad
    exact ag.o
  · refine⟨?_,?_⟩
    · iterate 8 apply J_ ae
      exact B4.o
    · iterate 8 apply jL ai
      exact ah.o
end
section
open Go.RowKit
theorem Fv v s a n w (h:iZ w v s) (o:s.k=1∨s.k=2∨s.k=3) (y:s.q.length≤1000) (A:0≤a∧a<4) (D:0≤s.sent∧s.sent≤2147483647) :
 Calls gd 165 #[v,b_ c_ a,b_ c_ n] w fun e w'=>∃ d,e =fH d∧gQ w.heap.size w' d (ja (kX s a (wrap32 n)))∧Up w w':=by
 obtain⟨I,rfl,b⟩:=h;obtain⟨g,f,rfl⟩:=b.shape
 have j:Up w ((((w.alloc (d_ (gX s (a_ g s.q.length f)) 75)).alloc (d_ #[b_ c_ a] 3)).alloc (d_ #[b_ c_ n] 3)).alloc (d_ #[b_ c_ 0,b_ c_ 0,b_ c_ 0,b_ c_ 0,b_ c_ 0,a_ none 0 0,b_ c_ 0,fJ false] 75)):=by
  refine Below.alloc ?_ (by simp;omega) _;refine Below.alloc ?_ (by simp;omega) _;refine Below.alloc ?_ gb _;exact fK.alloc fL _
 have hst:iZ ((((w.alloc (d_ (gX s (a_ g s.q.length f)) 75)).alloc (d_ #[b_ c_ a] 3)).alloc (d_ #[b_ c_ n] 3)).alloc (d_ #[b_ c_ 0,b_ c_ 0,b_ c_ 0,b_ c_ 0,b_ c_ 0,a_ none 0 0,b_ c_ 0,fJ false] 75)) (e_ (gX s (a_ g s.q.length f))) s:=⟨_,rfl,b.below j⟩;have C:=gg o;have E:=gg hst;have F:=gg j;clear o hst b j;unfold gX at *
 go_in
 go_wp2_with fail
 refine(J8 _ _ _ s a n _ E.o C.o y A D (by go_simp) gb (by go_simp) gb).mono ?_
 rintro e w1 ⟨d,rfl,c,p⟩;have m:=gg c;have r:=gg p
 skip
 clear p;obtain⟨I,c,b,N⟩:=c;obtain⟨l,u,rfl⟩:=b.shape;clear b;have i:w1.heap[w.heap.size+1+1+1]? = some (d_ #[b_ c_ 0,b_ c_ 0,b_ c_ 0,b_ c_ 0,b_ c_ 0,a_ none 0 0,b_ c_ 0,fJ false] 75):=iE r.o gb (sG _ _ _ gb);have S:=gn i;obtain⟨u0,u1,u2,u3,u4,u5,u6,u7,R,K,L,M,P,Q,T,O⟩:=jz i;clear i;subst c;have H:w.heap.size≤w.heap.size+1+1+1:=by omega
 have z:w.heap.size+1+1+1<w.heap.size+1+1+1+1:=by omega
 have x:gQ (w.heap.size+1+1+1+1) w1 (e_ (gX (ja (kX s a (wrap32 n))) (a_ l (ja (kX s a (wrap32 n))).q.length u))) (ja (kX s a (wrap32 n))):=by simpa using m.o
 have t:Up w w1:=F.o.trans (r.o.mono (by simp;omega));have J:=gg x;have G:=gg t;clear m x t;unfold gX
 go_wp2_with fail
 refine bodyPost_ret (v:=e_ (gX (ja (kX s a (wrap32 n))) (a_ l (ja (kX s a (wrap32 n))).q.length u))) (by simp[results,Tryz.results165,go_sem,gX,u0,u1,u2,u3,u4,u5,u6,u7]) rfl ⟨_,rfl,gQ.mono (B:=w.heap.size+1+1+1+1) f_ ?_,?_⟩
 · iterate 8 apply yP z
   exact J.o
 · iterate 8 apply lD H
   exact G.o
theorem Fw v s n w (h:iZ w v s) (m:s.k=1∨s.k=2∨s.k=3) (x:s.q.length≤1000)  (A:-2147483648≤s.r0∧s.r0≤2147483647) :
 Calls gd 80 #[v,b_ c_ n] w fun e w'=>∃ c,e =fH c∧gQ w.heap.size w' c (ja (kL s (wrap32 n)))∧Up w w':=by
 obtain⟨G,rfl,a⟩:=h;obtain⟨f,d,rfl⟩:=a.shape
 have i:Up w (((w.alloc (d_ (gX s (a_ f s.q.length d)) 75)).alloc (d_ #[b_ c_ n] 3)).alloc (d_ #[b_ c_ 0,b_ c_ 0,b_ c_ 0,b_ c_ 0,b_ c_ 0,a_ none 0 0,b_ c_ 0,fJ false] 75)):=by
  refine Below.alloc ?_ (by simp;omega) _;refine Below.alloc ?_ gb _;exact fK.alloc fL _
 have hst:iZ (((w.alloc (d_ (gX s (a_ f s.q.length d)) 75)).alloc (d_ #[b_ c_ n] 3)).alloc (d_ #[b_ c_ 0,b_ c_ 0,b_ c_ 0,b_ c_ 0,b_ c_ 0,a_ none 0 0,b_ c_ 0,fJ false] 75)) (e_ (gX s (a_ f s.q.length d))) s:=⟨_,rfl,a.below i⟩;have z:=gg m;have C:=gg hst;have D:=gg i;clear m hst a i;unfold gX at *
 go_in
 go_wp2_with fail
 refine(KD _ _ s n _ C.o z.o x A (by go_simp) gb).mono ?_
 rintro e w1 ⟨c,rfl,b,o⟩;have l:=gg b;have p:=gg o
 skip
 clear o;obtain⟨G,b,a,L⟩:=b;obtain⟨j,t,rfl⟩:=a.shape;clear a;have g:w1.heap[w.heap.size+1+1]? = some (d_ #[b_ c_ 0,b_ c_ 0,b_ c_ 0,b_ c_ 0,b_ c_ 0,a_ none 0 0,b_ c_ 0,fJ false] 75):=iE p.o gb (sG _ _ _ gb);have Q:=gn g;obtain⟨u0,u1,u2,u3,u4,u5,u6,u7,P,I,J,K,N,O,R,M⟩:=jz g;clear g;subst b;have F:w.heap.size≤w.heap.size+1+1:=by omega
 have y:w.heap.size+1+1<w.heap.size+1+1+1:=by omega
 have u:gQ (w.heap.size+1+1+1) w1 (e_ (gX (ja (kL s (wrap32 n))) (a_ j (ja (kL s (wrap32 n))).q.length t))) (ja (kL s (wrap32 n))):=by simpa using l.o
 have r:Up w w1:=D.o.trans (p.o.mono (by simp;omega));have H:=gg u;have E:=gg r;clear l u r;unfold gX
 go_wp2_with fail
 refine bodyPost_ret (v:=e_ (gX (ja (kL s (wrap32 n))) (a_ j (ja (kL s (wrap32 n))).q.length t))) (by simp[results,Tryz.results80,go_sem,gX,u0,u1,u2,u3,u4,u5,u6,u7]) rfl ⟨_,rfl,gQ.mono (B:=w.heap.size+1+1+1) f_ ?_,?_⟩
 · iterate 8 apply yP y
   exact H.o
 · iterate 8 apply lD F
   exact E.o
theorem FE v s a w (h:iZ w v s) (f:s.k=1∨s.k=2∨s.k=3) (D:s.q.length≤1000) (F:0≤a∧a<4)  :
 Calls gd 166 #[v,b_ c_ a] w fun e w'=>∃ i,e =fH (fI #[b_ c_ (kV s a),i])∧gQ w.heap.size w' i (ja (ls s a))∧Up w w':=by
 obtain⟨K,rfl,c⟩:=h;obtain⟨m,l,rfl⟩:=c.shape
 have o:Up w ((((w.alloc (d_ (gX s (a_ m s.q.length l)) 75)).alloc (d_ #[b_ c_ a] 3)).alloc (d_ #[b_ c_ 0] 3)).alloc (d_ #[b_ c_ 0,b_ c_ 0,b_ c_ 0,b_ c_ 0,b_ c_ 0,a_ none 0 0,b_ c_ 0,fJ false] 75)):=by
  refine Below.alloc ?_ (by simp;omega) _;refine Below.alloc ?_ (by simp;omega) _;refine Below.alloc ?_ gb _;exact fK.alloc fL _
 have hst:iZ ((((w.alloc (d_ (gX s (a_ m s.q.length l)) 75)).alloc (d_ #[b_ c_ a] 3)).alloc (d_ #[b_ c_ 0] 3)).alloc (d_ #[b_ c_ 0,b_ c_ 0,b_ c_ 0,b_ c_ 0,b_ c_ 0,a_ none 0 0,b_ c_ 0,fJ false] 75)) (e_ (gX s (a_ m s.q.length l))) s:=⟨_,rfl,c.below o⟩;have G:=gg f;have H:=gg hst;have d:=gg o;clear f hst c o;unfold gX at *
 go_in
 go_wp2_with fail
 refine(KC _ _ _ s a (b_ c_ 0) 3 _ H.o G.o D F (by go_simp) gb (by exact iE (B:=w.heap.size+1+1+1) ((fK.alloc gb _)) f_ (sG _ _ _ gb)) gb).mono ?_
 rintro e w1 ⟨i,rfl,g,u,z⟩;have r:=gg g;have b:=gg u;have x:=gg z;clear z;clear u;obtain⟨K,g,c,P⟩:=g;obtain⟨p,A,rfl⟩:=c.shape;clear c;have n:w1.heap[w.heap.size+1+1+1]? = some (d_ #[b_ c_ 0,b_ c_ 0,b_ c_ 0,b_ c_ 0,b_ c_ 0,a_ none 0 0,b_ c_ 0,fJ false] 75):=(b.o.block _ gb gb).trans (sG _ _ _ gb);have V:=gn n;obtain⟨u0,u1,u2,u3,u4,u5,u6,u7,U,M,N,O,R,S,W,Q⟩:=jz n;clear n;subst g;have J:w.heap.size≤w.heap.size+1+1+1:=by omega
 have E:w.heap.size+1+1+1<w.heap.size+1+1+1+1:=by omega
 have C:gQ (w.heap.size+1+1+1+1) w1 (e_ (gX (ja (ls s a)) (a_ p (ja (ls s a)).q.length A))) (ja (ls s a)):=by simpa using r.o
 have y:Up w w1:=⟨b.o.os.trans d.o.os,b.o.tape.trans d.o.tape,b.o.output.trans d.o.output,fO d.o.size b.o.size,fun k f=>(b.o.block k (by simp;omega) (by simp;omega)).trans (d.o.block k f)⟩;have t:=gv (j:=0) x.o rfl;simp only[List.getElem_toArray,List.getElem_cons_zero] at t;have T:=gn x.o;have L:=gg C;have I:=gg y;clear r C y;unfold gX
 go_wp2_with fail
 refine bodyPost_ret (v:=fI #[b_ c_ (kV s a),e_ (gX (ja (ls s a)) (a_ p (ja (ls s a)).q.length A))]) (by simp[results,Tryz.results166,go_sem,gX,u0,u1,u2,u3,u4,u5,u6,u7,t]) rfl ⟨_,rfl,gQ.mono (B:=w.heap.size+1+1+1+1) f_ ?_,?_⟩
 · iterate 8 apply yP E
   exact L.o
 · iterate 8 apply lD J
   exact I.o
def ix (k:Int):St:=⟨k,0,0,0,0,[],0,false⟩
theorem wV (w) :
 Calls gd 27 #[b_ c_ 1] w fun e w'=>∃ f,e =fH f∧gQ w.heap.size w' f (ix 1)∧Up w w':=by
 go_in
 go_wp2_with fail
 refine(EX _ (ix 1) _ ⟨_,rfl,gl.nil _ _⟩ rfl fZ).mono ?_
 rintro e w1 ⟨b,rfl,_,d⟩;have h0:=iE (b:=w.heap.size) d (by simp;omega) (iE (B:=w.heap.size+1) (fK.alloc gb _) f_ (sG _ _ _ rfl));have h1:=iE (b:=w.heap.size+1) d gb (sG _ _ _ gb);have E:=gn h0;have A:=gn h1;obtain⟨u0,u1,u2,u3,u4,u5,u6,u7,y,m,o,q,u,x,G,t⟩:=jz h0;obtain⟨z,C,D,r,s,l,p,F,_⟩:=jz h1;have g:=gg d;clear h0 h1 d
 go_wp2_with fail
 have j:gQ (w.heap.size+1) w1 (e_ (gX (ix 1) (a_ none 0 0))) (ix 1):=⟨_,rfl,gl.nil _ _,fun a n c h=>by cases h⟩;have bel:Up w w1:=((fK.alloc fL _).alloc gb _).trans (g.o.mono (by simp;omega));have i:w.heap.size<w.heap.size+1:=by omega
 have k:=Nat.le_refl w.heap.size;refine bodyPost_ret (v:=e_ (gX (ix 1) (a_ none 0 0))) (by simp[results,Tryz.results27,go_sem,gX,ix,u0,u1,u2,u3,u4,u5,u6,u7]) rfl ⟨_,rfl,gQ.mono (B:=w.heap.size+1) f_ ?_,?_⟩
 · iterate 8 apply yP i
   exact j
 · iterate 8 apply lD k
   exact bel
theorem Mx (w) :
 Calls gd 27 #[b_ c_ 2] w fun e w'=>∃ f,e =fH f∧gQ w.heap.size w' f (ix 2)∧Up w w':=by
 go_in
 go_wp2_with fail
 refine(EM _ (ix 2) _ ⟨_,rfl,gl.nil _ _⟩ rfl fZ).mono ?_
 rintro e w1 ⟨b,rfl,_,d⟩;have h0:=iE (b:=w.heap.size) d (by simp;omega) (iE (B:=w.heap.size+1) (fK.alloc gb _) f_ (sG _ _ _ rfl));have h1:=iE (b:=w.heap.size+1) d gb (sG _ _ _ gb);have E:=gn h0;have A:=gn h1;obtain⟨u0,u1,u2,u3,u4,u5,u6,u7,y,m,o,q,u,x,G,t⟩:=jz h0;obtain⟨z,C,D,r,s,l,p,F,_⟩:=jz h1;have g:=gg d;clear h0 h1 d
 go_wp2_with fail
 have j:gQ (w.heap.size+1) w1 (e_ (gX (ix 2) (a_ none 0 0))) (ix 2):=⟨_,rfl,gl.nil _ _,fun a n c h=>by cases h⟩;have bel:Up w w1:=((fK.alloc fL _).alloc gb _).trans (g.o.mono (by simp;omega));have i:w.heap.size<w.heap.size+1:=by omega
 have k:=Nat.le_refl w.heap.size;refine bodyPost_ret (v:=e_ (gX (ix 2) (a_ none 0 0))) (by simp[results,Tryz.results27,go_sem,gX,ix,u0,u1,u2,u3,u4,u5,u6,u7]) rfl ⟨_,rfl,gQ.mono (B:=w.heap.size+1) f_ ?_,?_⟩
 · iterate 8 apply yP i
   exact j
 · iterate 8 apply lD k
   exact bel
theorem wU (w) :
 Calls gd 27 #[b_ c_ 3] w fun e w'=>∃ f,e =fH f∧gQ w.heap.size w' f (ix 3)∧Up w w':=by
 go_in
 go_wp2_with fail
 refine(EY _ (ix 3) _ ⟨_,rfl,gl.nil _ _⟩ rfl fZ).mono ?_
 rintro e w1 ⟨b,rfl,_,d⟩;have h0:=iE (b:=w.heap.size) d (by simp;omega) (iE (B:=w.heap.size+1) (fK.alloc gb _) f_ (sG _ _ _ rfl));have h1:=iE (b:=w.heap.size+1) d gb (sG _ _ _ gb);have E:=gn h0;have A:=gn h1;obtain⟨u0,u1,u2,u3,u4,u5,u6,u7,y,m,o,q,u,x,G,t⟩:=jz h0;obtain⟨z,C,D,r,s,l,p,F,_⟩:=jz h1;have g:=gg d;clear h0 h1 d
 go_wp2_with fail
 have j:gQ (w.heap.size+1) w1 (e_ (gX (ix 3) (a_ none 0 0))) (ix 3):=⟨_,rfl,gl.nil _ _,fun a n c h=>by cases h⟩;have bel:Up w w1:=((fK.alloc fL _).alloc gb _).trans (g.o.mono (by simp;omega));have i:w.heap.size<w.heap.size+1:=by omega
 have k:=Nat.le_refl w.heap.size;refine bodyPost_ret (v:=e_ (gX (ix 3) (a_ none 0 0))) (by simp[results,Tryz.results27,go_sem,gX,ix,u0,u1,u2,u3,u4,u5,u6,u7]) rfl ⟨_,rfl,gQ.mono (B:=w.heap.size+1) f_ ?_,?_⟩
 · iterate 8 apply yP i
   exact j
 · iterate 8 apply lD k
   exact bel
theorem IN k w (b:1≤k∧k≤3) :
 Calls gd 27 #[b_ c_ k] w fun e w'=>∃ a,e =fH a∧gQ w.heap.size w' a (ix k)∧Up w w':=by
 have:k=1∨k=2∨k=3:=by omega
 rcases this with rfl|rfl|rfl
 · exact wV w
 · exact Mx w
 · exact wU w
theorem gl.cells {w k n v xs} (h:gl w k n v xs) (g:0<n) :
 ∃ b o c,v =a_ (some ⟨b,o,none⟩) n c∧n≤c∧c≤maxLen ∧ ∀ j u,xs[j]? = some u→w.cell? ⟨b,o+j,none⟩=some u:=by
 rcases h.2.2 with⟨_,h0⟩|⟨b,o,c,a,_,f,e,d⟩
 · omega
 · exact⟨b,o,c,a,f,e,d⟩
theorem LC v t (xs d:List Int) (w) (h:gl w 1 xs.length v (xs.map (b_ c_))) (n:gl w 1 d.length t (d.map (b_ c_))) :
 Calls gd 52 #[v,t] w fun e w'=>e =fH (fJ (decide (xs=d)))∧Up w w':=by
 obtain⟨a,c,rfl⟩:=h.shape;obtain⟨a',R,rfl⟩:=n.shape;have D:=gg h;have P:=gg n;clear h n;by_cases hl:xs.length=d.length
 · have J:(((xs.length:Nat):Int) != ((d.length:Nat):Int))=false:=by simp[hl]
   by_cases h0:xs.length=0
   · have K:xs=[]:=fT h0
     have I:d=[]:=fT f_;subst K I;simp only[List.length_nil] at *
     go_in
     go_wp2_with fail
     refine wp_loop_rounds 1 ?_
     rw[rounds_succ]
     go_wp2
     go_ret;exact⟨gt (iO gb),fK⟩
   · obtain⟨b,o,V,L,Y,M,s⟩:=D.o.cells f_
     obtain⟨Q,G,U,O,W,C,x⟩:=P.o.cells f_;injection L with j _ e2;injection O with e3 _ e4
     subst j e2 e3 e4;have z:=gg hl;have H:=gg s;have B:=gg x;clear s x hl;unfold maxLen at M C;go_in
     go_wp2_with fail
     go_loopw [13] (fun i wr=>∃ k:Nat,k≤xs.length∧i =b_ c_ k∧xs.take k=d.take k∧Up w wr∧(∀ a,wr.cell? a=w.cell? a)) (fun i _=>xs.length - (intOf i).toNat)
     case atStart=>exact⟨0,fM,rfl,rfl,fK,fun _=>rfl⟩
     case round=>
      obtain⟨k,T,rfl,ht,u,A⟩:=hrel;have y:=gg ht;have l:=gg u;have m:=gg A;clear ht u A;by_cases q:k<xs.length
      · have r:k<d.length:=by rw[←z.o];exact q
        have S:wr.cell? ⟨b,o+k,none⟩=some (b_ c_ (xs[k])):=by rw[m.o];exact H.o k _ (by simp[q])
        have X:wr.cell? ⟨Q,G+k,none⟩=some (b_ c_ (d[k])):=by rw[m.o];exact B.o k _ (by simp[r])
        by_cases g:xs[k]=d[k]
        · have E:(xs[k] != d[k])=false:=by simp[g]
          have N:=gg g;clear g
          go_wp2_with fail
          go_quiet (fail)
          go_wp2_with fail
          refine⟨⟨k+1,by omega,by go_num,?_,lJ l.o _,m.o⟩,by simp[intOf];omega⟩;rw[fP q,fP r,y.o,N.o]
        · have E:(xs[k] != d[k])=true:=by simp[g]
          have f:decide (xs=d)=false:=decide_eq_false (fun e=>g (by subst e;rfl));have p:=gg f;clear g f
          go_wp2_with fail
          go_quiet (fail)
          go_wp2
          go_ret;exact⟨gt (iO p.o.symm),lJ l.o _⟩
      · have f:decide (xs=d)=true:=decide_eq_true (by
         have j:=y.o;have F:k=xs.length:=by omega
         rw[F,List.take_length,z.o,List.take_length] at j;exact j)
        have p:=gg f;clear f
        go_wp2
        go_ret;exact⟨gt (iO p.o.symm),l.o⟩
 · have J:(((xs.length:Nat):Int) != ((d.length:Nat):Int))=true:=by simp;omega
   have f:decide (xs=d)=false:=decide_eq_false (fun e=>hl (by rw[e]));rw[f];clear hl f;go_in
   go_wp2
   go_ret;exact⟨gt (iO rfl),fK⟩
theorem Ec a b c d (w):(part 3 #[b_ c_ a,b_ c_ b,b_ c_ c,b_ c_ d] 0).run gd w = .ok (b_ c_ a) w:=by kernel_rfl
theorem EW a b c d (w):(part 3 #[b_ c_ a,b_ c_ b,b_ c_ c,b_ c_ d] 1).run gd w = .ok (b_ c_ b) w:=by kernel_rfl
theorem EV a b c d (w):(part 3 #[b_ c_ a,b_ c_ b,b_ c_ c,b_ c_ d] 2).run gd w = .ok (b_ c_ c) w:=by kernel_rfl
theorem EU a b c d (w):(part 3 #[b_ c_ a,b_ c_ b,b_ c_ c,b_ c_ d] 3).run gd w = .ok (b_ c_ d) w:=by kernel_rfl
theorem Ca d a b (w):(Op.equalIn (d+1) 3 (b_ c_ a) (b_ c_ b)).run gd w = .ok (a == b) w:=run_equalIn_int w d 3 .i64 .i64 a b Tryz.underlying3
theorem zd w (a0 a1 a2 a3 f c d g):(Op.equalIn 10000 73 (e_ #[b_ c_ a0,b_ c_ a1,b_ c_ a2,b_ c_ a3]) (e_ #[b_ c_ f,b_ c_ c,b_ c_ d,b_ c_ g])).run gd w = .ok (decide (a0=f∧a1=c∧a2=d∧a3=g)) w:=by
 have e:=fun a b w=>Ca 9998 a b w
 rw[show (10000:Nat)=9999+1 from rfl,Op.equalIn];by_cases h0:a0=f
 · by_cases h1:a1=c
   · by_cases h2:a2=d
     · by_cases h3:a3=g
       · simp[run_underlying Tryz.underlying73,Std.Legacy.Range.forIn_eq_forIn_range',Std.Legacy.Range.size,List.range',Ec,EW,EV,EU,e,h0,h1,h2,h3]
       · simp[run_underlying Tryz.underlying73,Std.Legacy.Range.forIn_eq_forIn_range',Std.Legacy.Range.size,List.range',Ec,EW,EV,EU,e,h0,h1,h2,h3]
     · simp[run_underlying Tryz.underlying73,Std.Legacy.Range.forIn_eq_forIn_range',Std.Legacy.Range.size,List.range',Ec,EW,EV,EU,e,h0,h1,h2]
   · simp[run_underlying Tryz.underlying73,Std.Legacy.Range.forIn_eq_forIn_range',Std.Legacy.Range.size,List.range',Ec,EW,EV,EU,e,h0,h1]
 · simp[run_underlying Tryz.underlying73,Std.Legacy.Range.forIn_eq_forIn_range',Std.Legacy.Range.size,List.range',Ec,e,h0]
def Fa (s t:St):Bool:=decide (s.r0=t.r0∧s.r1=t.r1∧s.r2=t.r2∧s.r3=t.r3)
def oD (s t:St):Bool:=(s.k == t.k) && (Fa s t && ((s.sent == t.sent) && ((s.ra == t.ra) && decide (s.q=t.q))))
theorem sO w (s t):(Op.equalIn 10000 73 (e_ #[b_ c_ s.r0,b_ c_ s.r1,b_ c_ s.r2,b_ c_ s.r3]) (e_ #[b_ c_ t.r0,b_ c_ t.r1,b_ c_ t.r2,b_ c_ t.r3])).run gd w = .ok (Fa s t) w:=zd _ _ _ _ _ _ _ _ _
theorem xY v j s t w (h:iZ w v s) (p:iZ w j t) :
 Calls gd 56 #[v,j] w fun e w'=>e =fH (fJ (oD s t))∧Up w w':=by
 obtain⟨A,rfl,g⟩:=h;obtain⟨m,y,rfl⟩:=g.shape;obtain⟨B,rfl,d⟩:=p;obtain⟨n,x,rfl⟩:=d.shape;have bel:Up w ((w.alloc (d_ (gX s (a_ m s.q.length y)) 75)).alloc (d_ (gX t (a_ n t.q.length x)) 75)):=(fK.alloc fL _).alloc gb _;have u:=gg (g.below bel);have r:=gg (d.below bel);have a:=gg bel;clear g d bel;have z:=fun w=>sO w s t
 unfold gX at *
 cases b:(s.k == t.k)
 case false=>
  have e:oD s t=false:=by simp only[oD,b,Bool.false_and]
  rw[e];clear e;go_in
  go_wp2
  go_ret;exact⟨gt (iO rfl),a.o⟩
 case true=>
 cases c:Fa s t
 case false=>
  have e:oD s t=false:=by simp only[oD,b,c,Bool.false_and,Bool.and_false]
  rw[e];clear e;go_in
  go_wp2
  go_ret;exact⟨gt (iO rfl),a.o⟩
 case true=>
 cases f:(s.sent == t.sent)
 case false=>
  have e:oD s t=false:=by simp only[oD,b,c,f,Bool.false_and,Bool.and_false]
  rw[e];clear e;go_in
  go_wp2
  go_ret;exact⟨gt (iO rfl),a.o⟩
 case true=>
 cases i:(s.ra == t.ra)
 case false=>
  have e:oD s t=false:=by simp only[oD,b,c,f,i,Bool.false_and,Bool.and_false]
  rw[e];clear e;go_in
  go_wp2
  go_ret;exact⟨gt (iO rfl),a.o⟩
 case true=>
  have e:oD s t=decide (s.q=t.q):=by simp only[oD,b,c,f,i,Bool.true_and]
  rw[e];clear e;go_in
  go_wp2_with fail
  refine(LC _ _ s.q t.q _ u.o r.o).mono ?_
  rintro e w1 ⟨rfl,l⟩;have o:=gg l;clear l
  go_wp2
  go_ret;exact⟨gt (iO rfl),a.o.trans (o.o.mono (by simp;omega))⟩
structure pQ (s:St):Prop where
 k:1≤s.k∧s.k≤3
 q:s.q.length≤16
 sent:0≤s.sent∧s.sent≤2147483647
 r0:-2147483648≤s.r0∧s.r0≤2147483647
 rs:iF s.r1∧iF s.r2∧iF s.r3
 qs:∀ x∈s.q,iF x
theorem pT (x):bits .and .i64 x 2147483647=x % 2147483648:=by
 have e:bits .and .i64 x 2147483647=(BitVec.ofInt 64 x &&& BitVec.ofInt 64 2147483647).toInt:=Bw _;rw[e,BitVec.toInt_eq_toNat_bmod,BitVec.toNat_and,BitVec.toNat_ofInt,BitVec.toNat_ofInt];rw[show ((2147483647:Int) % (2 ^ 64:Nat)).toNat=2147483647 from rfl,Nat.and_two_pow_sub_one_eq_mod _ 31];unfold Int.bmod;simp only[Nat.reducePow];omega
theorem zP k (h:1≤k∧k≤3):pQ (ix k):=⟨h,by simp[ix],by simp[ix],by simp[ix],by simp only[ix];decide,by simp[ix]⟩
theorem FX {s} (h:pQ s):pQ (ja s):=⟨h.k,h.q,h.sent,h.r0,h.rs,h.qs⟩
theorem wm {s} (h:pQ s) (c):pQ (ls s c):=by
 obtain⟨b,d,a,h0,e,f⟩:=h;unfold ls;split
 · exact⟨b,by simp;omega,a,h0,e,fun x k=>f x (List.mem_of_mem_tail k)⟩
 · exact⟨b,d,a,h0,e,f⟩
theorem Mq {s} (h:pQ s) e n (d:-2147483648≤n∧n≤2147483647):pQ (kX s e n):=by
 obtain⟨b,a,c,h0,⟨h1,h2,h3⟩,f⟩:=h;unfold kX;repeat' split
 all_goals first|exact⟨b,a,c,h0,⟨h1,h2,h3⟩,f⟩|exact⟨b,a,c,d,⟨h1,h2,h3⟩,f⟩|exact⟨b,a,c,h0,⟨d,h2,h3⟩,f⟩|exact⟨b,a,c,h0,⟨h1,d,h3⟩,f⟩|exact⟨b,a,c,h0,⟨h1,h2,nH h3 d⟩,f⟩|exact⟨b,a,by simp only[pT];omega,h0,⟨h1,h2,h3⟩,f⟩
theorem Mr {s} (h:pQ s) n (d:iF n):pQ (kL s n):=by
 obtain⟨b,c,a,h0,⟨h1,h2,h3⟩,f⟩:=h;unfold kL;repeat' split
 all_goals first|exact⟨b,c,a,h0,⟨h1,h2,h3⟩,f⟩|exact⟨b,c,a,oi _,⟨h1,h2,h3⟩,f⟩|exact⟨b,by simp;omega,a,h0,⟨h1,h2,h3⟩,fun x k=>(List.mem_append.1 k).elim (f x) fun e=>(by rw[List.mem_singleton.1 e];exact mu d fZ)⟩|exact⟨b,c,a,h0,⟨d,h2,ti h3 (mu (AO d h1) h2)⟩,f⟩
theorem uv {s} (h:pQ s) (r):iF (kV s r):=by
 obtain⟨b,c,a,h0,⟨h1,h2,h3⟩,f⟩:=h
 have g:iF (s.q.headD (-1)):=by
  cases e:s.q with
  |nil=>decide
  |cons x l=>exact f x (by rw[e];exact .head _)
 have i:∀ b,iF (lz b):=fun b=>by cases b <;> decide
 have j:iF s.sent:=by constructor <;> omega
 unfold kV;repeat' first|with_reducible refine pf ?_ ?_|exact g|exact i _|exact j|exact h0|exact h1|exact h2|exact h3|decide
/-! The calls at any device that may be. -/
theorem k3 {k:Int} (h:1≤k∧k≤3):k=1∨k=2∨k=3:=by omega
theorem LQ v s a n w (h:iZ w v s) (b:pQ s) (d:0≤a∧a<4) :
 Calls gd 165 #[v,b_ c_ a,b_ c_ n] w fun e w'=>∃ f,e =fH f∧gQ w.heap.size w' f (ja (kX s a (wrap32 n)))∧Up w w':=by
 have g:=b.q;rcases k3 b.k with c|c|c
 · exact Fv v s a n w h (.inl c) f_ d b.sent
 · exact Fv v s a n w h (.inr (.inl c)) f_ d b.sent
 · exact Fv v s a n w h (.inr (.inr c)) f_ d b.sent
theorem Mt v s n w (h:iZ w v s) (a:pQ s) :
 Calls gd 80 #[v,b_ c_ n] w fun e w'=>∃ c,e =fH c∧gQ w.heap.size w' c (ja (kL s (wrap32 n)))∧Up w w':=by
 have d:=a.q;rcases k3 a.k with b|b|b
 · exact Fw v s n w h (.inl b) f_ a.r0
 · exact Fw v s n w h (.inr (.inl b)) f_ a.r0
 · exact Fw v s n w h (.inr (.inr b)) f_ a.r0
theorem xF v s a w (h:iZ w v s) (f:pQ s) (c:0≤a∧a<4) :
 Calls gd 166 #[v,b_ c_ a] w fun e w'=>∃ d,e =fH (fI #[b_ c_ (kV s a),d])∧gQ w.heap.size w' d (ja (ls s a))∧Up w w':=by
 have g:=f.q;rcases k3 f.k with b|b|b
 · exact FE v s a w h (.inl b) f_ c
 · exact FE v s a w h (.inr (.inl b)) f_ c
 · exact FE v s a w h (.inr (.inr b)) f_ c
theorem wZ v s w (h:iZ w v s) (h1:¬ s.k=1) (h2:¬ s.k=2) (h3:¬ s.k=3) (j:s.q.length≤1000) :
 Calls gd 64 #[v] w fun e w'=>e =fH .nilIface∧Up w w':=by
 obtain⟨y,rfl,d⟩:=h;obtain⟨g,f,rfl⟩:=d.shape;have i:gl (w.alloc (d_ (gX s (a_ g s.q.length f)) 75)) 1 s.q.length (a_ g s.q.length f) (qL s):=d.below (fK.alloc fL _);have m:=gg i;clear d i;obtain⟨k,r0,r1,r2,r3,q,sent,ra⟩:=s;simp only at h1 h2 h3 j;unfold gX at *
 go_in
 go_wp2_with fail
 refine(pD _ _ _ _ m.o f_).mono ?_
 rintro e w1 ⟨A,rfl,b,c⟩;obtain⟨a1,c1,rfl⟩:=gN b;have a:=iE c gb (gH w _);have C:=gn a;obtain⟨D,p,u,E,t,B,z,n,f0,f1,f2,f3,f4,r,f6,f7⟩:=jz a;have l:=gg c;have o:=gg b;have x:=gg a;clear c b a
 go_wp2
 go_ret;exact⟨rfl,((fK.alloc fL _).trans (l.o.mono gb)).setCell fL _⟩
theorem My k (h1:¬ k=1) (h2:¬ k=2) (h3:¬ k=3) (w) :
 Calls gd 27 #[b_ c_ k] w fun e w'=>∃ f,e =fH f∧gQ w.heap.size w' f (ix 0)∧Up w w':=by
 go_in
 go_wp2_with fail
 refine(wZ _ (ix k) _ ⟨_,rfl,gl.nil _ _⟩ h1 h2 h3 (by simp[ix])).mono ?_
 rintro e w1 ⟨rfl,d⟩;have h0:=iE (b:=w.heap.size) d (by simp;omega) (iE (B:=w.heap.size+1) (fK.alloc gb _) f_ (sG _ _ _ rfl));have u:=gn h0;obtain⟨u0,u1,u2,u3,u4,u5,u6,u7,t,m,o,p,r,s,x,q⟩:=jz h0;have g:=gg d;clear h0 d
 go_wp2_with fail
 have j:gQ (w.heap.size+1) w1 (e_ (gX (ix 0) (a_ none 0 0))) (ix 0):=⟨_,rfl,gl.nil _ _,fun a n c h=>by cases h⟩;have bel:Up w w1:=((fK.alloc fL _).alloc gb _).trans (g.o.mono (by simp;omega));have i:w.heap.size<w.heap.size+1:=by omega
 have l:=Nat.le_refl w.heap.size;refine bodyPost_ret (v:=e_ (gX (ix 0) (a_ none 0 0))) (by simp[results,Tryz.results27,go_sem,gX,ix,u0,u1,u2,u3,u4,u5,u6,u7]) rfl ⟨_,rfl,gQ.mono (B:=w.heap.size+1) f_ ?_,?_⟩
 · iterate 8 apply yP i
   exact j
 · iterate 8 apply lD l
   exact bel
end
