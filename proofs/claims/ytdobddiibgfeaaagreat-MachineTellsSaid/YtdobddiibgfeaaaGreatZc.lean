/- What the walks of this statement lean on: shown. -/
import Derived.Test.YtdobddiibgfeaaaGreatZa
import Derived.Test.YtdobddiibgfeaaaGreatRows
set_option linter.all false
set_option maxRecDepth 100000
set_option maxHeartbeats 16000000
namespace Go.Proofs.YtdobddiibgfeaaaGreat
open Value renaming slice→a_,int→b_,agg→e_,pointer→fG,tuple→fI,bool→fJ
open IntKind renaming i64→c_
open Obj renaming cells→d_
open Ending renaming returned→fH
open Go.Proofs.Tryz renaming prog→gd
section
open Go.RowKit
structure Rw where
 nm:ByteArray
 form:Int
 low:Int
 mid:Int
 high:Int
def ng:Rw:=⟨⟨#[]⟩,0,0,0,0⟩
def DQ:List Rw:=[⟨⟨#[108,117,105]⟩,85,55,0,0⟩,
 ⟨⟨#[97,117,105,112,99]⟩,85,23,0,0⟩,
 ⟨⟨#[106,97,108]⟩,74,111,0,0⟩,
 ⟨⟨#[106,97,108,114]⟩,73,103,0,0⟩,
 ⟨⟨#[98,101,113]⟩,66,99,0,0⟩,
 ⟨⟨#[98,110,101]⟩,66,99,1,0⟩,
 ⟨⟨#[98,108,116]⟩,66,99,4,0⟩,
 ⟨⟨#[98,103,101]⟩,66,99,5,0⟩,
 ⟨⟨#[98,108,116,117]⟩,66,99,6,0⟩,
 ⟨⟨#[98,103,101,117]⟩,66,99,7,0⟩,
 ⟨⟨#[108,119]⟩,73,3,2,0⟩,
 ⟨⟨#[115,119]⟩,83,35,2,0⟩,
 ⟨⟨#[97,100,100,105]⟩,73,19,0,0⟩,
 ⟨⟨#[115,108,116,105]⟩,73,19,2,0⟩,
 ⟨⟨#[115,108,116,105,117]⟩,73,19,3,0⟩,
 ⟨⟨#[120,111,114,105]⟩,73,19,4,0⟩,
 ⟨⟨#[111,114,105]⟩,73,19,6,0⟩,
 ⟨⟨#[97,110,100,105]⟩,73,19,7,0⟩,
 ⟨⟨#[115,108,108,105]⟩,72,19,1,0⟩,
 ⟨⟨#[115,114,108,105]⟩,72,19,5,0⟩,
 ⟨⟨#[115,114,97,105]⟩,72,19,5,32⟩,
 ⟨⟨#[97,100,100]⟩,82,51,0,0⟩,
 ⟨⟨#[115,117,98]⟩,82,51,0,32⟩,
 ⟨⟨#[115,108,108]⟩,82,51,1,0⟩,
 ⟨⟨#[115,108,116]⟩,82,51,2,0⟩,
 ⟨⟨#[115,108,116,117]⟩,82,51,3,0⟩,
 ⟨⟨#[120,111,114]⟩,82,51,4,0⟩,
 ⟨⟨#[115,114,108]⟩,82,51,5,0⟩,
 ⟨⟨#[115,114,97]⟩,82,51,5,32⟩,
 ⟨⟨#[111,114]⟩,82,51,6,0⟩,
 ⟨⟨#[97,110,100]⟩,82,51,7,0⟩,
 ⟨⟨#[109,117,108]⟩,82,51,0,1⟩,
 ⟨⟨#[109,117,108,104]⟩,82,51,1,1⟩,
 ⟨⟨#[109,117,108,104,117]⟩,82,51,3,1⟩,
 ⟨⟨#[100,105,118]⟩,82,51,4,1⟩,
 ⟨⟨#[100,105,118,117]⟩,82,51,5,1⟩,
 ⟨⟨#[114,101,109]⟩,82,51,6,1⟩,
 ⟨⟨#[114,101,109,117]⟩,82,51,7,1⟩,
 ⟨⟨#[102,101,110,99,101]⟩,70,15,0,0⟩,
 ⟨⟨#[99,115,114,114,119]⟩,67,115,1,0⟩,
 ⟨⟨#[99,115,114,114,115]⟩,67,115,2,0⟩,
 ⟨⟨#[99,115,114,114,99]⟩,67,115,3,0⟩,
 ⟨⟨#[101,99,97,108,108]⟩,90,115,0,0⟩,
 ⟨⟨#[109,114,101,116]⟩,90,115,0,24⟩,
 ⟨⟨#[119,102,105]⟩,90,115,0,8⟩,
 ⟨⟨#[108,114,46,119]⟩,76,47,2,8⟩,
 ⟨⟨#[115,99,46,119]⟩,65,47,2,12⟩,
 ⟨⟨#[97,109,111,115,119,97,112,46,119]⟩,65,47,2,4⟩,
 ⟨⟨#[97,109,111,97,100,100,46,119]⟩,65,47,2,0⟩]
def nc (op:Int):Bool:=decide (1≤op∧op≤49)
def gB (op:Int):Rw:=if 1≤op∧op≤49 then DQ.getD (op - 1).toNat ng else ng
def nv (r:Rw):Value:=e_ #[.string r.nm,.int .i32 r.form,b_ c_ r.low,b_ c_ r.mid,b_ c_ r.high]
theorem ET {op} (h:¬ (1≤op∧op≤49)):gB op=ng:=if_neg h
theorem Ef {op} (h:¬ (1≤op∧op≤49)):nc op=false:=decide_eq_false h
theorem Ga {op} (h:1≤op∧op≤49):nc op=true:=decide_eq_true h
theorem MW op w (h:1≤op∧op≤21) :
 Calls gd 181 #[b_ c_ op] w fun e w'=>e =fH (fI #[nv (gB op),fJ true])∧Up w w':=by
 have a:op=1∨op=2∨op=3∨op=4∨op=5∨op=6∨op=7∨op=8∨op=9∨op=10∨op=11∨op=12∨op=13∨op=14∨op=15∨op=16∨op=17∨op=18∨op=19∨op=20∨op=21:=by omega
 clear h;rcases a with rfl|rfl|rfl|rfl|rfl|rfl|rfl|rfl|rfl|rfl|rfl|rfl|rfl|rfl|rfl|rfl|rfl|rfl|rfl|rfl|rfl
 all_goals
  go_in
  go_wp2_with fail
  refine bodyPost_ret (by simp[results,Tryz.results181,go_sem];try rfl) rfl ?_
  exact⟨by kernel_rfl,zB⟩
theorem vM op w (h:op<1∨21<op) :
 Calls gd 181 #[b_ c_ op] w fun e w'=>e =fH (fI #[nv ng,fJ false])∧Up w w':=by
 have a:(op == 1)=false:=by simp;omega
 have v:(op == 2)=false:=by simp;omega
 have o:(op == 3)=false:=by simp;omega
 have f:(op == 4)=false:=by simp;omega
 have u:(op == 5)=false:=by simp;omega
 have l:(op == 6)=false:=by simp;omega
 have c:(op == 7)=false:=by simp;omega
 have p:(op == 8)=false:=by simp;omega
 have b:(op == 9)=false:=by simp;omega
 have g:(op == 10)=false:=by simp;omega
 have j:(op == 11)=false:=by simp;omega
 have k:(op == 12)=false:=by simp;omega
 have d:(op == 13)=false:=by simp;omega
 have x:(op == 14)=false:=by simp;omega
 have q:(op == 15)=false:=by simp;omega
 have i:(op == 16)=false:=by simp;omega
 have r:(op == 17)=false:=by simp;omega
 have m:(op == 18)=false:=by simp;omega
 have n:(op == 19)=false:=by simp;omega
 have t:(op == 20)=false:=by simp;omega
 have s:(op == 21)=false:=by simp;omega
 clear h;go_in
 go_wp2_with fail
 refine bodyPost_ret (by simp[results,Tryz.results181,go_sem];try rfl) rfl ?_
 exact⟨by kernel_rfl,zB⟩
theorem wD op w (h:22≤op∧op≤49) :
 Calls gd 182 #[b_ c_ op] w fun e w'=>e =fH (fI #[nv (gB op),fJ true])∧Up w w':=by
 have a:op=22∨op=23∨op=24∨op=25∨op=26∨op=27∨op=28∨op=29∨op=30∨op=31∨op=32∨op=33∨op=34∨op=35∨op=36∨op=37∨op=38∨op=39∨op=40∨op=41∨op=42∨op=43∨op=44∨op=45∨op=46∨op=47∨op=48∨op=49:=by omega
 clear h;rcases a with rfl|rfl|rfl|rfl|rfl|rfl|rfl|rfl|rfl|rfl|rfl|rfl|rfl|rfl|rfl|rfl|rfl|rfl|rfl|rfl|rfl|rfl|rfl|rfl|rfl|rfl|rfl|rfl
 all_goals
  go_in
  go_wp2_with fail
  refine bodyPost_ret (by simp[results,Tryz.results182,go_sem];try rfl) rfl ?_
  exact⟨by kernel_rfl,zB⟩
theorem zS op w (h:op<22∨49<op) :
 Calls gd 182 #[b_ c_ op] w fun e w'=>e =fH (fI #[nv ng,fJ false])∧Up w w':=by
 have B:(op == 22)=false:=by simp;omega
 have r:(op == 23)=false:=by simp;omega
 have k:(op == 24)=false:=by simp;omega
 have g:(op == 25)=false:=by simp;omega
 have p:(op == 26)=false:=by simp;omega
 have l:(op == 27)=false:=by simp;omega
 have A:(op == 28)=false:=by simp;omega
 have a:(op == 29)=false:=by simp;omega
 have q:(op == 30)=false:=by simp;omega
 have j:(op == 31)=false:=by simp;omega
 have n:(op == 32)=false:=by simp;omega
 have D:(op == 33)=false:=by simp;omega
 have d:(op == 34)=false:=by simp;omega
 have E:(op == 35)=false:=by simp;omega
 have b:(op == 36)=false:=by simp;omega
 have y:(op == 37)=false:=by simp;omega
 have i:(op == 38)=false:=by simp;omega
 have z:(op == 39)=false:=by simp;omega
 have m:(op == 40)=false:=by simp;omega
 have v:(op == 41)=false:=by simp;omega
 have u:(op == 42)=false:=by simp;omega
 have f:(op == 43)=false:=by simp;omega
 have o:(op == 44)=false:=by simp;omega
 have t:(op == 45)=false:=by simp;omega
 have s:(op == 46)=false:=by simp;omega
 have c:(op == 47)=false:=by simp;omega
 have C:(op == 48)=false:=by simp;omega
 have x:(op == 49)=false:=by simp;omega
 clear h;go_in
 go_wp2_with fail
 refine bodyPost_ret (by simp[results,Tryz.results182,go_sem];try rfl) rfl ?_
 exact⟨by kernel_rfl,zB⟩
theorem MX op w (h:op<22) :
 Calls gd 181 #[b_ c_ op] w fun e w'=>e =fH (fI #[nv (gB op),fJ (nc op)])∧Up w w':=by
 by_cases h1:1≤op
 · rw[Ga f_];exact MW op w f_
 · rw[Ef f_,ET f_];exact vM op w f_
theorem wC op w (h:22≤op) :
 Calls gd 182 #[b_ c_ op] w fun e w'=>e =fH (fI #[nv (gB op),fJ (nc op)])∧Up w w':=by
 by_cases h1:op≤49
 · rw[Ga f_];exact wD op w f_
 · rw[Ef f_,ET f_];exact zS op w f_
theorem yA op (w) :
 Calls gd 147 #[b_ c_ op] w fun e w'=>e =fH (fI #[nv (gB op),fJ (nc op)])∧Up w w':=by
 by_cases d:op<22
 · go_in
   go_wp2_with fail
   refine(MX _ _ d).mono ?_
   rintro e w1 ⟨rfl,a⟩;obtain⟨c1,f1⟩:=jR a;have b:w.heap.size<w1.heap.size:=by have:=a.size;simp at this;omega
   unfold nv
   go_wp2_with fail
   refine bodyPost_ret (v:=fI #[nv (gB op),fJ (nc op)]) (by simp[results,Tryz.results147,go_sem,nv,c1]) rfl ⟨rfl,zB⟩
 · have c:22≤op:=by omega
   go_in
   go_wp2_with fail
   refine(wC _ _ c).mono ?_
   rintro e w1 ⟨rfl,a⟩;obtain⟨c1,f1⟩:=jR a;have b:w.heap.size<w1.heap.size:=by have:=a.size;simp at this;omega
   unfold nv
   go_wp2_with fail
   refine bodyPost_ret (v:=fI #[nv (gB op),fJ (nc op)]) (by simp[results,Tryz.results147,go_sem,nv,c1]) rfl ⟨rfl,zB⟩
structure Sh where
 d:Bool
 a:Bool
 b:Bool
 least:Int
 most:Int
 step:Int
def jt (f:Int):Sh:=
 if f=82 then ⟨true,true,true,0,0,0⟩ else if f=73 then ⟨true,true,false,-2048,2047,0⟩ else if f=72 then ⟨true,true,false,0,31,0⟩
 else if f=83 then ⟨false,true,true,-2048,2047,0⟩ else if f=66 then ⟨false,true,true,-4096,4094,2⟩ else if f=85 then ⟨true,false,false,0,1048575,0⟩
 else if f=74 then ⟨true,false,false,-1048576,1048574,2⟩ else if f=70 then ⟨false,false,false,0,255,0⟩ else if f=67 then ⟨true,true,false,0,4095,0⟩
 else if f=76 then ⟨true,true,false,0,3,0⟩ else if f=65 then ⟨true,true,true,0,3,0⟩ else ⟨false,false,false,0,0,0⟩
def oh (s:Sh):Value:=e_ #[fJ s.d,fJ s.a,fJ s.b,b_ c_ s.least,b_ c_ s.most,b_ c_ s.step]
def wu (f:Int):Prop:=f=82∨f=73∨f=72∨f=83∨f=66∨f=85∨f=74∨f=70∨f=67∨f=76∨f=65
theorem yH f (w) :
 Calls gd 148 #[.int .i32 f] w fun e w'=>e =fH (oh (jt f))∧Up w w':=by
 by_cases h:wu f
 · rcases h with rfl|rfl|rfl|rfl|rfl|rfl|rfl|rfl|rfl|rfl|rfl
   all_goals
    go_in
    go_wp2_with fail
    refine bodyPost_ret (by simp[results,Tryz.results148,go_sem];try rfl) rfl ?_
    exact⟨by kernel_rfl,zB⟩
 · simp only[wu,not_or] at h
   obtain⟨h1,h2,h3,h4,h5,a,d,g,i,c,b⟩:=h;have e:jt f=⟨false,false,false,0,0,0⟩:=by simp[jt,h1,h2,h3,h4,h5,a,d,g,i,c,b]
   rw[e];clear e;have k:=fS h1;have t:=fS h2;have m:=fS h3;have p:=fS h4;have r:=fS h5;have j:=fS a;have n:=fS d;have o:=fS g;have l:=fS i;have q:=fS c;have s:=fS b;clear h1 h2 h3 h4 h5 a d g i c b;go_in
   go_wp2_with fail
   refine bodyPost_ret (by simp[results,Tryz.results148,go_sem];try rfl) rfl ?_
   exact⟨by kernel_rfl,zB⟩
def jk (n:Int) (a:Bool):Bool:=decide (0≤n) && (decide (n<32) && (a || (n == 0)))
theorem tE {a b} (h:a=b):Ending.returned (fJ a) =fH (fJ b):=by rw[h]
theorem zZ n a (w) :
 Calls gd 152 #[b_ c_ n,fJ a] w fun e w'=>e =fH (fJ (jk n a))∧w=w':=by
 cases h0:decide (0≤n) <;> cases h1:decide (n<32) <;> cases a <;> cases h2:(n == 0)
 all_goals
  go_in
  go_wp2
  go_ret;exact⟨tE (by unfold jk;rw[h0,h1,h2];rfl),rfl⟩
structure Pc where
 n:Int
 fr:Int
 mn:Int
 at':Int
def oq (p:Pc):List Value:=[b_ c_ p.n,b_ c_ p.fr,b_ c_ p.mn,b_ c_ p.at']
def Bn (p:Pc):Prop:=0≤p.fr∧p.fr<32∧0≤p.mn∧p.mn<32∧0≤p.at'∧p.at'<32
def yW (p:Pc):Nat:=((p.n % 4294967296).toNat / 2 ^ p.fr.toNat % 2 ^ p.mn.toNat)*2 ^ p.at'.toNat % 4294967296
def Ex (y:Nat) (l:List Pc):Nat:=l.foldl (fun y p=>y ||| yW p) y
def l_ (l:List Pc):Nat:=Ex 0 l
theorem xg (p):yW p<4294967296:=Nat.mod_lt _ fZ
theorem tj {x y} (a:x<4294967296) (b:y<4294967296):x ||| y<4294967296:=Nat.or_lt_two_pow (n:=32) a b
theorem KY (l):∀ y,y<4294967296→Ex y l<4294967296:=by
 induction l with
 | nil=>intro y h;exact h
 | cons p l ih=>intro y h;exact ih _ (tj h (xg p))
theorem Ey (l):l_ l<4294967296:=KY l 0 fZ
theorem MI (l:List Pc) k (h:k<l.length):l_ (l.take (k+1))=l_ (l.take k) ||| yW l[k]:=by
 unfold l_ Ex;rw[fP h,List.foldl_append];rfl
theorem Cw (x y:Nat) (a:x<4294967296) (b:y<4294967296):bits .or .u32 (x:Int) (y:Int)=((x ||| y:Nat):Int):=by
 have h:=tj a b;have e:bits .or .u32 (x:Int) (y:Int)=IntKind.u32.wrap (((BitVec.ofInt 32 (x:Int)) ||| (BitVec.ofInt 32 (y:Int))).toNat:Int):=rfl;rw[e,BitVec.ofInt_natCast,BitVec.ofInt_natCast,BitVec.toNat_or,BitVec.toNat_ofNat,BitVec.toNat_ofNat,Nat.mod_eq_of_lt a,Nat.mod_eq_of_lt b,IntKind.wrap_u32];omega
theorem zb (x y:Nat) (a:x<4294967296) (b:y<4294967296):bits .and .u32 (x:Int) (y:Int)=((x &&& y:Nat):Int):=by
 have h:x &&& y<4294967296:=Nat.lt_of_le_of_lt Nat.and_le_left a;have e:bits .and .u32 (x:Int) (y:Int)=IntKind.u32.wrap (((BitVec.ofInt 32 (x:Int)) &&& (BitVec.ofInt 32 (y:Int))).toNat:Int):=rfl;rw[e,BitVec.ofInt_natCast,BitVec.ofInt_natCast,BitVec.toNat_and,BitVec.toNat_ofNat,BitVec.toNat_ofNat,Nat.mod_eq_of_lt a,Nat.mod_eq_of_lt b,IntKind.wrap_u32];omega
theorem za (x y:Nat) (a:x<9223372036854775808) (b:y<9223372036854775808):bits .and .i64 (x:Int) (y:Int)=((x &&& y:Nat):Int):=by
 have h:x &&& y<9223372036854775808:=Nat.lt_of_le_of_lt Nat.and_le_left a;have e:bits .and .i64 (x:Int) (y:Int)=c_.wrap (((BitVec.ofInt 64 (x:Int)) &&& (BitVec.ofInt 64 (y:Int))).toNat:Int):=rfl;rw[e,BitVec.ofInt_natCast,BitVec.ofInt_natCast,BitVec.toNat_and,BitVec.toNat_ofNat,BitVec.toNat_ofNat,Nat.mod_eq_of_lt f_,Nat.mod_eq_of_lt f_];exact IntWalk.i64_in _ f_
theorem Cv (x y:Nat) (a:x<4294967296) (b:y<4294967296):bits .or .i64 (x:Int) (y:Int)=((x ||| y:Nat):Int):=by
 have h:=tj a b;have e:bits .or .i64 (x:Int) (y:Int)=c_.wrap (((BitVec.ofInt 64 (x:Int)) ||| (BitVec.ofInt 64 (y:Int))).toNat:Int):=rfl;rw[e,BitVec.ofInt_natCast,BitVec.ofInt_natCast,BitVec.toNat_or,BitVec.toNat_ofNat,BitVec.toNat_ofNat,Nat.mod_eq_of_lt f_,Nat.mod_eq_of_lt f_];exact IntWalk.i64_in _ f_
theorem EL m (h:m<32):(2:Nat) ^ m≤2147483648:=Nat.pow_le_pow_right fZ (by omega:m≤31)
theorem AX (m):(2:Int) ^ m=((2 ^ m:Nat):Int):=by rw[Int.natCast_pow];rfl
def gu (word:Nat) (fr mn:Nat):Nat:=word / 2 ^ fr % 2 ^ mn
theorem IM (word:Nat) fr mn (c:mn<32) (d:word<4294967296) :
 bits .and .i64 ((word:Int) / 2 ^ fr) (wrap64 (wrap64 (2 ^ mn) - 1))=((gu word fr mn:Nat):Int):=by
 have h1:=EL mn c;have h2:0<2 ^ mn:=Nat.two_pow_pos mn;rw[AX,AX,←Int.natCast_ediv];have a:wrap64 ((2 ^ mn:Nat):Int)=((2 ^ mn:Nat):Int):=by unfold wrap64;omega
 have b:wrap64 (((2 ^ mn:Nat):Int) - 1)=((2 ^ mn - 1:Nat):Int):=by unfold wrap64;omega
 rw[a,b,za _ _ (Nat.lt_of_le_of_lt (Nat.div_le_self _ _) f_) f_,Nat.and_two_pow_sub_one_eq_mod]
 rfl
theorem kC (word fr mn):gu word fr mn<2 ^ mn:=Nat.mod_lt _ (Nat.two_pow_pos mn)
theorem xf p (h:Bn p) (y:Nat) (g:y<4294967296) :
 bits .or .u32 (y:Int) (bits .and .u32 (p.n % 4294967296 / 2 ^ p.fr.toNat) ((2 ^ p.mn.toNat - 1) % 4294967296)*2 ^ p.at'.toNat % 4294967296)=((y ||| yW p:Nat):Int):=by
 obtain⟨a,b,c,d,e,f⟩:=h;have h1:=EL p.mn.toNat f_;have h2:0<2 ^ p.mn.toNat:=Nat.two_pow_pos _;have h3:(p.n % 4294967296).toNat<4294967296:=by omega
 have k:p.n % 4294967296=(((p.n % 4294967296).toNat:Nat):Int):=by omega
 rw[k,AX,AX,AX,←Int.natCast_ediv];have j:(((2 ^ p.mn.toNat:Nat):Int) - 1) % 4294967296=((2 ^ p.mn.toNat - 1:Nat):Int):=by omega
 rw[j,zb _ _ (Nat.lt_of_le_of_lt (Nat.div_le_self _ _) h3) f_,Nat.and_two_pow_sub_one_eq_mod,←Int.natCast_mul];have i:∀ z:Nat,((z:Int) % 4294967296)=((z % 4294967296:Nat):Int):=fun z=>by omega
 rw[i,Cw y _ g (Nat.mod_lt _ fZ)]
 rfl
theorem Bz {l:List Pc} {i} (h:i<l.length) j (a:j<4):(l.flatMap oq)[i*4+j]? = (oq l[i])[j]?:=by
 induction l generalizing i with
 | nil=>simp at h
 |
  cons p l ih=>
  cases i with
  | zero=>simp only[List.flatMap_cons,List.getElem_cons_zero];rw[List.getElem?_append_left (by simp[oq];omega)];simp
  |
   succ i=>
   rw[List.flatMap_cons,List.getElem?_append_right (by simp[oq];omega)];rw[show (i+1)*4+j - (oq p).length=i*4+j by simp[oq];omega];exact ih (by simpa using h)
structure ju where
 op:Int
 d:Int
 a:Int
 b:Int
 n:Int
def gK (x:ju):Value:=e_ #[b_ c_ x.op,b_ c_ x.d,b_ c_ x.a,b_ c_ x.b,b_ c_ x.n]
def sy (x:ju):Sh:=jt (gB x.op).form
def om (n s:Int):Bool:=if s=2 then n.tmod 2 == 0 else true
def k_ (x:ju):Bool:=
 nc x.op && (jk x.d (sy x).d && (jk x.a (sy x).a && (jk x.b (sy x).b && (decide ((sy x).least≤x.n) && (decide (x.n≤(sy x).most) && om x.n (sy x).step)))))
theorem yg (f):(jt f).step=0∨(jt f).step=2:=by
 unfold jt;repeat' split
 all_goals simp
theorem mU n a r w (b:jk n a=r) :
 Calls gd 152 #[b_ c_ n,fJ a] w fun e w'=>e =fH (fJ r)∧w=w':=by subst b;exact zZ n a w
theorem Id x (w) :
 Calls gd 109 #[gK x] w fun e w'=>e =fH (fJ (k_ x))∧Up w w':=by
 obtain⟨op,d,a,b,n⟩:=x;have hst:=yg (gB op).form;have o:gi (k_ ⟨op,d,a,b,n⟩=(nc op && (jk d (jt (gB op).form).d && (jk a (jt (gB op).form).a && (jk b (jt (gB op).form).b && (decide ((jt (gB op).form).least≤n) && (decide (n≤(jt (gB op).form).most) && om n (jt (gB op).form).step))))))):=rfl;generalize D:jt (gB op).form=s at *
 obtain⟨m,l,k,G,F,H⟩:=s;have p:=gg D;clear D;simp only at hst o;unfold gK;cases h0:(nc op)
 case false=>
  have j:=gg h0;have g:gi (jk d m=jk d m):=rfl;have h:gi (jk a l=jk a l):=rfl;have i:gi (jk b k=jk b k):=rfl;go_in
  go_wp2_with fail
  refine(yA op _).mono ?_
  rintro e w1 ⟨rfl,f⟩;obtain⟨c1,f1⟩:=jR f;have t:w.heap.size<w1.heap.size:=by have:=f.size;simp at this;omega
  unfold nv
  go_wp2_with fail
  refine(yH _ _).mono ?_
  rw[p.o];rintro e w2 ⟨rfl,c⟩;obtain⟨A,f2⟩:=jR c;have r:w1.heap.size<w2.heap.size:=by have:=c.size;simp at this;omega
  have y:w.heap.size<w2.heap.size:=by omega
  have v:w.heap.size≤w1.heap.size:=by omega
  have u:w.heap.size≤w2.heap.size:=by omega
  have z:w1.heap.size≤w2.heap.size:=by omega
  unfold oh
  go_wp2_with (go_at_call 152;(first|((with_reducible refine(mU d m _ _ g.o).mono ?_);rintro e w' ⟨rfl,rfl⟩)|((with_reducible refine(mU a l _ _ h.o).mono ?_);rintro e w' ⟨rfl,rfl⟩)|((with_reducible refine(mU b k _ _ i.o).mono ?_);rintro e w' ⟨rfl,rfl⟩)))
  go_ret;exact⟨tE (by rw[o.o,j.o];rfl),zB⟩
 case true=>
  cases h1:(jk d m)
  case false=>
   have j:=gg h0;have g:=gg h1;clear h1;have h:gi (jk a l=jk a l):=rfl;have i:gi (jk b k=jk b k):=rfl;go_in
   go_wp2_with fail
   refine(yA op _).mono ?_
   rintro e w1 ⟨rfl,f⟩;obtain⟨c1,f1⟩:=jR f;have t:w.heap.size<w1.heap.size:=by have:=f.size;simp at this;omega
   unfold nv
   go_wp2_with fail
   refine(yH _ _).mono ?_
   rw[p.o];rintro e w2 ⟨rfl,c⟩;obtain⟨A,f2⟩:=jR c;have r:w1.heap.size<w2.heap.size:=by have:=c.size;simp at this;omega
   have y:w.heap.size<w2.heap.size:=by omega
   have v:w.heap.size≤w1.heap.size:=by omega
   have u:w.heap.size≤w2.heap.size:=by omega
   have z:w1.heap.size≤w2.heap.size:=by omega
   unfold oh
   go_wp2_with (go_at_call 152;(first|((with_reducible refine(mU d m _ _ g.o).mono ?_);rintro e w' ⟨rfl,rfl⟩)|((with_reducible refine(mU a l _ _ h.o).mono ?_);rintro e w' ⟨rfl,rfl⟩)|((with_reducible refine(mU b k _ _ i.o).mono ?_);rintro e w' ⟨rfl,rfl⟩)))
   go_ret;exact⟨tE (by rw[o.o,j.o,g.o];rfl),zB⟩
  case true=>
   cases h2:(jk a l)
   case false=>
    have j:=gg h0;have g:=gg h1;have h:=gg h2;clear h1;clear h2;have i:gi (jk b k=jk b k):=rfl;go_in
    go_wp2_with fail
    refine(yA op _).mono ?_
    rintro e w1 ⟨rfl,f⟩;obtain⟨c1,f1⟩:=jR f;have t:w.heap.size<w1.heap.size:=by have:=f.size;simp at this;omega
    unfold nv
    go_wp2_with fail
    refine(yH _ _).mono ?_
    rw[p.o];rintro e w2 ⟨rfl,c⟩;obtain⟨A,f2⟩:=jR c;have r:w1.heap.size<w2.heap.size:=by have:=c.size;simp at this;omega
    have y:w.heap.size<w2.heap.size:=by omega
    have v:w.heap.size≤w1.heap.size:=by omega
    have u:w.heap.size≤w2.heap.size:=by omega
    have z:w1.heap.size≤w2.heap.size:=by omega
    unfold oh
    go_wp2_with (go_at_call 152;(first|((with_reducible refine(mU d m _ _ g.o).mono ?_);rintro e w' ⟨rfl,rfl⟩)|((with_reducible refine(mU a l _ _ h.o).mono ?_);rintro e w' ⟨rfl,rfl⟩)|((with_reducible refine(mU b k _ _ i.o).mono ?_);rintro e w' ⟨rfl,rfl⟩)))
    go_ret;exact⟨tE (by rw[o.o,j.o,g.o,h.o];rfl),zB⟩
   case true=>
    cases h3:(jk b k)
    case false=>
     have j:=gg h0;have g:=gg h1;have h:=gg h2;have i:=gg h3;clear h1;clear h2;clear h3;go_in
     go_wp2_with fail
     refine(yA op _).mono ?_
     rintro e w1 ⟨rfl,f⟩;obtain⟨c1,f1⟩:=jR f;have t:w.heap.size<w1.heap.size:=by have:=f.size;simp at this;omega
     unfold nv
     go_wp2_with fail
     refine(yH _ _).mono ?_
     rw[p.o];rintro e w2 ⟨rfl,c⟩;obtain⟨A,f2⟩:=jR c;have r:w1.heap.size<w2.heap.size:=by have:=c.size;simp at this;omega
     have y:w.heap.size<w2.heap.size:=by omega
     have v:w.heap.size≤w1.heap.size:=by omega
     have u:w.heap.size≤w2.heap.size:=by omega
     have z:w1.heap.size≤w2.heap.size:=by omega
     unfold oh
     go_wp2_with (go_at_call 152;(first|((with_reducible refine(mU d m _ _ g.o).mono ?_);rintro e w' ⟨rfl,rfl⟩)|((with_reducible refine(mU a l _ _ h.o).mono ?_);rintro e w' ⟨rfl,rfl⟩)|((with_reducible refine(mU b k _ _ i.o).mono ?_);rintro e w' ⟨rfl,rfl⟩)))
     go_ret;exact⟨tE (by rw[o.o,j.o,g.o,h.o,i.o];rfl),zB⟩
    case true=>
     cases h4:(decide (G≤n))
     case false=>
      have j:=gg h0;have g:=gg h1;have h:=gg h2;have i:=gg h3;have q:=gg h4;clear h1;clear h2;clear h3;go_in
      go_wp2_with fail
      refine(yA op _).mono ?_
      rintro e w1 ⟨rfl,f⟩;obtain⟨c1,f1⟩:=jR f;have t:w.heap.size<w1.heap.size:=by have:=f.size;simp at this;omega
      unfold nv
      go_wp2_with fail
      refine(yH _ _).mono ?_
      rw[p.o];rintro e w2 ⟨rfl,c⟩;obtain⟨A,f2⟩:=jR c;have r:w1.heap.size<w2.heap.size:=by have:=c.size;simp at this;omega
      have y:w.heap.size<w2.heap.size:=by omega
      have v:w.heap.size≤w1.heap.size:=by omega
      have u:w.heap.size≤w2.heap.size:=by omega
      have z:w1.heap.size≤w2.heap.size:=by omega
      unfold oh
      go_wp2_with (go_at_call 152;(first|((with_reducible refine(mU d m _ _ g.o).mono ?_);rintro e w' ⟨rfl,rfl⟩)|((with_reducible refine(mU a l _ _ h.o).mono ?_);rintro e w' ⟨rfl,rfl⟩)|((with_reducible refine(mU b k _ _ i.o).mono ?_);rintro e w' ⟨rfl,rfl⟩)))
      go_ret;exact⟨tE (by rw[o.o,j.o,g.o,h.o,i.o,q.o];rfl),zB⟩
     case true=>
      cases h5:(decide (n≤F))
      case false=>
       have j:=gg h0;have g:=gg h1;have h:=gg h2;have i:=gg h3;have q:=gg h4;have B:=gg h5;clear h1;clear h2;clear h3;go_in
       go_wp2_with fail
       refine(yA op _).mono ?_
       rintro e w1 ⟨rfl,f⟩;obtain⟨c1,f1⟩:=jR f;have t:w.heap.size<w1.heap.size:=by have:=f.size;simp at this;omega
       unfold nv
       go_wp2_with fail
       refine(yH _ _).mono ?_
       rw[p.o];rintro e w2 ⟨rfl,c⟩;obtain⟨A,f2⟩:=jR c;have r:w1.heap.size<w2.heap.size:=by have:=c.size;simp at this;omega
       have y:w.heap.size<w2.heap.size:=by omega
       have v:w.heap.size≤w1.heap.size:=by omega
       have u:w.heap.size≤w2.heap.size:=by omega
       have z:w1.heap.size≤w2.heap.size:=by omega
       unfold oh
       go_wp2_with (go_at_call 152;(first|((with_reducible refine(mU d m _ _ g.o).mono ?_);rintro e w' ⟨rfl,rfl⟩)|((with_reducible refine(mU a l _ _ h.o).mono ?_);rintro e w' ⟨rfl,rfl⟩)|((with_reducible refine(mU b k _ _ i.o).mono ?_);rintro e w' ⟨rfl,rfl⟩)))
       go_ret;exact⟨tE (by rw[o.o,j.o,g.o,h.o,i.o,q.o,B.o];rfl),zB⟩
      case true=>
       rcases hst with rfl|rfl
       · have C:gi (om n 0=true):=rfl
         have j:=gg h0;have g:=gg h1;have h:=gg h2;have i:=gg h3;have q:=gg h4;have B:=gg h5;clear h1;clear h2;clear h3;go_in
         go_wp2_with fail
         refine(yA op _).mono ?_
         rintro e w1 ⟨rfl,f⟩;obtain⟨c1,f1⟩:=jR f;have t:w.heap.size<w1.heap.size:=by have:=f.size;simp at this;omega
         unfold nv
         go_wp2_with fail
         refine(yH _ _).mono ?_
         rw[p.o];rintro e w2 ⟨rfl,c⟩;obtain⟨A,f2⟩:=jR c;have r:w1.heap.size<w2.heap.size:=by have:=c.size;simp at this;omega
         have y:w.heap.size<w2.heap.size:=by omega
         have v:w.heap.size≤w1.heap.size:=by omega
         have u:w.heap.size≤w2.heap.size:=by omega
         have z:w1.heap.size≤w2.heap.size:=by omega
         unfold oh
         go_wp2_with (go_at_call 152;(first|((with_reducible refine(mU d m _ _ g.o).mono ?_);rintro e w' ⟨rfl,rfl⟩)|((with_reducible refine(mU a l _ _ h.o).mono ?_);rintro e w' ⟨rfl,rfl⟩)|((with_reducible refine(mU b k _ _ i.o).mono ?_);rintro e w' ⟨rfl,rfl⟩)))
         go_ret;exact⟨tE (by rw[o.o,j.o,g.o,h.o,i.o,q.o,B.o,C.o];rfl),zB⟩
       · cases E:(n.tmod 2 == 0)
         case false=>
          have C:gi (om n 2=false):=by unfold om;rw[if_pos rfl];exact E
          have j:=gg h0;have g:=gg h1;have h:=gg h2;have i:=gg h3;have q:=gg h4;have B:=gg h5;clear h1;clear h2;clear h3;go_in
          go_wp2_with fail
          refine(yA op _).mono ?_
          rintro e w1 ⟨rfl,f⟩;obtain⟨c1,f1⟩:=jR f;have t:w.heap.size<w1.heap.size:=by have:=f.size;simp at this;omega
          unfold nv
          go_wp2_with fail
          refine(yH _ _).mono ?_
          rw[p.o];rintro e w2 ⟨rfl,c⟩;obtain⟨A,f2⟩:=jR c;have r:w1.heap.size<w2.heap.size:=by have:=c.size;simp at this;omega
          have y:w.heap.size<w2.heap.size:=by omega
          have v:w.heap.size≤w1.heap.size:=by omega
          have u:w.heap.size≤w2.heap.size:=by omega
          have z:w1.heap.size≤w2.heap.size:=by omega
          unfold oh
          go_wp2_with (go_at_call 152;(first|((with_reducible refine(mU d m _ _ g.o).mono ?_);rintro e w' ⟨rfl,rfl⟩)|((with_reducible refine(mU a l _ _ h.o).mono ?_);rintro e w' ⟨rfl,rfl⟩)|((with_reducible refine(mU b k _ _ i.o).mono ?_);rintro e w' ⟨rfl,rfl⟩)))
          go_ret;exact⟨tE (by rw[o.o,j.o,g.o,h.o,i.o,q.o,B.o,C.o];rfl),zB⟩
         case true=>
          have C:gi (om n 2=true):=by unfold om;rw[if_pos rfl];exact E
          have j:=gg h0;have g:=gg h1;have h:=gg h2;have i:=gg h3;have q:=gg h4;have B:=gg h5;clear h1;clear h2;clear h3;go_in
          go_wp2_with fail
          refine(yA op _).mono ?_
          rintro e w1 ⟨rfl,f⟩;obtain⟨c1,f1⟩:=jR f;have t:w.heap.size<w1.heap.size:=by have:=f.size;simp at this;omega
          unfold nv
          go_wp2_with fail
          refine(yH _ _).mono ?_
          rw[p.o];rintro e w2 ⟨rfl,c⟩;obtain⟨A,f2⟩:=jR c;have r:w1.heap.size<w2.heap.size:=by have:=c.size;simp at this;omega
          have y:w.heap.size<w2.heap.size:=by omega
          have v:w.heap.size≤w1.heap.size:=by omega
          have u:w.heap.size≤w2.heap.size:=by omega
          have z:w1.heap.size≤w2.heap.size:=by omega
          unfold oh
          go_wp2_with (go_at_call 152;(first|((with_reducible refine(mU d m _ _ g.o).mono ?_);rintro e w' ⟨rfl,rfl⟩)|((with_reducible refine(mU a l _ _ h.o).mono ?_);rintro e w' ⟨rfl,rfl⟩)|((with_reducible refine(mU b k _ _ i.o).mono ?_);rintro e w' ⟨rfl,rfl⟩)))
          go_ret;exact⟨tE (by rw[o.o,j.o,g.o,h.o,i.o,q.o,B.o,C.o];rfl),zB⟩
end
section
open Go.RowKit
theorem Eo {k a b} (h:a=b):Ending.returned (.int k a) =fH (.int k b):=by rw[h]
theorem FI (word:Nat) (fr mn:Nat) w (c:fr<32) (b:mn<32) (a:word<4294967296) :
 Calls gd 150 #[b_ c_ word,b_ c_ fr,b_ c_ mn] w fun e w'=>e =fH (b_ c_ (gu word fr mn:Nat))∧Up w w':=by
 have E:=gg (IM word fr mn b a);go_in
 go_wp2_with fail
 go_quiet (fail)
 go_wp2
 go_ret;exact⟨Eo (by simpa using E.o),lJ fK _⟩
def pH (op:Int):Int:=if op=44 then 2 else if op=45 then 5 else 0
theorem Nq op (w) :
 Calls gd 184 #[b_ c_ op] w fun e w'=>e =fH (b_ c_ (pH op))∧w=w':=by
 by_cases h1:op=44
 · subst h1
   go_in
   go_wp2
   go_ret;exact⟨rfl,rfl⟩
 · by_cases h2:op=45
   · subst h2
     go_in
     go_wp2
     go_ret;exact⟨rfl,rfl⟩
   · have E:gi (pH op=0):=by unfold pH;rw[if_neg h1,if_neg h2];exact rfl
     have a:(op == 44)=false:=by simp[h1]
     have b:(op == 45)=false:=by simp[h2]
     clear h1 h2;go_in
     go_wp2
     go_ret;exact⟨Eo E.o.symm,rfl⟩
theorem zT v l (w) (h:gl w 4 l.length v (l.flatMap oq)) (r:∀ p∈l,Bn p) :
 Calls gd 185 #[v] w fun e w'=>e =fH (b_ c_ (l_ l:Nat))∧Up w w':=by
 have E:=gg h;obtain⟨a,c,rfl⟩:=h.shape;clear h;have D:=gg r;clear r;go_in
 go_wp2_with fail
 go_loopw [3,8] (fun x i wr=>∃ j:Nat,j≤l.length∧i =b_ c_ j∧x = .int .u32 ((l_ (l.take j):Nat):Int)∧Up w wr) (fun _ i _=>l.length - (intOf i).toNat)
 case atStart=>exact⟨0,fM,rfl,rfl,zB⟩
 case round=>
  obtain⟨j,W,rfl,rfl,f⟩:=hrel;have A:=Ey (l.take j);by_cases d:j<l.length
  · obtain⟨b,o,m,B,q,S,L,k⟩:∃ b o m,a_ a l.length c =a_ (some ⟨b,o,none⟩) l.length m∧b<w.heap.size∧l.length≤m∧m≤maxLen ∧ ∀ j u,(l.flatMap oq)[j]? = some u→w.cell? ⟨b,o+j,none⟩=some u:=by
     rcases E.o.2.2 with⟨_,h0⟩|h
     · omega
     · exact h
    injection B with e1 _ e2
    subst e1 e2;unfold maxLen at L
    have g:wr.cell? ⟨b,o+j*4,none⟩=some (b_ c_ l[j].n)∧wr.cell? ⟨b,o+j*4+1,none⟩=some (b_ c_ l[j].fr)∧wr.cell? ⟨b,o+j*4+2,none⟩=some (b_ c_ l[j].mn)∧wr.cell? ⟨b,o+j*4+3,none⟩=some (b_ c_ l[j].at'):=by
     refine⟨?_,?_,?_,?_⟩
     · rw[f.cell (p:=⟨b,_,none⟩) q];exact k (j*4) _ (by have:=Bz d 0 f_;simpa[oq] using this)
     · rw[f.cell (p:=⟨b,_,none⟩) q,show o+j*4+1=o+(j*4+1) by omega];exact k (j*4+1) _ (by have:=Bz d 1 f_;simpa[oq] using this)
     · rw[f.cell (p:=⟨b,_,none⟩) q,show o+j*4+2=o+(j*4+2) by omega];exact k (j*4+2) _ (by have:=Bz d 2 f_;simpa[oq] using this)
     · rw[f.cell (p:=⟨b,_,none⟩) q,show o+j*4+3=o+(j*4+3) by omega];exact k (j*4+3) _ (by have:=Bz d 3 f_;simpa[oq] using this)
    obtain⟨O,C,K,P⟩:=g;have s:=D.o l[j] (List.getElem_mem d);have I:=gg (xf l[j] s (l_ (l.take j)) A);have M:=gg (MI l j d);obtain⟨H,J,z,k3,t,N⟩:=s;clear k;generalize l[j]=p at *
    generalize l_ (l.take j)=y at *
    obtain⟨V,R,T,U⟩:=p;simp only at O C K P H J z k3 t N;have G:(0:Int)≤(y:Int):=by omega
    have F:(y:Int)<4294967296:=by omega
    go_wp2_with fail
    go_quiet (fail)
    go_wp2_with fail
    refine⟨⟨j+1,by omega,by go_num,by rw[M.o,←I.o],lJ zB _⟩,by simp[intOf];omega⟩
  · have e:l.take j=l:=List.take_of_length_le f_
    rw[e] at *
    have Q:=Ey l;have F:((l_ l:Nat):Int)<4294967296:=by omega
    have G:(0:Int)≤((l_ l:Nat):Int):=by omega
    go_wp2
    go_ret;exact⟨rfl,f⟩
def gA (f n:Int):List Pc:=
 if f=73 then [⟨n,0,12,20⟩] else if f=67 then [⟨n,0,12,20⟩] else if f=72 then [⟨n,0,5,20⟩] else if f=83 then [⟨n,0,5,7⟩,⟨n,5,7,25⟩]
 else if f=66 then [⟨n,11,1,7⟩,⟨n,1,4,8⟩,⟨n,5,6,25⟩,⟨n,12,1,31⟩] else if f=85 then [⟨n,0,20,12⟩]
 else if f=74 then [⟨n,12,8,12⟩,⟨n,11,1,20⟩,⟨n,1,10,21⟩,⟨n,20,1,31⟩] else if f=70 then [⟨n,0,8,20⟩]
 else if f=76 then [⟨n,0,2,25⟩] else if f=65 then [⟨n,0,2,25⟩] else []
def I4 (f:Int):Prop:=f=73∨f=67∨f=72∨f=83∨f=66∨f=85∨f=74∨f=70∨f=76∨f=65
theorem Cs (f n):∀ p∈gA f n,Bn p:=by
 unfold gA Bn;repeat' split
 all_goals simp
theorem Gn (f n):(gA f n).length≤4:=by
 unfold gA;repeat' split
 all_goals simp
theorem Af (f n):(gA f n).length≤maxLen:=by have:=Gn f n;unfold maxLen;omega
theorem I3 (l:List Pc):∀ u∈l.flatMap oq,u.oneCell'=true:=by
 intro u a;obtain⟨p,_,a⟩:=List.mem_flatMap.1 a;simp only[oq,List.mem_cons,List.not_mem_nil,or_false] at a;rcases a with rfl|rfl|rfl|rfl <;> rfl
theorem Hf f n (w) :
 Calls gd 183 #[.int .i32 f,b_ c_ n] w fun e w'=>∃ v,e =fH v∧gl w' 4 (gA f n).length v ((gA f n).flatMap oq)∧Up w w':=by
 by_cases h:I4 f
 · rcases h with rfl|rfl|rfl|rfl|rfl|rfl|rfl|rfl|rfl|rfl
   all_goals
    go_in
    go_wp2
    go_ret;exact⟨_,rfl,Hd (w:=w.alloc _) (b:=w.heap.size) (gH w _) (by rfl) (I3 _) (Af _ n) fK,zB⟩
 · simp only[I4,not_or] at h
   obtain⟨h1,h2,h3,h4,h5,a,d,g,i,c⟩:=h;have e:gA f n=[]:=by simp[gA,h1,h2,h3,h4,h5,a,d,g,i,c]
   rw[e];clear e;have k:=fS h1;have t:=fS h2;have m:=fS h3;have q:=fS h4;have s:=fS h5;have j:=fS a;have o:=fS d;have p:=fS g;have l:=fS i;have r:=fS c;clear h1 h2 h3 h4 h5 a d g i c;go_in
   go_wp2
   go_ret;exact⟨_,rfl,gl.nil _ _,zB⟩
def Dc (x:ju):List Pc:=[⟨(gB x.op).low,0,7,0⟩,⟨(gB x.op).mid,0,3,12⟩,⟨(gB x.op).high,0,7,25⟩,⟨x.d,0,5,7⟩,⟨x.a,0,5,15⟩,⟨x.b+pH x.op,0,5,20⟩]
def rO (x:ju):Nat:=l_ (Dc x ++ gA (gB x.op).form x.n)
def kq (x:ju):Int:=if k_ x then (rO x:Nat) else 0
def kA (x:ju):Int:=if k_ x then 0 else 1
theorem Ic x r w (a:k_ x=r) :
 Calls gd 109 #[gK x] w fun e w'=>e =fH (fJ r)∧Up w w':=by subst a;exact Id x w
theorem Co {n a} (h:jk n a=true):0≤n∧n<32:=by
 simp only[jk,Bool.and_eq_true,decide_eq_true_eq] at h;exact⟨h.1,h.2.1⟩
theorem Ay {x} (h:k_ x=true):0≤x.b∧x.b<32:=by
 simp only[k_,Bool.and_eq_true] at h;exact Co h.2.2.2.1
theorem zN (x):∀ p∈Dc x ++ gA (gB x.op).form x.n,Bn p:=by
 intro p a;rcases List.mem_append.1 a with a|a
 · simp only[Dc,List.mem_cons,List.not_mem_nil,or_false] at a
   rcases a with rfl|rfl|rfl|rfl|rfl|rfl <;> simp[Bn]
 · exact Cs _ _ p a
theorem Cl:(gd.info? 236).map (fun i=>(i.zero,i.size,i.bytes))=some (some (e_ #[b_ c_ 0,b_ c_ 0,b_ c_ 0,b_ c_ 0]),4,32):=by kernel_rfl
theorem Ml x (w) :
 Calls gd 151 #[gK x] w fun e w'=>e =fH (fI #[b_ c_ (kq x),b_ c_ (kA x)])∧Up w w':=by
 cases c:k_ x
 case false=>
  have g:kq x=0:=by unfold kq;rw[c];rfl
  have f:kA x=1:=by unfold kA;rw[c];rfl
  rw[g,f];clear g f;have j:=gg c;clear c;obtain⟨op,d,a,b,n⟩:=x;unfold gK;go_in
  go_wp2_with fail
  refine(Ic ⟨op,d,a,b,n⟩ false _ j.o).mono ?_
  rintro e w1 ⟨rfl,k⟩
  go_wp2_with fail
  go_ret2
  exact⟨rfl,zB⟩
 case true=>
  have g:kq x=(rO x:Nat):=by unfold kq;rw[c];rfl
  have f:kA x=0:=by unfold kA;rw[c];rfl
  rw[g,f];clear g f;have A:=Ay c;have j:=gg c;clear c;have h:=gg (zN x);have l:=gg (show rO x=l_ (Dc x ++ gA (gB x.op).form x.n) from rfl);obtain⟨op,d,a,b,n⟩:=x
  have M:0≤pH op∧pH op≤5:=by
   unfold pH;repeat' split
   all_goals omega
  unfold gK;unfold Dc at l h;simp only at l h A;generalize q:gB op=r at *
  have G:=gg q;clear q;have L:c_.wrap (b+pH op)=b+pH op:=IntWalk.i64_in _ f_;go_in
  go_wp2_with fail
  refine(Ic ⟨op,d,a,b,n⟩ true _ j.o).mono ?_
  rintro e w1 ⟨rfl,k⟩;obtain⟨c1,f1⟩:=jR k;have N:w.heap.size<w1.heap.size:=by have:=k.size;simp at this;omega
  go_wp2_with fail
  refine(yA op _).mono ?_
  rw[G.o];rintro e w2 ⟨rfl,o⟩;obtain⟨S,f2⟩:=jR o;have I:w1.heap.size≤w2.heap.size:=o.size;have Q:w.heap.size<w2.heap.size:=by omega
  have P:w.heap.size≤w2.heap.size:=by omega
  unfold nv
  go_wp2_with fail
  go_region_held3 (fun w'=>tO (w2.alloc (d_ #[.string r.nm,.int .i32 r.form,b_ c_ r.low,b_ c_ r.mid,b_ c_ r.high] 211)) w') (first|with_reducible assumption|exact Lz _|exact AF (by with_reducible assumption) (by with_reducible assumption)|exact Lg (by with_reducible assumption) _) ((go_at_call 184;refine(Nq _ _).mono ?_;rintro e w' ⟨rfl,rfl⟩))
  go_wp2_with fail
  refine(Hf _ _ _).mono ?_
  rintro e F ⟨O,rfl,v,C⟩
  have p:gl F 4 6 (a_ (some ⟨w2.heap.size+1,0,none⟩) 6 6) (([⟨r.low,0,7,0⟩,⟨r.mid,0,3,12⟩,⟨r.high,0,7,25⟩,⟨d,0,5,7⟩,⟨a,0,5,15⟩,⟨b+pH op,0,5,20⟩]:List Pc).flatMap oq):=
   Hd (sG _ _ _ gb) (by rfl) (I3 _) (by unfold maxLen;omega) (nE C)
  obtain⟨J,u,t,s,y⟩:=info_parts Cl;have B:=Gn r.form n;obtain⟨z,H,m,i,R⟩:=KA (ty:=233) Tryz.underlying233 Tryz.underlying233 u t s p ⟨_,_,rfl⟩ v f_ f_;rw[←List.flatMap_append] at i;have D:=gg i;have E:=gg m;clear p v i u t s y B m
  go_wp2_with (at_builtin;(refine Ft rfl _ _ _ _ rfl _ _ _ _ rfl rfl E.o ?_))
  refine(zT z ([⟨r.low,0,7,0⟩,⟨r.mid,0,3,12⟩,⟨r.high,0,7,25⟩,⟨d,0,5,7⟩,⟨a,0,5,15⟩,⟨b+pH op,0,5,20⟩] ++ gA r.form n) _ (by rw[List.length_append];exact D.o) h.o).mono ?_
  rintro e T ⟨rfl,K⟩
  go_wp2_with fail
  go_ret2
  exact⟨by rw[l.o];rfl,zB⟩
theorem zy (word:Nat) (fr mn:Nat) w (c:fr<32) (b:mn<32) (a:word<4294967296) :
 Calls gd 150 #[b_ c_ word,b_ c_ fr,b_ c_ mn] w fun e w'=>e =fH (b_ c_ (gu word fr mn:Nat)) ∧ ∃ q,w'=w.drewN q:=by
 have E:=gg (IM word fr mn b a);go_in
 go_wp2_with fail
 go_quiet (fail)
 go_wp2
 go_ret;exact⟨Eo (by simpa using E.o),_,rfl⟩
def rB (word:Nat) (p:Pc):Nat:=gu word p.at'.toNat p.mn.toNat*2 ^ p.fr.toNat
def jB (word:Nat) (l:List Pc):Nat:=l.foldl (fun y p=>y ||| rB word p) 0
def kP (l:List Pc):Int:=l.foldl (fun m p=>max m (p.fr+p.mn)) 0
def Ct (p:Pc):Prop:=Bn p∧p.fr+p.mn≤31
theorem vh (f n):∀ p∈gA f n,Ct p:=by
 unfold gA Ct Bn;repeat' split
 all_goals simp
theorem Na word (l:List Pc) k (h:k<l.length):jB word (l.take (k+1))=jB word (l.take k) ||| rB word l[k]:=by
 unfold jB;rw[fP h,List.foldl_append];rfl
theorem wQ (l:List Pc) k (h:k<l.length):kP (l.take (k+1))=max (kP (l.take k)) (l[k].fr+l[k].mn):=by
 unfold kP;rw[fP h,List.foldl_append];rfl
theorem Fx word p (h:Ct p):rB word p<4294967296:=by
 obtain⟨⟨a,b,c,d,e,f⟩,g⟩:=h;have h1:=kC word p.at'.toNat p.mn.toNat
 have h2:2 ^ p.mn.toNat*2 ^ p.fr.toNat≤2147483648:=by
  rw[←Nat.pow_add];exact EL _ f_
 have h3:0<2 ^ p.fr.toNat:=Nat.two_pow_pos _;have:=Nat.mul_lt_mul_of_pos_right h1 h3;unfold rB;omega
theorem Kz word (l:List Pc) (hl:∀ p∈l,Ct p):∀ y,y<4294967296→l.foldl (fun y p=>y ||| rB word p) y<4294967296:=by
 induction l with
 | nil=>intro y h;exact h
 | cons p l ih=>intro y h;exact ih (fun q a=>hl q (by simp[a])) _ (tj h (Fx word p (hl p gb)))
theorem u_ word l (hl:∀ p∈l,Ct p):jB word l<4294967296:=Kz word l hl 0 fZ
theorem Cn (l:List Pc) (hl:∀ p∈l,Ct p) m (i:0≤m∧m≤31):0≤l.foldl (fun m p=>max m (p.fr+p.mn)) m∧l.foldl (fun m p=>max m (p.fr+p.mn)) m≤31:=by
 induction l generalizing m with
 | nil=>exact i
 |
  cons p l ih=>
  have:=hl p gb;obtain⟨⟨a,b,c,d,e,f⟩,g⟩:=this;refine ih (fun q h=>hl q (by simp[h])) _ ?_
  show 0≤max m (p.fr+p.mn)∧max m (p.fr+p.mn)≤31;omega
theorem Lb word p (h:Ct p):wrap64 (((gu word p.at'.toNat p.mn.toNat:Nat):Int)*2 ^ p.fr.toNat)=((rB word p:Nat):Int):=by
 have:=Fx word p h;rw[AX,←Int.natCast_mul];unfold rB at *
 unfold wrap64;omega
theorem vj f (word:Nat) w (W:word<4294967296) :
 Calls gd 149 #[.int .i32 f,b_ c_ word] w fun e w'=>e =fH (fI #[b_ c_ (jB word (gA f 0):Nat),b_ c_ (kP (gA f 0))])∧Up w w':=by
 go_in
 go_wp2_with fail
 refine(Hf f 0 _).mono ?_
 rintro e w1 ⟨v1,rfl,A,aa⟩;have C:=gg (vh f 0);have ab:=Gn f 0;generalize hl:gA f 0=l at *
 have T:=gg hl;clear hl;have M:=gg A;obtain⟨a,c,rfl⟩:=A.shape;clear A
 go_wp2_with fail
 go_loopw [4,5,11] (fun x m i wr=>∃ j:Nat,j≤l.length∧i =b_ c_ j∧x =b_ c_ ((jB word (l.take j):Nat):Int)∧m =b_ c_ (kP (l.take j))∧Up w1 wr) (fun _ _ i _=>l.length - (intOf i).toNat)
 case atStart=>exact⟨0,fM,rfl,rfl,rfl,zB⟩
 case round=>
  obtain⟨j,hj,rfl,rfl,rfl,r⟩:=hrel;by_cases k:j<l.length
  · obtain⟨b,o,s,J,t,hn,R,q⟩:∃ b o s,a_ a l.length c =a_ (some ⟨b,o,none⟩) l.length s∧b<w1.heap.size∧l.length≤s∧s≤maxLen ∧ ∀ j u,(l.flatMap oq)[j]? = some u→w1.cell? ⟨b,o+j,none⟩=some u:=by
     rcases M.o.2.2 with⟨_,h0⟩|h
     · omega
     · exact h
    injection J with e1 _ e2
    subst e1 e2;unfold maxLen at R
    have g:wr.cell? ⟨b,o+j*4,none⟩=some (b_ c_ l[j].n)∧wr.cell? ⟨b,o+j*4+1,none⟩=some (b_ c_ l[j].fr)∧wr.cell? ⟨b,o+j*4+2,none⟩=some (b_ c_ l[j].mn)∧wr.cell? ⟨b,o+j*4+3,none⟩=some (b_ c_ l[j].at'):=by
     refine⟨?_,?_,?_,?_⟩
     · rw[r.cell (p:=⟨b,_,none⟩) t];exact q (j*4) _ (by have:=Bz k 0 f_;simpa[oq] using this)
     · rw[r.cell (p:=⟨b,_,none⟩) t,show o+j*4+1=o+(j*4+1) by omega];exact q (j*4+1) _ (by have:=Bz k 1 f_;simpa[oq] using this)
     · rw[r.cell (p:=⟨b,_,none⟩) t,show o+j*4+2=o+(j*4+2) by omega];exact q (j*4+2) _ (by have:=Bz k 2 f_;simpa[oq] using this)
     · rw[r.cell (p:=⟨b,_,none⟩) t,show o+j*4+3=o+(j*4+3) by omega];exact q (j*4+3) _ (by have:=Bz k 3 f_;simpa[oq] using this)
    obtain⟨X,L,Q,Y⟩:=g;have d:=C.o l[j] (List.getElem_mem k);have D:=Lb word l[j] d;have E:=Fx word l[j] d;have S:=gg (Na word l j k);have U:=gg (wQ l j k);have I:=u_ word (l.take j) (fun p d=>C.o p (List.mem_of_mem_take d));have F:=Cn (l.take j) (fun p d=>C.o p (List.mem_of_mem_take d)) 0 f_;have Z:0≤kP (l.take j)∧kP (l.take j)≤31:=F;have K:=gg (Cv (jB word (l.take j)) (rB word l[j]) I E);clear F;obtain⟨⟨N,P,H,k3,G,V⟩,O⟩:=d;clear q;generalize l[j]=p at *
    generalize jB word (l.take j)=y at *
    generalize kP (l.take j)=mx at *
    obtain⟨pn,B,v,z⟩:=p;simp only at X L Q Y N P H k3 G V O D E;obtain⟨B,rfl⟩:∃ m:Nat,B=m:=⟨B.toNat,by omega⟩;obtain⟨v,rfl⟩:∃ m:Nat,v=m:=⟨v.toNat,by omega⟩;obtain⟨z,rfl⟩:∃ m:Nat,z=m:=⟨z.toNat,by omega⟩;simp only[Int.toNat_natCast] at D
    go_wp2_with fail
    go_quiet ((go_at_call 150;exact Calls.quiet_of (zy word z v _ f_ f_ W)))
    go_wp2_with fail
    refine⟨⟨j+1,by omega,by go_num,by rw[S.o,←K.o],by rw[U.o];split <;> (congr 1;omega),lJ zB _⟩,by simp[intOf];omega⟩
  · have e:l.take j=l:=List.take_of_length_le f_
    rw[e] at *
    go_wp2_with fail
    go_ret2
    exact⟨by rw[T.o];rfl,zB⟩
theorem Jv (x y g k):gu (x ||| y) g k=gu x g k ||| gu y g k:=by
 unfold gu;rw[←Nat.shiftRight_eq_div_pow,←Nat.shiftRight_eq_div_pow,←Nat.shiftRight_eq_div_pow,Nat.shiftRight_or_distrib,Nat.or_mod_two_pow]
theorem Ju (n fr mn at':Int) (g k:Nat) (h0:0≤mn∧0≤at'∧at'+mn≤32) (h:at'+mn≤g∨(g:Int)+k≤at'):gu (yW ⟨n,fr,mn,at'⟩) g k=0:=by
 unfold gu yW;simp only;obtain⟨m,rfl⟩:=Int.eq_ofNat_of_zero_le h0.1;obtain⟨a,rfl⟩:=Int.eq_ofNat_of_zero_le h0.2.1;simp only[Int.toNat_natCast];generalize b:(n % 4294967296).toNat / 2 ^ fr.toNat % 2 ^ m=v;have d:v<2 ^ m:=by rw[←b];exact Nat.mod_lt _ (Nat.two_pow_pos _)
 have i:(4294967296:Nat)=2 ^ 32:=rfl;have f:v*2 ^ a<2 ^ (m+a):=by rw[Nat.pow_add];exact Nat.mul_lt_mul_of_pos_right d (Nat.two_pow_pos _)
 have e:2 ^ (m+a)≤2 ^ 32:=Nat.pow_le_pow_right fZ f_;rw[Nat.mod_eq_of_lt (a:=v*2 ^ a) f_];rcases h with h|h
 · have:2 ^ (m+a)≤2 ^ g:=Nat.pow_le_pow_right fZ f_
   rw[Nat.div_eq_of_lt f_,Nat.zero_mod]
 · obtain⟨c,rfl⟩:∃ c,a=g+(k+c):=⟨a - g - k,by omega⟩
   rw[Nat.pow_add,Nat.mul_comm (2 ^ g),←Nat.mul_assoc,Nat.mul_div_cancel _ (Nat.two_pow_pos _),Nat.pow_add,Nat.mul_comm (2 ^ k),←Nat.mul_assoc,Nat.mul_mod_left]
theorem Jw (n fr mn at':Int) (g k:Nat) (h0:0≤mn∧0≤at'∧at'+mn≤32) (h:at'≤g∧(g:Int)+k≤at'+mn):gu (yW ⟨n,fr,mn,at'⟩) g k=(n % 4294967296).toNat / 2 ^ fr.toNat / 2 ^ (g - at'.toNat) % 2 ^ k:=by
 unfold gu yW;simp only;obtain⟨m,rfl⟩:=Int.eq_ofNat_of_zero_le h0.1;obtain⟨a,rfl⟩:=Int.eq_ofNat_of_zero_le h0.2.1;simp only[Int.toNat_natCast] at h ⊢
 generalize (n % 4294967296).toNat / 2 ^ fr.toNat=u;obtain⟨c,rfl⟩:∃ c,g=a+c:=⟨g - a,by omega⟩;obtain⟨e,rfl⟩:∃ e,m=c+(k+e):=⟨m - c - k,by omega⟩;have b:u % 2 ^ (c+(k+e))<2 ^ (c+(k+e)):=Nat.mod_lt _ (Nat.two_pow_pos _);have f:u % 2 ^ (c+(k+e))*2 ^ a<2 ^ (c+(k+e)+a):=by rw[Nat.pow_add _ _ a];exact Nat.mul_lt_mul_of_pos_right b (Nat.two_pow_pos _)
 have d:2 ^ (c+(k+e)+a)≤2 ^ 32:=Nat.pow_le_pow_right fZ f_;rw[Nat.mod_eq_of_lt (a:=_*2 ^ a) f_,Nat.pow_add 2 a c,←Nat.div_div_eq_div_mul,Nat.mul_div_cancel _ (Nat.two_pow_pos _),Nat.add_sub_cancel_left];rw[Nat.pow_add 2 c,Nat.mod_mul_right_div_self,Nat.pow_add 2 k,Nat.mod_mul_right_mod]
def jS (least:Int) (n:Nat) (a:Int):Int:=if least<0∧(n:Int) / 2 ^ (a - 1).toNat≠0 then n - 2 ^ a.toNat else n
def jh (f:Int) (op:Int) (word:Nat):ju:=
 ⟨op,if (jt f).d then (gu word 7 5:Nat) else 0,if (jt f).a then (gu word 15 5:Nat) else 0,if (jt f).b then (gu word 20 5:Nat) else 0,
  jS (jt f).least (jB word (gA f 0)) (kP (gA f 0))⟩
def ig (op:Int) (word:Nat):ju:=jh (gB op).form op word
def BO (word:Nat) (op:Nat):Bool:=kA (ig op word) == 0 && kq (ig op word) == word
def m5:ju:=⟨0,0,0,0,0⟩
def Dg (word:Nat):Option Nat:=(List.range' 1 49).find? (BO word)
def rM (word:Nat):ju:=match Dg word with|some op=>ig op word|none=>m5
def rL (word:Nat):Int:=match Dg word with|some _=>0|none=>20
theorem sR {word op} (h1:1≤op∧op≤49) (h:BO word op=true) (b:∀ o,1≤o→o<op→BO word o=false):rM word=ig op word∧rL word=0:=by
 have:Dg word=some op:=by
  unfold Dg;rw[List.find?_eq_some_iff_append];refine⟨h,List.range' 1 (op - 1),List.range' (op+1) (49 - op),?_,?_⟩
  · rw[show List.range' 1 49=List.range' 1 (op - 1) ++ List.range' op (50 - op) by
     have:=@List.range'_append 1 (op - 1) (50 - op) 1;rw[show 1+1*(op - 1)=op by omega,show op - 1+(50 - op)=49 by omega] at this;exact this.symm]
    rw[show 50 - op=(49 - op)+1 by omega,List.range'_succ]
  · intro o a
    rw[List.mem_range'_1] at a;rw[b o f_ f_];rfl
 unfold rM rL;rw[this];exact⟨rfl,rfl⟩
theorem pW {word} (b:∀ o,1≤o→o<50→BO word o=false):rM word=m5∧rL word=20:=by
 have:Dg word=none:=by
  unfold Dg;rw[List.find?_eq_none];intro o a;rw[List.mem_range'_1] at a;rw[b o f_ f_];simp
 unfold rM rL;rw[this];exact⟨rfl,rfl⟩
set_option linter.unusedSimpArgs false
def AB (k:Nat):Bool:=
 let r:=gB k
 decide (0≤r.low∧r.low<128∧0≤r.mid∧r.mid<8∧0≤r.high∧r.high<128) &&
 decide ((r.form=85∨r.form=74→r.mid=0)∧(r.form=85∨r.form=74∨r.form=73∨r.form=83∨r.form=66∨r.form=70∨r.form=67→r.high=0)∧(r.form=76∨r.form=65→r.high % 4=0)∧(r.form≠90→pH k=0)) &&
 (r.form == 82 || r.form == 73 || r.form == 72 || r.form == 83 || r.form == 66 || r.form == 85 || r.form == 74 || r.form == 70 || r.form == 67 || r.form == 76 || r.form == 65 || r.form == 90)
theorem AC:∀ k:Fin 50,1≤k.val→AB k.val=true:=by decide +kernel
theorem GI {op} (h:1≤op∧op≤49):AB op.toNat=true∧((op.toNat:Nat):Int)=op:=⟨AC ⟨op.toNat,by omega⟩ (by simp;omega),by omega⟩
theorem GL (fr mn at'):yW ⟨0,fr,mn,at'⟩=0:=by simp[yW]
theorem nL (g k):gu 0 g k=0:=by simp[gu]
theorem Ew {x} (h:k_ x=true) :
 (1≤x.op∧x.op≤49)∧(0≤x.d∧x.d<32∧((sy x).d=false→x.d=0))∧(0≤x.a∧x.a<32∧((sy x).a=false→x.a=0))∧(0≤x.b∧x.b<32∧((sy x).b=false→x.b=0)) ∧
 (sy x).least≤x.n∧x.n≤(sy x).most∧((sy x).step=2→x.n % 2=0):=by
 simp only[k_,nc,jk,Bool.and_eq_true,Bool.or_eq_true,decide_eq_true_eq] at h;obtain⟨h0,⟨h1,h2,h3⟩,⟨h4,h5,k⟩,⟨g,i,l⟩,f,j,c⟩:=h;refine⟨h0,⟨h1,h2,fun e=>?_⟩,⟨h4,h5,fun e=>?_⟩,⟨g,i,fun e=>?_⟩,f,j,fun e=>?_⟩
 · simpa[e] using h3
 · simpa[e] using k
 · simpa[e] using l
 · simp only[om,e,if_true,beq_iff_eq] at c
   exact Int.emod_eq_zero_of_dvd (Int.dvd_of_tmod_eq_zero c)
theorem Hy {x} (h:k_ x=true):kq x=(rO x:Nat)∧kA x=0:=by unfold kq kA;rw[h];exact⟨rfl,rfl⟩
theorem Hx {x} (h:k_ x=false):kq x=0∧kA x=1:=by unfold kq kA;rw[h];exact⟨rfl,rfl⟩
end
