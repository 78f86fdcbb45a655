/- What the walks of this statement lean on: shown. -/
import Derived.Test.YtdobddiibgfeaaaGreatZc
set_option linter.all false
set_option maxRecDepth 100000
set_option maxHeartbeats 16000000
namespace Go.Proofs.YtdobddiibgfeaaaGreat
open Value renaming slice→a_,int→b_,agg→e_,pointer→fG,tuple→fI,bool→fJ
open IntKind renaming i64→c_
open Obj renaming cells→d_
open Ending renaming returned→fH
open Go.Proofs.Tryz renaming prog→gd
section
open Go.ChangeShapes Go.RowKit Go.WideShapes
def BJ {α:Type} (P:Program):Sem α→Option α
 | .pure a=>some a
 | .program k=>BJ P (k P)
 | _=>none
theorem He {α:Type} {P e} {x:α} w (h:BJ P e=some x):e.run P w = .ok x w:=by
 induction e with
 | pure a=>simp only[BJ,Option.some.injEq] at h;subst h;rfl
 | program k ih=>simp only[BJ] at h;exact ih P h
 | _=>simp[BJ] at h
def DL {α:Type} (P:Program):Sem α→Option (Obj×(Nat→Option α))
 | .new o k=>some (o,fun r=>BJ P (k r))
 | .program k=>DL P (k P)
 | _=>none
def Eb (P:Program):List Oper→Act→Option Act
 | [],a=>some a
 |
  o :: l,a=>match o.guard,BJ P (execOp a.eval o) with
  | none,some (.value v)=>Eb P l (a.put o.dst v)
  | _,_=>none
theorem GV {P b} {Q:Exit→Act→World→Prop} {w} (n):∀ (l:List Oper) (a a':Act),Eb P (l.take n) a=some a'→wpList P b Q (l.drop n) a' w→wpList P b Q l a w:=by
 induction n with
 | zero=>intro l a a' h1 h2;simp only[List.take_zero,Eb,Option.some.injEq] at h1;subst h1;simpa using h2
 |
  succ n ih=>
  intro l a a' h1 h2;cases l with
  | nil=>simp only[List.take_nil,Eb,Option.some.injEq] at h1;subst h1;simpa using h2
  |
   cons o l=>
   simp only[List.take_succ_cons,Eb] at h1;split at h1
   · rename_i v c d
     refine wpList_plain c fun K e=>?_
     unfold Oper.wp;rw[He w d];exact e _ _ (ih l _ a' h1 (by simpa using h2))
   · cases h1
def Dm {α:Type} (P:Program) (r:Nat):Sem α→Option (Obj×α)
 | .new o k=>(BJ P (k r)).map fun x=>(o,x)
 | .program k=>Dm P r (k P)
 | _=>none
theorem Mz {α:Type} {P e o} {x:α} (w) (h:Dm P w.heap.size e=some (o,x)):e.run P w = .ok x (w.alloc o):=by
 induction e with
 |
  new o' k=>
  simp only[Dm,Option.map_eq_some_iff,Prod.mk.injEq] at h;obtain⟨y,h1,rfl,rfl⟩:=h;exact He _ h1
 | program k ih=>simp only[Dm] at h;exact ih P h
 | _=>simp[Dm] at h
theorem Kd {P c} {Q:Exit→Act→World→Prop} {w o rest a} b (v) (d:o.guard=none)
 (h:Dm P w.heap.size (execOp a.eval o)=some (b,.value v)) (e:wpList P c Q rest (a.put o.dst v) (w.alloc b)):wpList P c Q (o :: rest) a w:=by
 refine wpList_plain d fun K f=>?_
 unfold Oper.wp;rw[Mz w h];exact f _ _ e
def mD (r:Rw):Value:=e_ #[.string r.nm,.int .u8 r.form,b_ c_ r.low,b_ c_ r.mid,b_ c_ r.high]
def Av (r:Rw):List Value:=[.string r.nm,.int .u8 r.form,b_ c_ r.low,b_ c_ r.mid,b_ c_ r.high]
def iP (k:Nat):Value:=mD (DQ.getD k ng)
def xM:Array Value:=(DQ.flatMap Av).toArray
theorem DC (l:List Rw):∀ (i:Nat) (h:i<l.length) (j:Nat),j<5→(l.flatMap Av)[i*5+j]? = (Av l[i])[j]?:=by
 induction l with
 | nil=>intro i h;simp at h
 |
  cons p l ih=>
  intro i h j a;cases i with
  | zero=>simp only[List.flatMap_cons,List.getElem_cons_zero];rw[List.getElem?_append_left (by simp[Av];omega)];simp
  |
   succ i=>
   rw[List.flatMap_cons,List.getElem?_append_right (by simp[Av];omega)];rw[show (i+1)*5+j - (Av p).length=i*5+j by simp[Av];omega];exact ih i (by simpa using h) j a
theorem DY k (h:k<49) (j:Nat) (a:j<5):xM[k*5+j]? = (Av (gB ((k:Int)+1)))[j]?:=by
 have e:gB ((k:Int)+1)=DQ[k]'(by show k<49;exact h):=by
  unfold gB;rw[if_pos f_,show ((k:Int)+1 - 1).toNat=k by omega,List.getD_eq_getElem?_getD,fQ (by show k<49;exact h)];rfl
 rw[e];unfold xM;rw[List.getElem?_toArray];exact DC DQ k (by show k<49;exact h) j a
theorem Lj (k:Nat) w (h:k<49) :
 Calls gd 62 #[b_ c_ ((k:Int)+1)] w fun e w'=>e =fH (mD (gB ((k:Int)+1)))∧Up w w':=by
 have c:decide ((k:Int)+1<1)=false:=by simp;omega
 have d:decide (49<(k:Int)+1)=false:=by simp;omega
 have a0:=DY k h 0 f_;have a1:=DY k h 1 f_;have a2:=DY k h 2 f_;have a3:=DY k h 3 f_;have a4:=DY k h 4 f_;generalize a:gB ((k:Int)+1)=r at *
 have b:=gg a;clear a;simp only[Av,List.getElem?_cons_zero,List.getElem?_cons_succ,Nat.add_zero] at a0 a1 a2 a3 a4;go_in;go_upto_region 3 with(fail)
 apply wp_region_lit;refine GV 49 _ _ ⟨#[(b_ c_ ((k:Int)+1)),undef,(fG (some ⟨w.heap.size,0,none⟩)),(b_ c_ ((k:Int)+1)),(fJ false),(fJ false),(b_ c_ ((k:Int)+1)),(fJ false),(fJ false),undef,(iP 0),(iP 1),(iP 2),(iP 3),(iP 4),(iP 5),(iP 6),(iP 7),(iP 8),(iP 9),(iP 10),(iP 11),(iP 12),(iP 13),(iP 14),(iP 15),(iP 16),(iP 17),(iP 18),(iP 19),(iP 20),(iP 21),(iP 22),(iP 23),(iP 24),(iP 25),(iP 26),(iP 27),(iP 28),(iP 29),(iP 30),(iP 31),(iP 32),(iP 33),(iP 34),(iP 35),(iP 36),(iP 37),(iP 38),(iP 39),(iP 40),(iP 41),(iP 42),(iP 43),(iP 44),(iP 45),(iP 46),(iP 47),(iP 48),undef,undef,undef,undef,undef],[]⟩ ga ?_
 simp only[List.drop_succ_cons,List.drop_zero];refine Kd (d_ xM 111) (a_ (some ⟨(w.alloc (d_ #[.string ⟨#[]⟩,.int .u8 0,b_ c_ 0,b_ c_ 0,b_ c_ 0] 111)).heap.size,0,none⟩) 49 49) rfl ga ?_
 rw[World.size_alloc]
 go_wp2_with fail
 refine bodyPost_ret (v:=mD r) (by simp[results,Tryz.results62,go_sem,mD]) rfl ⟨rfl,zB⟩
theorem ML op w (h:op<1∨49<op) :
 Calls gd 62 #[b_ c_ op] w fun e w'=>e =fH (mD ng)∧Up w w':=by
 rcases h with h|h
 · have a:decide (op<1)=true:=by simp;omega
   clear h;go_in
   go_wp2_with fail
   refine bodyPost_ret (v:=mD ng) (by simp[results,Tryz.results62,go_sem,mD,ng]) rfl ⟨rfl,zB⟩
 · have a:decide (op<1)=false:=by simp;omega
   have b:decide (49<op)=true:=by simp;omega
   clear h;go_in
   go_wp2_with fail
   refine bodyPost_ret (v:=mD ng) (by simp[results,Tryz.results62,go_sem,mD,ng]) rfl ⟨rfl,zB⟩
theorem pA op (w) :
 Calls gd 62 #[b_ c_ op] w fun e w'=>e =fH (mD (gB op))∧Up w w':=by
 by_cases h:1≤op∧op≤49
 · obtain⟨k,rfl⟩:∃ k:Nat,op=(k:Int)+1:=⟨(op - 1).toNat,by omega⟩
   exact Lj k w f_
 · rw[ET h];exact ML op w f_
def F8 (x:ju):Prop:=iy x.op∧iy x.d∧iy x.a∧iy x.b∧iy x.n
theorem Ei c n w (b:iy c) (a:0<n∧n≤9223372036854775807) :
 Calls gd 70 #[b_ c_ c,b_ c_ n] w fun e w'=>e =fH (b_ c_ (gT c n))∧w=w':=by
 have f:(n == 0)=false:=by simp;omega
 have d:=mL c n a.1;by_cases h:c<0
 · have E:=gg (Im c n h)
   go_in;go_wp2;go_ret;exact⟨by rw[←E.o];rfl,rfl⟩
 · have E:=gg (Il c n h)
   go_in;go_wp2;go_ret;exact⟨by rw[←E.o];rfl,rfl⟩
def Cg (f:Int) (op:Int) (x:ju):ju:=
 ⟨op,if (jt f).d then gT x.d 32 else 0,if (jt f).a then gT x.a 32 else 0,if (jt f).b then gT x.b 32 else 0,
  if f=73 then gT x.n 4096 - 2048 else if f=83 then gT x.n 4096 - 2048 else if f=72 then gT x.n 32 else if f=66 then 2*gT x.n 4096 - 4096 else if f=85 then gT x.n 1048576
  else if f=74 then 2*gT x.n 1048576 - 1048576 else if f=70 then gT x.n 256 else if f=67 then gT x.n 4096 else if f=76 then gT x.n 4 else if f=65 then gT x.n 4 else 0⟩
def t_ (x:ju):ju:=Cg (gB (1+gT x.op 49)).form (1+gT x.op 49) x
def mr (f:Int):Prop:=f=82∨f=73∨f=72∨f=83∨f=66∨f=85∨f=74∨f=70∨f=67∨f=76∨f=65∨f=90
theorem Dj op (h:1≤op∧op≤49):mr (gB op).form:=by
 obtain⟨k,rfl,a⟩:∃ k:Nat,op=k∧1≤k∧k≤49:=⟨op.toNat,by omega,by omega,by omega⟩;have:∀ k:Fin 50,1≤k.val→((gB (k.val:Int)).form=82∨(gB (k.val:Int)).form=73∨(gB (k.val:Int)).form=72∨(gB (k.val:Int)).form=83∨(gB (k.val:Int)).form=66∨(gB (k.val:Int)).form=85∨(gB (k.val:Int)).form=74∨(gB (k.val:Int)).form=70∨(gB (k.val:Int)).form=67∨(gB (k.val:Int)).form=76∨(gB (k.val:Int)).form=65∨(gB (k.val:Int)).form=90):=by decide +kernel
 exact this ⟨k,by omega⟩ a.1
theorem uX nm f c b a (w):(Instr.field 111 (e_ #[.string nm,.int .u8 f,b_ c_ c,b_ c_ b,b_ c_ a]) 1).run gd w = .ok (.int .u8 f) w:=by kernel_rfl
theorem zH x w (h:F8 x) :
 Calls gd 35 #[gK x] w fun e w'=>e =fH (gK (t_ x))∧Up w w':=by
 obtain⟨op,d,a,b,n⟩:=x;obtain⟨h0,h1,h2,h3,h4⟩:=h;simp only at h0 h1 h2 h3 h4;have o:=gg h0;have k:=gg h1;have p:=gg h2;have l:=gg h3;have s:=gg h4;clear h0 h1 h2 h3 h4;have I:=mL op 49 f_;have c:=Dj (1+gT op 49) f_;have j:gi (t_ ⟨op,d,a,b,n⟩=Cg (gB (1+gT op 49)).form (1+gT op 49) ⟨op,d,a,b,n⟩):=rfl;generalize g:gB (1+gT op 49)=r at *
 have u:=gg g;clear g;obtain⟨nm,f,q,m,t⟩:=r;simp only at c j;have E:=mL d 32 f_;have z:=mL a 32 f_;have B:=mL b 32 f_;have K:=mL n 4096 f_;have D:=mL n 32 f_;have A:=mL n 1048576 f_;have F:=mL n 256 f_;have H:=mL n 4 f_;unfold gK;rcases c with rfl|rfl|rfl|rfl|rfl|rfl|rfl|rfl|rfl|rfl|rfl|rfl
 all_goals
  go_in
  go_wp2_with (go_at_call 70;((with_reducible refine(Ei op 49 _ o.o f_).mono ?_);rintro e w' ⟨rfl,rfl⟩))
  refine(pA _ _).mono ?_
  rw[u.o];rintro e w1 ⟨rfl,i⟩;obtain⟨c1,f1⟩:=jR i;have C:w.heap.size+1+1<w1.heap.size:=by have:=i.size;simp at this;omega
  have y:w.heap.size+1<w1.heap.size:=by omega
  have G:w.heap.size<w1.heap.size:=by omega
  unfold mD;have J:=fun f=>uX nm f q m t w1
  go_wp2_with (go_at_call 70;(first|((with_reducible refine(Ei d 32 _ k.o f_).mono ?_);rintro e w' ⟨rfl,rfl⟩)|((with_reducible refine(Ei a 32 _ p.o f_).mono ?_);rintro e w' ⟨rfl,rfl⟩)|((with_reducible refine(Ei b 32 _ l.o f_).mono ?_);rintro e w' ⟨rfl,rfl⟩)|((with_reducible refine(Ei n _ _ s.o f_).mono ?_);rintro e w' ⟨rfl,rfl⟩)))
  refine bodyPost_ret (v:=gK (Cg _ (1+gT op 49) ⟨op,d,a,b,n⟩)) ?_ rfl ⟨by rw[j.o];rfl,zB⟩;simp[results,Tryz.results35,go_sem,c1]
  rfl
end
section
open Go.RowKit
def Ba (f c:Int):Bool:=if c=68 then (jt f).d else if c=65 then (jt f).a else (jt f).b
theorem qb f c w (b:mr f) (a:c=68∨c=65∨c=66) :
    Calls gd 104 #[.int .u8 f,.int .u8 c] w fun e w'=>e =fH (fJ (Ba f c))∧w=w':=by
  rcases b with rfl|rfl|rfl|rfl|rfl|rfl|rfl|rfl|rfl|rfl|rfl|rfl <;> rcases a with rfl|rfl|rfl
  all_goals
    go_in
    go_wp2;refine wp_loop_rounds 5 ?_
    rw[rounds_succ];go_wp2
    iterate 4 (try (rw[rounds_succ];go_wp2))
    go_ret;exact⟨rfl,rfl⟩
theorem JX n a (w) :
    Calls gd 103 #[b_ c_ n,fJ a] w fun e w'=>e =fH (fJ (jk n a))∧w=w':=by
  cases h0:(n == 0) <;> cases a <;> cases h1:decide (0<n) <;> cases h2:decide (n<32)
  all_goals first
    | (exfalso;simp at h0 h1 h2;omega)
    | (go_in
       go_wp2;go_ret;exact⟨tE (by unfold jk;rw[h0,h2];simp at h0 h1 h2 ⊢;try omega),rfl⟩)
theorem sz n m w (a:m=12∨m=13∨m=21) (b:0≤n∧n<4294967296) :
    Calls gd 171 #[b_ c_ n,b_ c_ m] w fun e w'=>e =fH (b_ c_ (if 2 ^ (m.toNat - 1)≤n then n - 2 ^ m.toNat else n))∧w=w':=by
  have h1:=Int.le_total 2048 n;have h2:=Int.le_total 4096 n;have h3:=Int.le_total 1048576 n;rcases a with rfl|rfl|rfl
  all_goals
    go_in
    go_wp2
  all_goals
    go_ret;exact⟨Eo (by simp <;> omega),rfl⟩
def rU (f n:Int):Bool:=decide ((jt f).least≤n) && (decide (n≤(jt f).most) && om n (jt f).step)
theorem JY f n w (c:mr f) :
    Calls gd 105 #[.int .u8 f,b_ c_ n] w fun e w'=>e =fH (fJ (rU f n))∧w=w':=by
  obtain⟨R,a⟩:∃ R,R=rU f n:=⟨_,rfl⟩;rw[←a];have b:=gg a;clear a;rcases c with rfl|rfl|rfl|rfl|rfl|rfl|rfl|rfl|rfl|rfl|rfl|rfl
  all_goals
    go_in
    go_wp2
  all_goals
    go_ret;refine⟨tE ?_,rfl⟩;rw[b.o,Bool.eq_iff_iff]
    simp_all [rU,jt,om]
    try omega
theorem vy (u:Int) fr mn (h:0≤u∧u<4294967296):(u / 2 ^ fr).tmod ((2 ^ mn:Nat):Int)=((gu u.toNat fr mn:Nat):Int):=by
  obtain⟨k,rfl⟩:=Int.eq_ofNat_of_zero_le h.1;rw[AX,←Int.natCast_ediv,Int.tmod_eq_emod_of_nonneg (Int.natCast_nonneg _),←Int.natCast_emod]
  rfl
theorem pV n (fr mn:Nat) w (_:iy n) (h:fr<32) (c:mn<32) :
    Calls gd 63 #[b_ c_ n,b_ c_ fr,b_ c_ mn] w fun e w'=>e =fH (b_ c_ (gu (n % 4294967296).toNat fr mn:Nat)) ∧ ∃ q,w'=w.drewN q:=by
  have E:=gg (vy (n % 4294967296) fr mn f_);have b:=EL mn c;have f:0<2 ^ mn:=Nat.two_pow_pos mn
  have k:n.tmod 4294967296=n % 4294967296∧0≤n % 4294967296∨n.tmod 4294967296=n % 4294967296 - 4294967296∧n % 4294967296 - 4294967296<0:=by
    rw[Int.tmod_eq_emod];split <;> omega
  have d:wrap64 (n % 4294967296)=n % 4294967296:=by unfold wrap64;omega
  generalize n % 4294967296=u at *
  obtain⟨P,a⟩:∃ P:Nat,P=2 ^ mn:=⟨_,rfl⟩;rw[←a] at E b f;have ep:c_.wrap (2 ^ mn)=(P:Int):=by rw[AX,←a];exact IntWalk.i64_in _ f_
  have g:((P:Int) == 0)=false:=by simp;omega
  clear a;rcases k with⟨k,h0⟩|⟨k,h0⟩
  all_goals
    go_in
    go_wp2;clear k
    go_quiet (fail)
    go_wp2;go_ret;exact⟨Eo (by simpa[d] using E.o),_,rfl⟩
theorem vO {s:ByteArray} (h:s≠⟨#[]⟩):s.toList.isEmpty=false:=by
  rw[ByteArray.toList_eq];obtain⟨⟨l⟩⟩:=s;cases l with
  | nil=>exact absurd rfl h
  | cons a l=>rfl
theorem KR:∀ i:Fin 50,1≤i.val→(gB i.val).nm≠⟨#[]⟩:=by decide +kernel
theorem KT op (h:1≤op∧op≤49):(gB op).nm.toList.isEmpty=false:=by
  have s:=KR ⟨op.toNat,by omega⟩ (by simp;omega);rw[show ((op.toNat:Nat):Int)=op by omega] at s;exact vO s
theorem FT f c r w (g:mr f) (d:c=68∨c=65∨c=66) (h:Ba f c=r) :
    Calls gd 104 #[.int .u8 f,.int .u8 c] w fun e w'=>e =fH (fJ r)∧w'=w:=by
  subst h;exact(qb f c w g d).mono fun _ _ ⟨a,b⟩=>⟨a,b.symm⟩
theorem Fr n c r w (d:jk n c=r) :
    Calls gd 103 #[b_ c_ n,fJ c] w fun e w'=>e =fH (fJ r)∧w'=w:=by
  subst d;exact(JX n c w).mono fun _ _ ⟨a,b⟩=>⟨a,b.symm⟩
theorem Lq f n r w (c:mr f) (d:rU f n=r) :
    Calls gd 105 #[.int .u8 f,b_ c_ n] w fun e w'=>e =fH (fJ r)∧w'=w:=by
  subst d;exact(JY f n w c).mono fun _ _ ⟨a,b⟩=>⟨a,b.symm⟩
theorem Iw (x):k_ x=(nc x.op && (jk x.d (Ba (gB x.op).form 68) && (jk x.a (Ba (gB x.op).form 65) && (jk x.b (Ba (gB x.op).form 66) && rU (gB x.op).form x.n)))):=rfl
theorem Ie x (w) :
    Calls gd 61 #[gK x] w fun e w'=>e =fH (fJ (k_ x))∧Up w w':=by
  obtain⟨op,d,a,b,n⟩:=x;have c:=gg (Iw ⟨op,d,a,b,n⟩);simp only at c;unfold gK;by_cases h0:1≤op∧op≤49
  · have s:=KT op h0
    rw[Ga h0] at c;have g:=gg (Dj op h0);generalize k_ ⟨op,d,a,b,n⟩=rr at *
    generalize l:gB op=r at *
    have i:=gg l;clear l h0;obtain⟨nm,f,A,z,B⟩:=r;simp only at s c g;generalize k:Ba f 68=sd,h65:Ba f 65=sa,h66:Ba f 66=sb at *
    have u:=gg k;have q:=gg h65;have y:=gg h66;clear k h65 h66;cases h1:jk d sd
    case' true=>cases h2:jk a sa
    case' true.true=>cases h3:jk b sb
    case' true.true.true=>cases h4:rU f n
    all_goals
      rw[h1] at c
      try rw[h2] at c
      try rw[h3] at c
      try rw[h4] at c
      have m:=gg h1
      try have t:=gg h2
      try have o:=gg h3
      try have v:=gg h4
      go_in
      go_wp2_with fail
      refine(pA op _).mono ?_
      rw[i.o];rintro e w1 ⟨rfl,h⟩;obtain⟨c1,f1⟩:=jR h;have j:=h.size
      try simp at j
      have p:w.heap.size<w1.heap.size:=by omega
      unfold mD;clear h1;try clear h2
      try clear h3
      try clear h4
      go_wp2_with fail
      go_quiet ((first|(go_at_call 104;with_reducible first|exact Calls.quiet_of_same (FT f 68 sd _ g.o gb u.o)|exact Calls.quiet_of_same (FT f 65 sa _ g.o gb q.o)|exact Calls.quiet_of_same (FT f 66 sb _ g.o gb y.o))|(go_at_call 103;with_reducible first|exact Calls.quiet_of_same (Fr d sd _ _ m.o)|exact Calls.quiet_of_same (Fr a sa _ _ t.o)|exact Calls.quiet_of_same (Fr b sb _ _ o.o))|(go_at_call 105;with_reducible exact Calls.quiet_of_same (Lq f n _ _ g.o v.o))))
      go_wp2
      go_ret;exact⟨tE (c.o.trans gb).symm,lJ (by repeat(first|(with_reducible exact Below.refl _ _)|(with_reducible refine gO ?_ ?_ _)|(with_reducible apply iS)|(with_reducible refine gj ?_ (by with_reducible assumption))|(with_reducible apply iR)|omega)) _⟩
  · rw[Ef h0] at c
    generalize k_ ⟨op,d,a,b,n⟩=rr at *
    have i:=gg (ET h0);clear h0
    go_in
    go_wp2_with fail
    refine(pA op _).mono ?_
    rw[i.o];rintro e w1 ⟨rfl,h⟩;obtain⟨c1,f1⟩:=jR h;have j:=h.size
    try simp at j
    have p:w.heap.size<w1.heap.size:=by omega
    unfold mD ng
    go_wp2
    go_ret;exact⟨tE c.o.symm,(by repeat(first|(with_reducible exact Below.refl _ _)|(with_reducible refine gO ?_ ?_ _)|(with_reducible apply iS)|(with_reducible refine gj ?_ (by with_reducible assumption))|(with_reducible apply iR)|omega))⟩
theorem GO (op):0≤pH op∧pH op≤5:=by
  unfold pH;repeat' split
  all_goals omega
theorem Lx (f):-1048576≤(jt f).least∧(jt f).most≤1048575:=by
  unfold jt;repeat' split
  all_goals simp
theorem JP {x} (h:k_ x=true):iy x.n:=by
  obtain⟨_,_,_,_,h1,h2,_⟩:=Ew h;have:=Lx (gB x.op).form;unfold sy at h1 h2;exact⟨by omega,by omega⟩
/-- An instruction's word,form by form. -/
def fB (n:Int) (i j:Nat):Int:=((gu (n % 4294967296).toNat i j:Nat):Int)
def B_ (f c e g h d a b n:Int):Int:=
  if f=82 then c+e*4096+a*32768+d*128+b*1048576+g*33554432 else if f=73∨f=67 then c+e*4096+a*32768+d*128+fB n 0 12*1048576 else if f=72 then c+e*4096+a*32768+d*128+n*1048576+g*33554432
  else if f=83 then c+e*4096+a*32768+fB n 0 5*128+b*1048576+fB n 5 7*33554432 else if f=66 then c+e*4096+a*32768+fB n 11 1*128+fB n 1 4*256+b*1048576+fB n 5 6*33554432+fB n 12 1*2147483648
  else if f=85 then c+d*128+n*4096 else if f=74 then c+d*128+fB n 12 8*4096+fB n 11 1*1048576+fB n 1 10*2097152+fB n 20 1*2147483648
  else if f=70 then c+e*4096+a*32768+n*1048576 else if f=90 then c+e*4096+a*32768+g*33554432+h*1048576 else c+e*4096+a*32768+d*128+b*1048576+(g+n)*33554432
def sA (V:Nat):List (Nat×Nat)→Nat
  | []=>0
  | q :: l=>gu V q.1 q.2*2 ^ q.1+sA V l
theorem qS V g k (l):sA V ((g,k) :: l)=gu V g k*2 ^ g+sA V l:=by rw[sA]
theorem qR (V):sA V []=0:=by rw[sA]
theorem Jr {x:Nat} (h:x<4294967296):((x:Int) % 4294967296).toNat=x:=by omega
def vF (f:Int):List (Nat×Nat):=
  if f=85 then [(0,7),(7,5),(12,20)] else if f=74 then [(0,7),(7,5),(12,8),(20,1),(21,10),(31,1)] else if f=66 then [(0,7),(7,1),(8,4),(12,3),(15,5),(20,5),(25,6),(31,1)]
  else [(0,7),(7,5),(12,3),(15,5)] ++ if f=70 then [(20,8),(28,4)] else if f=73∨f=67 then [(20,12)] else if f=76∨f=65 then [(20,5),(25,2),(27,5)] else [(20,5),(25,7)]
theorem Fo x (h:k_ x=true):((rO x:Nat):Int)=B_ (gB x.op).form (gB x.op).low (gB x.op).mid (gB x.op).high (pH x.op) x.d x.a x.b x.n:=by
  obtain⟨h0,i,c,e,D,v,F⟩:=Ew h;obtain⟨C,o⟩:=GI h0;have K:=GO x.op;have G:=Dj _ h0;clear h;simp only[AB,o,Bool.and_eq_true,decide_eq_true_eq,Bool.or_eq_true,beq_iff_eq] at C;obtain⟨⟨l,z,w,J,B⟩,I⟩:=C;clear I;unfold rO Dc;unfold sy at i c e D v F;obtain⟨op,d,a,b,n⟩:=x;simp only at *
  generalize gB op=r at *
  obtain⟨nm,f,m,k,j⟩:=r;simp only at *
  generalize pH op=fx at *
  clear o h0;have L:=Ey ([⟨m,0,7,0⟩,⟨k,0,3,12⟩,⟨j,0,7,25⟩,⟨d,0,5,7⟩,⟨a,0,5,15⟩,⟨b+fx,0,5,20⟩] ++ gA f n);generalize y:l_ _=V at *
  have E:∀ q∈vF f,gu (l_ ([⟨m,0,7,0⟩,⟨k,0,3,12⟩,⟨j,0,7,25⟩,⟨d,0,5,7⟩,⟨a,0,5,15⟩,⟨b+fx,0,5,20⟩] ++ gA f n)) q.1 q.2=gu V q.1 q.2:=fun q _=>by rw[y]
  obtain⟨cs,g⟩:∃ cs,vF f=cs:=⟨_,rfl⟩;rw[g] at E;clear y;rcases G with rfl|rfl|rfl|rfl|rfl|rfl|rfl|rfl|rfl|rfl|rfl|rfl
  all_goals
    simp[jt] at i c e D v F z w J B
    try (obtain⟨_,_,rfl⟩:=i)
    try (obtain⟨_,_,rfl⟩:=c)
    try (obtain⟨_,_,rfl⟩:=e)
    try subst z
    try subst w
    try subst B
    obtain⟨u,A⟩:∃ u,(n % 4294967296).toNat=u:=⟨_,rfl⟩;obtain⟨m,rfl⟩:=Int.eq_ofNat_of_zero_le l.1
    try obtain⟨k,rfl⟩:=Int.eq_ofNat_of_zero_le l.2.2.1
    try obtain⟨j,rfl⟩:=Int.eq_ofNat_of_zero_le l.2.2.2.2.1
    try obtain⟨d,rfl⟩:=Int.eq_ofNat_of_zero_le i.1
    try obtain⟨a,rfl⟩:=Int.eq_ofNat_of_zero_le c.1
    try obtain⟨b,rfl⟩:=Int.eq_ofNat_of_zero_le e.1
    simp only[vF,if_true,if_false,Int.reduceEq,or_self,or_true,true_or,List.cons_append,List.nil_append] at g
    have H:V=sA V cs:=by
      clear E;subst g;simp only[qS,qR,gu,Nat.reducePow,Nat.div_one];omega
    subst g;simp only[qS,qR,Nat.reducePow] at H;simp only[if_true,if_false,Int.reduceEq,List.cons_append,List.nil_append,List.forall_mem_cons,gA,l_] at E;simp[Ex,Jv,GL,nL] at E
    try simp(disch:=decide) only[Ju,Jw,GL,nL,Nat.or_zero,Nat.zero_or] at E
    try simp only[Int.reduceToNat,Nat.reducePow,Nat.reduceSub,Nat.div_one,Nat.reduceMul,Nat.mul_one] at E
    try simp(disch:=omega) only[Jr,Nat.mod_eq_of_lt] at E
    try rw[show j % 4=0 by omega,Nat.zero_or] at E
    try rw[A] at E
    simp only[B_,if_true,if_false,Int.reduceEq,or_self,or_true,true_or,false_or,or_false]
    try simp only[fB,A,gu,Nat.reducePow,Nat.div_one]
    try simp(disch:=omega) only[Nat.mod_eq_of_lt] at E ⊢
    try generalize u % 4096=t at *
    try generalize u % 32=t at *
    try generalize u / 32 % 128=s at *
    try generalize u / 32 % 64=s at *
    try generalize u / 2048 % 2=t at *
    try generalize u / 2 % 16=r at *
    try generalize u / 2 % 1024=r at *
    try generalize u / 4096 % 2=q at *
    try generalize u / 4096 % 256=q at *
    try generalize u / 1048576 % 2=p at *
    omega
theorem JA {k a b} (h:a=b):Value.int k a = .int k b:=by rw[h]
theorem JB {a b c d} (h:a=c) (e:b=d):Ending.returned (fI #[a,b]) =fH (fI #[c,d]):=by rw[h,e]
theorem GM op d a b n r w (c:k_ ⟨op,d,a,b,n⟩=r) :
    Calls gd 61 #[e_ #[b_ c_ op,b_ c_ d,b_ c_ a,b_ c_ b,b_ c_ n]] w fun e w'=>e =fH (fJ r)∧Up w w':=by subst c;exact Ie ⟨op,d,a,b,n⟩ w
theorem yJ (n a b:Int) (fr mn:Nat) w (c:iy n) (g:a=fr) (f:b=mn) (d:fr<32) (h:mn<32) :
    Calls gd 63 #[b_ c_ n,b_ c_ a,b_ c_ b] w fun e w'=>e =fH (b_ c_ (gu (n % 4294967296).toNat fr mn:Nat)) ∧ ∃ q,w'=w.drewN q:=by subst g f;exact pV n fr mn w c d h
theorem Hb x (w) :
    Calls gd 25 #[gK x] w fun e w'=>e =fH (fI #[b_ c_ (kq x),b_ c_ (kA x)])∧Up w w':=by
  cases c:k_ x
  case false=>
    rw[(Hx c).1,(Hx c).2];obtain⟨op,d,a,b,n⟩:=x;have l:=gg c;clear c;unfold gK
    go_in
    go_wp2_with fail
    refine(GM _ _ _ _ _ false _ l.o).mono ?_
    rintro e w1 ⟨rfl,k⟩;obtain⟨c1,f1⟩:=jR k;have s:=k.size
    try simp at s
    have I:w.heap.size<w1.heap.size:=by omega
    go_wp2_with fail
    go_ret2
    exact⟨rfl,(by repeat(first|(with_reducible exact Below.refl _ _)|(with_reducible refine gO ?_ ?_ _)|(with_reducible apply iS)|(with_reducible refine gj ?_ (by with_reducible assumption))|(with_reducible apply iR)|omega))⟩
  case true=>
    rw[(Hy c).1,(Hy c).2];obtain⟨h0,q,m,o,C,t,D⟩:=Ew c;obtain⟨z,u⟩:=GI h0;have G:=Dj _ h0;simp only[AB,u,Bool.and_eq_true,decide_eq_true_eq,Bool.or_eq_true,beq_iff_eq] at z;obtain⟨⟨Y,y,v,R,N⟩,O⟩:=z;clear O;have B:=gg (Fo x c);have W:=GO x.op;unfold sy at q m o C t D;have g:=gg (JP c);obtain⟨op,d,a,b,n⟩:=x;simp only at *
    generalize A:gB op=r at *
    obtain⟨nm,f,Z,X,hi⟩:=r;simp only at *
    have E:=gg A;have l:=gg c;clear A c u;rcases G with rfl|rfl|rfl|rfl|rfl|rfl|rfl|rfl|rfl|rfl|rfl|rfl
    all_goals
      simp[jt] at q m o C t D y v R N
      try (obtain⟨_,_,rfl⟩:=q)
      try (obtain⟨_,_,rfl⟩:=m)
      try (obtain⟨_,_,rfl⟩:=o)
      try subst y
      try subst v
      unfold gK
      go_in
      go_wp2_with fail
      refine(GM _ _ _ _ _ true _ l.o).mono ?_
      rintro e w1 ⟨rfl,k⟩;obtain⟨c1,f1⟩:=jR k;have s:=k.size
      try simp at s
      have I:w.heap.size<w1.heap.size:=by omega
      go_wp2_with fail
      refine(pA op _).mono ?_
      rw[E.o];rintro e w2 ⟨rfl,p⟩;obtain⟨V,f2⟩:=jR p;have T:=p.size
      try simp at T
      have aa:w.heap.size<w2.heap.size:=by omega
      unfold mD
      go_wp2_with fail
      all_goals first|go_ret2|(go_quiet ((go_at_call 63;with_reducible first|exact Calls.quiet_of (yJ n 0 12 0 12 _ g.o rfl rfl fZ fZ)|exact Calls.quiet_of (yJ n 0 5 0 5 _ g.o rfl rfl fZ fZ)|exact Calls.quiet_of (yJ n 5 7 5 7 _ g.o rfl rfl fZ fZ)|exact Calls.quiet_of (yJ n 11 1 11 1 _ g.o rfl rfl fZ fZ)|exact Calls.quiet_of (yJ n 1 4 1 4 _ g.o rfl rfl fZ fZ)|exact Calls.quiet_of (yJ n 5 6 5 6 _ g.o rfl rfl fZ fZ)|exact Calls.quiet_of (yJ n 12 1 12 1 _ g.o rfl rfl fZ fZ)|exact Calls.quiet_of (yJ n 12 8 12 8 _ g.o rfl rfl fZ fZ)|exact Calls.quiet_of (yJ n 1 10 1 10 _ g.o rfl rfl fZ fZ)|exact Calls.quiet_of (yJ n 20 1 20 1 _ g.o rfl rfl fZ fZ)));go_wp2_with fail;go_ret2)
    all_goals
      refine⟨JB (JA ?_) rfl,(by(try with_reducible refine lJ ?_ _);exact(by repeat(first|(with_reducible exact Below.refl _ _)|(with_reducible refine gO ?_ ?_ _)|(with_reducible apply iS)|(with_reducible refine gj ?_ (by with_reducible assumption))|(with_reducible apply iR)|omega)))⟩;refine Eq.trans ?_ B.o.symm;have h:=fun i j=>kC (n % 4294967296).toNat i j
      have U:=h 0 12;have F:=h 0 5;have S:=h 5 7;have K:=h 11 1;have L:=h 1 4;have H:=h 5 6;have M:=h 12 1;have Q:=h 12 8;have J:=h 1 10;have P:=h 20 1;clear h;simp only[Nat.reducePow] at U F S K L H M Q J P;simp only[B_,fB,if_true,if_false,Int.reduceEq,or_self,or_true,true_or,false_or,or_false]
      all_goals clear B g l E h0 k p c1 V f1 f2
      all_goals generalize gu (n % 4294967296).toNat 0 12=t0,gu (n % 4294967296).toNat 0 5=t1,gu (n % 4294967296).toNat 5 7=t2,gu (n % 4294967296).toNat 11 1=t3,gu (n % 4294967296).toNat 1 4=t4,gu (n % 4294967296).toNat 5 6=t5,gu (n % 4294967296).toNat 12 1=t6,gu (n % 4294967296).toNat 12 8=t7,gu (n % 4294967296).toNat 1 10=t8,gu (n % 4294967296).toNat 20 1=t9 at *
      try simp(disch:=omega) only[IntWalk.wrap64_in]
      all_goals first|omega|(simp_all [pH];try omega)
end
