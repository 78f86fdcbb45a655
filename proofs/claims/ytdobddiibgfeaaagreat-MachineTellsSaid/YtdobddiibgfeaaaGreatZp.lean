/- What the walks of this statement lean on: shown. -/
import Derived.Test.YtdobddiibgfeaaaGreatZe
import Derived.Test.YtdobddiibgfeaaaGreatZk
import Derived.Test.YtdobddiibgfeaaaGreatZn
import Derived.Deep.Upon
set_option linter.all false
set_option maxRecDepth 100000
set_option maxHeartbeats 16000000
namespace Go.Proofs.YtdobddiibgfeaaaGreat
open Value renaming slice→a_,int→b_,agg→e_,pointer→fG,tuple→fI,bool→fJ
open IntKind renaming i64→c_
open Obj renaming cells→d_
open Ending renaming returned→fH
open Go.Proofs.Tryz renaming prog→gd
section
open Go.RowKit
section
section
variable {α:Type} {f:α→List Value} {k:Nat}
def iC (f:α→List Value) (l:List α):List Value:=l.flatMap f
theorem EE {l} (a:∀ x∈l,(f x).length=k):(iC f l).length=l.length*k:=by
 induction l with
 | nil=>simp[iC]
 |
  cons x l ih=>
  have:=ih fun y b=>a y (by simp[b])
  simp only[iC,List.flatMap_cons,List.length_append,List.length_cons] at this ⊢
  rw[this,a x gb,Nat.succ_mul];omega
theorem rz (l l'):iC f (l ++ l')=iC f l ++ iC f l':=by simp[iC]
theorem DW {l} (h:∀ x∈l,∀ u∈f x,u.oneCell'=true):∀ u∈iC f l,u.oneCell'=true:=by
 intro u a;simp only[iC,List.mem_flatMap] at a;obtain⟨x,b,a⟩:=a;exact h x b u a
theorem lI {l} (b:∀ x∈l,(f x).length=k) {i} {x} (a:l[i]? = some x) {j} (g:j<k):(iC f l)[i*k+j]? = (f x)[j]?:=by
 induction l generalizing i with
 | nil=>simp at a
 |
  cons y l ih=>
  have e:=b y gb;have c:=fun z d=>b z (by simp only[List.mem_cons];exact .inr d)
  cases i with
  |
   zero=>
   simp at a;subst a;simp only[iC,List.flatMap_cons,Nat.zero_mul,Nat.zero_add];rw[List.getElem?_append_left f_]
  |
   succ i=>
   simp only[List.getElem?_cons_succ] at a;rw[←ih c a];simp only[iC,List.flatMap_cons];rw[List.getElem?_append_right (by rw[Nat.succ_mul];omega)];congr 1;rw[Nat.succ_mul];omega
def Dn (xs:List Value) (o:Nat):List Value→List Value
 | []=>xs
 | v :: r=>Dn (xs.set o v) (o+1) r
theorem Ly (a):∀ (xs:List Value) (o j:Nat),o+a.length≤xs.length→(Dn xs o a)[j]? = if o≤j∧j<o+a.length then a[j - o]? else xs[j]?:=by
 induction a with
 | nil=>intro xs o j _;simp only[Dn,List.length_nil,Nat.add_zero];rw[if_neg f_]
 |
  cons v r ih=>
  intro xs o j h;simp only[List.length_cons] at h;simp only[Dn,List.length_cons];rw[ih _ _ _ (by simp;omega)];by_cases h1:o=j
  · subst h1
    rw[if_neg f_,if_pos f_,List.getElem?_set_self f_,Nat.sub_self];rfl
  · by_cases h2:o+1≤j∧j<o+1+r.length
    · rw[if_pos h2,if_pos f_,show j - o=(j - (o+1))+1 by omega];rfl
    · rw[if_neg h2,if_neg f_,List.getElem?_set_ne h1]
theorem Ib {l} (e:∀ x∈l,(f x).length=k) {i} (t:i<l.length) {y} (d:(f y).length=k):Dn (iC f l) (i*k) (f y)=iC f (l.set i y):=by
 have o:=EE e
 have r:i*k+k≤l.length*k:=by
  rw[←Nat.succ_mul];exact Nat.mul_le_mul_right k t
 have g:∀ x∈l.set i y,(f x).length=k:=by
  intro x p;rcases List.mem_or_eq_of_mem_set p with h|h
  · exact e x h
  · rw[h];exact d
 refine List.ext_getElem? fun j=>?_
 rw[Ly _ _ _ _ (by rw[d,o];exact r),d];by_cases n:k=0
 · subst n
   have s:iC f l=[]:=fT (by rw[o];simp);have q:iC f (l.set i y)=[]:=fT (by rw[EE g];simp);rw[s,q,if_neg f_]
 · by_cases u:j<l.length*k
   · have b:j / k<l.length:=(Nat.div_lt_iff_lt_mul f_).2 u
     have v:=Nat.div_add_mod j k;have m:=Nat.mod_lt j (Nat.pos_of_ne_zero n);rw[show j=(j / k)*k+j % k by rw[Nat.mul_comm];omega];rw[lI g (x:=(l.set i y)[j / k]'(by simp;exact b)) (by simp[b]) m];by_cases c:j / k=i
     · have:i*k≤j∧j<i*k+k:=by rw[←c,Nat.mul_comm];omega
       subst c;rw[if_pos (by rw[Nat.mul_comm] at this;omega)];simp
     · have:¬ (i*k≤(j / k)*k+j % k∧(j / k)*k+j % k<i*k+k):=by
        rintro⟨h1,h2⟩;apply c
        have a1:i<j / k+1:=by
         apply Nat.lt_of_mul_lt_mul_right (a:=k);rw[Nat.succ_mul];omega
        have a2:j / k<i+1:=by
         apply Nat.lt_of_mul_lt_mul_right (a:=k);rw[Nat.succ_mul];omega
        omega
       rw[if_neg this,lI e (x:=l[j / k]) (by simp[b]) m];have:(l.set i y)[j / k]'(by simp;exact b)=l[j / k]:=by simp[List.getElem_set];intro h;exact absurd h.symm c
       rw[this]
   · have h1:¬ (i*k≤j∧j<i*k+k):=by omega
     rw[if_neg h1,List.getElem?_eq_none f_,List.getElem?_eq_none (by rw[EE g];simp;omega)]
theorem Fy {l} (b:∀ x∈l,(f x).length=k) {i} {x y} (a:l[i]? = some x) {j} (g:j<k) {u} (d:f y=(f x).set j u):(iC f l).set (i*k+j) u=iC f (l.set i y):=by
 induction l generalizing i with
 | nil=>simp at a
 |
  cons z l ih=>
  have c:=b z gb;have e:=fun z c=>b z (by simp only[List.mem_cons];exact .inr c)
  cases i with
  |
   zero=>
   simp at a;subst a;simp only[iC,List.flatMap_cons,Nat.zero_mul,Nat.zero_add,List.set_cons_zero];rw[List.set_append_left _ _ f_,d]
  |
   succ i=>
   simp only[List.getElem?_cons_succ] at a;have:=ih e a;simp only[iC,List.flatMap_cons,List.set_cons_succ] at this ⊢
   rw[←this,List.set_append_right _ _ (by rw[Nat.succ_mul];omega)];congr 2;rw[Nat.succ_mul];omega
end
theorem GP {g n b base e size:Nat} (a):∀ (w:World) (o:Nat) (xs:List Value),w.ownsRow base e size (a_ (some ⟨g,0,none⟩) n b) n xs→(w.setCells g o a).ownsRow base e size (a_ (some ⟨g,0,none⟩) n b) n (Dn xs o a):=by
 induction a with
 | nil=>intro w o xs h;exact h
 | cons v r ih=>intro w o xs h;exact ih _ _ _ (h.stored o v).1
theorem G8 {g} (a):∀ (w:World) (o:Nat) (b:Nat),b≠g→(w.setCells g o a).heap[b]? = w.heap[b]?:=by
 induction a with
 | nil=>intro w o b _;rfl
 | cons v r ih=>intro w o b h;rw[World.setCells,ih _ _ _ h];exact iY h
theorem J0 g (a):∀ (w:World) (o:Nat),(w.setCells g o a).heap.size=w.heap.size:=by
 induction a with
 | nil=>intro w o;rfl
 | cons v r ih=>intro w o;rw[World.setCells,ih,kj]
theorem rx {B b} (d:B≤b) (c):∀ {a w:World} (o:Nat),Below B a w→Below B a (w.setCells b o c):=by
 induction c with
 | nil=>intro a w o h;exact h
 | cons v r ih=>intro a w o h;exact ih _ (h.setCell d v)
theorem EF {w:World} {base e size n:Nat} {v xs cs} (h:w.ownsRow base e size v n xs) {g c} (b:v =a_ (some ⟨g,0,none⟩) n c) {i} (k:i<n) (d:cs.length=size) (f:∀ j,j<size→xs[i*size+j]? = cs[j]?):w.rangeAt g (i*size) cs:=by
 intro j u a;have l:j<size:=by rw[←d];exact(fR a).1
 subst b
 have m:i*size+size≤n*size:=by
  rw[←Nat.succ_mul];exact Nat.mul_le_mul_right _ k
 rw[h.cellAt (i*size+j) f_,f j l,a]
theorem Hp {w:World} {base e size n:Nat} {v xs} (h:w.ownsRow base e size v n xs) {g c} (b:v =a_ (some ⟨g,0,none⟩) n c) {i} (d:i<n):w.there g (i*size) size:=by
 subst b;intro j k
 have f:i*size+size≤n*size:=by
  rw[←Nat.succ_mul];exact Nat.mul_le_mul_right _ d
 refine⟨?_,?_⟩
 · rw[h.cellAt (i*size+j) f_,fQ (by rw[h.1];omega)];rfl
 · obtain⟨l,a⟩:=pE h (g:=g) rfl
   exact gC a _
end
section
theorem qr h x (a b):(jr h x a b).r.length=h.r.length:=by
 unfold jr;repeat' split
 all_goals first|exact Ik _ _ _|rfl
theorem L3 h id x (a:h.r.length=32):(mN h id x).1.r.length=32:=by
 unfold mN;repeat' split
 · exact a
 · exact a
 · exact IP h id x a
 · unfold A4;exact(qr h x _ _).trans a
structure Ln where
 h:Int
 p:Int
 r:Bool
structure Ac where
 h:Int
 d:Int
 g:Int
 w:Bool
 n:Int
structure vp where
 k:Int
 h:Int
 w:Int
 n:Int
structure i8 where
 words:List Int
 harts:List Ht
 ends:List Int
 mem:kS
 devs:List St
 lines:List Ln
 trace:List Ac
def jX:i8:=⟨[],[],[],lY,[],[],[]⟩
def nA:Ht:=⟨List.replicate 32 0,0,0,0,0,0,0,0⟩
def Js:Ln:=⟨0,0,false⟩
def lm (M:i8) (i:Int):Ht:=M.harts.getD i.toNat nA
def yZ (M:i8) (i:Int):Int:=M.ends.getD i.toNat 0
def oT (M:i8) (d:Int):St:=M.devs.getD d.toNat (ix 0)
def mW (M:i8) (k:Int):Ln:=M.lines.getD k.toNat Js
def oQ (M:i8) (i:Int):Bool:=decide (0≤i) && decide (i<(min M.harts.length M.ends.length:Nat))
def yF (M:i8) (pc:Int):Bool:=decide (0≤pc) && (pc.tmod 4 == 0 && decide (pc.tdiv 4<M.words.length))
def BP (M:i8) (pc:Int):Int:=M.words.getD (pc.tdiv 4).toNat 0
def yU (M:i8) (i:Int):ju:=if yF M (lm M i).pc then dX (BP M (lm M i).pc) else m5
def yV (M:i8) (i:Int):Bool:=yF M (lm M i).pc && dE (BP M (lm M i).pc) == 0
def zeY (M:i8) (i x:Int):i8:={ M with ends:=M.ends.set i.toNat x }
def zb5 (M:i8) (i:Int) (h:Ht):i8:={ M with harts:=M.harts.set i.toNat h }
def lF (M:i8) (i:Int) (e:oW) (a:Int):Int×kS×Int:=
 if e.k=1 then ((CT M.mem i a).1,M.mem,(CT M.mem i a).2)
 else if e.k=2 then (0,A2 M.mem i a e.n)
 else if e.k=3 then ow M.mem i a
 else if e.k=4 then (if (mM M.mem i a e.n).1 then 0 else 1,(mM M.mem i a e.n).2)
 else ml M.mem i a e.o e.n
def uY (M:i8) (i:Int) (h:Ht) (e:oW) (a:Int):i8×Int:=
 if (lF M i e a).2.2=0 then ({ zb5 M i (if e.k=2 then h else gR h e.d (lF M i e a).1) with mem:=(lF M i e a).2.1 },0) else (jX,(lF M i e a).2.2)
def pG (M:i8) (i:Int) (h:Ht) (e:oW) (d g:Int):i8×Int:=
 if (iA M.mem i).length≠0 then (jX,92)
 else if e.k=2 then ({ zb5 M i h with devs:=M.devs.set d.toNat (ja (kX (oT M d) g (wrap32 (wrap32 e.n)))),trace:=M.trace ++ [⟨i,d,g,true,wrap32 e.n⟩] },0)
 else ({ zb5 M i (gR h e.d (kV (oT M d) g)) with devs:=M.devs.set d.toNat (ja (ls (oT M d) g)),trace:=M.trace ++ [⟨i,d,g,false,kV (oT M d) g⟩] },0)
def uh (e:oW):Int:=wrap64 (e.ad - 536870912)
def qo (e:oW):Int:=wrap64 (e.ad - 268435456)
def nZ (M:i8) (n:Int):Bool:=decide (0≤n) && (n.tmod 4 == 0 && decide (n.tdiv 4<M.mem.words.length))
def xG (M:i8) (k n:Int):Bool:=(k == 1 || k == 2) && (decide (0≤n) && (n.tmod 4 == 0 && (decide (n.tmod 256<16) && decide (n.tdiv 256<M.devs.length))))
def uR (M:i8) (i:Int) (h:Ht) (e:oW):i8×Int:=
 if nZ M (uh e) then uY M i h e ((uh e).tdiv 4)
 else if xG M e.k (qo e) then pG M i h e ((qo e).tdiv 256) (((qo e).tmod 256).tdiv 4)
 else (zeY M i 3,0)
def lZ (M:i8) (i:Int) (r:Ht×oW):i8×Int:=
 if r.2.k=9 then (zeY M i 2,0)
 else if r.2.k=7 then (zb5 (zeY M i 1) i r.1,0)
 else if r.2.k=6 then (if (iA M.mem i).length≠0 then (jX,92) else (zb5 M i r.1,0))
 else if 1≤r.2.k∧r.2.k≤5 then uR M i r.1 r.2
 else (zb5 M i r.1,0)
def oe (M:i8) (i:Int):i8×Int:=
 if oQ M i=false then (jX,1) else if yZ M i≠0 then (jX,100) else if yV M i=false then (zeY M i 2,0) else lZ M i (mN (lm M i) i (yU M i))
def pK (M:i8) (i k:Int):i8×Int:=
 if oQ M i=false then (jX,1) else if (mV M.mem i k).2=0 then ({ M with mem:=(mV M.mem i k).1 },0) else (jX,(mV M.mem i k).2)
def zdL (M:i8) (k:Int) (b:Bool):i8:={ M with lines:=M.lines.set k.toNat { mW M k with r:=b } }
def uQ (M:i8) (k:Int):i8×Int:=if 0≤k∧k<M.lines.length then (zdL M k true,0) else (jX,1)
def lS (M:i8) (i:Int) (l:Ln):Bool:=decide (0≤i) && (decide (i<M.harts.length) && (l.h == i && (l.r && BQ (lm M i).st (lm M i).le l.p)))
def Ea (M:i8) (i best:Int) (k:Nat):Int:=
 if lS M i (mW M k)=true∧(best<0∨(mW M best).p<(mW M k).p) then k else best
def mG (M:i8) (i:Int):Nat→Int
 | 0=>-1
 | k+1=>Ea M i (mG M i k) k
def oU (M:i8) (i:Int):Int:=mG M i M.lines.length
def oC (M:i8) (i:Int):i8×Int:=
 if oQ M i=false then (jX,1) else if yZ M i≠0 then (jX,100) else if oU M i<0 then (jX,101)
 else (zb5 (zdL M (oU M i) false) i (sL (lm M i) (-2147483648+oU M i)),0)
def tJ (M:i8) (d n:Int):i8×Int:=if 0≤d∧d<M.devs.length then ({ M with devs:=M.devs.set d.toNat (ja (kL (oT M d) (wrap32 n))) },0) else (jX,1)
def lW (M:i8) (c:vp):i8×Int:=
 if c.k=1 then oe M c.h else if c.k=2 then pK M c.h c.w else if c.k=3 then uQ M c.w else if c.k=4 then oC M c.h else if c.k=5 then tJ M c.w c.n else (jX,1)
def iX (M:i8):List vp→i8×Int
 | []=>(M,0)
 | c :: l=>if (lW M c).2=0 then ((iX (lW M c).1 l).1,(iX (lW M c).1 l).2+1) else iX M l
theorem Kj (a b):∀ M,iX M (a ++ b)=((iX (iX M a).1 b).1,(iX M a).2+(iX (iX M a).1 b).2):=by
 induction a with
 | nil=>intro M;simp[iX]
 |
  cons c a ih=>
  intro M;simp only[List.cons_append,iX];split
  · rw[ih];simp only;congr 1;omega
  · rw[ih]
structure jw (h:Ht):Prop where
 len:h.r.length=32
 reg:∀ k,k<32→iF (h.r.getD k 0)
 zero:h.r.getD 0 0=0
 pc:iF h.pc∧True
 st:h.st=0∨h.st=8∨h.st=128∨h.st=136
 ve:iF h.ve∧True
 sc:iF h.sc
 ep:iF h.ep∧True
 ca:iF h.ca
 le:iF h.le
def lE (m:kS):Prop:=(∀ z∈m.words,iF z) ∧ ∀ l∈m.pend,∀ x∈l,iF x.2
structure gF (M:i8) (H N:Nat):Prop where
 words:M.words.length≤100000
 word:∀ z∈M.words,iy z
 few:1≤H∧H≤4
 harts:M.harts.length=H
 fine:∀ h∈M.harts,jw h
 num:lE M.mem
 ends:M.ends.length=H
 mem:∃ W,W≤100000∧jA M.mem H W
 devs:M.devs.length≤8
 dev:∀ s∈M.devs,pQ s
 lines:M.lines.length≤8
 trace:M.trace.length≤N
section
variable {M:i8} {H N:Nat}
theorem gF.regs (g:gF M H N):∀ h∈M.harts,h.r.length=32:=fun h a=>(g.fine h a).len
theorem gF.pcs (g:gF M H N):∀ h∈M.harts,iy h.pc∧iy h.ve∧iy h.ep:=fun h a=>by
 have b:=(g.fine h a).pc;have c:=(g.fine h a).ve;have d:=(g.fine h a).ep;unfold iy;omega
theorem gF.small (g:gF M H N):jC M.mem:=by
 obtain⟨W,a,b⟩:=g.mem;exact b.small (by have:=g.few;omega) a
theorem rj {i} (h:oQ M i=true):0≤i∧i<M.harts.length∧i<M.ends.length:=by
 simp[oQ] at h;omega
theorem Da {i:Int} (h0:0≤i) (h1:i<M.harts.length):lm M i∈M.harts:=by
 unfold lm;rw[List.getD_eq_getElem?_getD,fQ f_];exact List.getElem_mem _
theorem gF.regsOf (g:gF M H N) {i} (h:oQ M i=true):(lm M i).r.length=32:=g.regs _ (Da (rj h).1 (rj h).2.1)
theorem M6 {d:Int} (h0:0≤d) (h1:d<M.devs.length):oT M d∈M.devs:=by
 unfold oT;rw[List.getD_eq_getElem?_getD,fQ f_];exact List.getElem_mem _
end
end
section
def hC (h:Ht):List Value:=(hL h).map (b_ c_)
def j_ (l:Ln):List Value:=[b_ c_ l.h,b_ c_ l.p,fJ l.r]
def mK (a:Ac):List Value:=[b_ c_ a.h,b_ c_ a.d,b_ c_ a.g,fJ a.w,b_ c_ a.n]
def sC (x:St×Value):List Value:=(gX x.1 x.2).toList
theorem DD (h):(hC h).toArray=hA h:=rfl
theorem uT {h} (a:h.r.length=32):(hC h).length=39:=by simp[hC,hL,a]
theorem tK (x):(sC x).length=8:=rfl
theorem A7 (x):(j_ x).length=3:=rfl
theorem o8 (h):∀ u∈hC h,u.oneCell'=true:=by simp[hC,Value.oneCell']
theorem Dk (l):∀ u∈j_ l,u.oneCell'=true:=by simp[j_,Value.oneCell']
theorem El (l):∀ u∈mK l,u.oneCell'=true:=by simp[mK,Value.oneCell']
def jl (w:World) (a:List Value) (devs:List St):Prop:=
 a.length=devs.length ∧ ∀ (i:Nat) (q:Value) (s:St),a[i]? = some q→devs[i]? = some s→gl w 1 s.q.length q (qL s)
theorem jl.below {w w' a devs} (h:jl w a devs) (c:Up w w'):jl w' a devs:=⟨h.1,fun i q s b d=>(h.2 i q s b d).below c⟩
theorem Ih {w d devs} (h:jl w d devs):∀ x∈devs.zip d,∀ u∈sC x,u.oneCell'=true:=by
 intro x g u f;obtain⟨i,b⟩:=List.mem_iff_getElem?.1 g;rw[List.getElem?_zip_eq_some] at b;obtain⟨a,c,e⟩:=(h.2 i _ _ b.2 b.1).shape;simp only[sC,gX,List.mem_cons,List.not_mem_nil,or_false,e] at f;rcases f with rfl|rfl|rfl|rfl|rfl|rfl|rfl|rfl <;> rfl
structure jH (w:World) (B:Nat) (wv hv ev m1 m2 m3 dv lv tv:Value) (qs:List Value) (M:i8):Prop where
 words:w.ownsRow B 3 1 wv M.words.length (gz M.words)
 harts:w.ownsRow B 56 39 hv M.harts.length (iC hC M.harts)
 ends:w.ownsRow B 3 1 ev M.ends.length (gz M.ends)
 mem:gM w (e_ #[m1,m2,m3]) M.mem
 devs:w.ownsRow B 75 8 dv M.devs.length (iC sC (M.devs.zip qs))
 ques:jl w qs M.devs
 lines:w.ownsRow B 64 3 lv M.lines.length (iC j_ M.lines)
 trace:w.ownsRow B 59 5 tv M.trace.length (iC mK M.trace)
def gJ (w:World) (v:Value) (M:i8):Prop:=∃ d b f i a g c e h j,v =e_ #[d,b,f,i,a,g,c,e,h]∧jH w 0 d b f i a g c e h j M
section
variable {w w':World} {B:Nat} {wv hv ev m1 m2 m3 dv lv tv:Value} {qs:List Value} {M:i8}
theorem jH.below (h:jH w B wv hv ev m1 m2 m3 dv lv tv qs M) (a:Up w w'):jH w' B wv hv ev m1 m2 m3 dv lv tv qs M:=
 ⟨gy h.words a,gy h.harts a,gy h.ends a,h.mem.below a,gy h.devs a,h.ques.below a,gy h.lines a,gy h.trace a⟩
theorem jH.zero (h:jH w B wv hv ev m1 m2 m3 dv lv tv qs M):jH w 0 wv hv ev m1 m2 m3 dv lv tv qs M:=
 ⟨nj h.words,nj h.harts,nj h.ends,h.mem,nj h.devs,h.ques,nj h.lines,nj h.trace⟩
theorem gJ.below {v} (h:gJ w v M) (a:Up w w'):gJ w' v M:=by
 obtain⟨wv,hv,ev,m1,m2,m3,dv,lv,tv,qs,rfl,h⟩:=h;exact⟨wv,hv,ev,m1,m2,m3,dv,lv,tv,qs,rfl,h.below a⟩
theorem iz (w):gJ w (e_ #[a_ none 0 0,a_ none 0 0,a_ none 0 0,a_ none 0 0,a_ none 0 0,a_ none 0 0,a_ none 0 0,a_ none 0 0,a_ none 0 0]) jX:=
 ⟨_,_,_,_,_,_,_,_,_,[],rfl,World.ownsRow_nil _ _ _ _,World.ownsRow_nil _ _ _ _,World.ownsRow_nil _ _ _ _,lX w,World.ownsRow_nil _ _ _ _,⟨rfl,fun i q s h=>by simp at h⟩,World.ownsRow_nil _ _ _ _,World.ownsRow_nil _ _ _ _⟩
structure gx (T:Nat) (w:World) (B p:Nat) (wv hv ev m1 m2 m3 dv lv tv:Value) (qs:List Value) (M:i8):Prop where
 at_:w.heap[p]? = some (d_ #[wv,hv,ev,m1,m2,m3,dv,lv,tv] T (0,0))
 base:B≤p
 parts:jH w B wv hv ev m1 m2 m3 dv lv tv qs M
 offQ:∀ q∈qs,∀ g,q.ownBlock=some g→hv.ownBlock≠some g∧ev.ownBlock≠some g∧dv.ownBlock≠some g∧lv.ownBlock≠some g∧tv.ownBlock≠some g∧p≠g
abbrev iV:=gx 97
def rF (wv ev m1 m3:Value):Prop:=∀ g,ev.ownBlock=some g→wv.ownBlock≠some g∧m1.ownBlock≠some g∧m3.ownBlock≠some g
theorem gx.below {T p} (h:gx T w B p wv hv ev m1 m2 m3 dv lv tv qs M) (a:Up w w'):gx T w' B p wv hv ev m1 m2 m3 dv lv tv qs M:=
 ⟨iE a (gn h.at_) h.at_,h.base,h.parts.below a,h.offQ⟩
theorem gx.isMac {T p} (h:gx T w B p wv hv ev m1 m2 m3 dv lv tv qs M):gJ w (e_ #[wv,hv,ev,m1,m2,m3,dv,lv,tv]) M:=⟨_,_,_,_,_,_,_,_,_,_,rfl,h.parts.zero⟩
def og (g:Nat) (w w':World):Prop:=w.heap.size≤w'.heap.size ∧ ∀ b,b≠g→w'.heap[b]? = w.heap[b]?
theorem nF w g j (u):og g w (w.setCell ⟨g,j,none⟩ u):=⟨by rw[kj];exact fL,fun b a=>iY a⟩
theorem AQ w g j (a):og g w (w.setCells g j a):=⟨by rw[J0];exact fL,fun b c=>G8 a w j b c⟩
theorem og.trans {a b c g} (h:og g a b) (d:og g b c):og g a c:=⟨fO h.1 d.1,fun k e=>(d.2 k e).trans (h.2 k e)⟩
theorem iG {g base e k n:Nat} {v xs} (h:w.ownsRow base e k v n xs) (c:og g w w') (a:v.ownBlock≠some g):w'.ownsRow base e k v n xs:=
 lH h fun b e=>c.2 b (by rintro rfl;exact a e)
theorem DV {g k n v xs} (h:gl w k n v xs) (a:og g w w') (d:v.ownBlock≠some g):gl w' k n v xs:=by
 refine⟨h.1,h.2.1,?_⟩;rcases h.2.2 with h|⟨b,o,c,rfl,l,i,e,f⟩
 · exact .inl h
 · refine .inr ⟨b,o,c,rfl,fN l a.1,i,e,fun j u m=>?_⟩
   rw[←f j u m];simp only[World.cell?,a.2 b (by rintro rfl;exact d rfl)]
theorem CQ {g devs} (h:jl w qs devs) (c:og g w w') (a:∀ q∈qs,q.ownBlock≠some g):jl w' qs devs:=
 ⟨h.1,fun i q s e b=>DV (h.2 i q s e b) c (a q (List.mem_of_getElem? e))⟩
theorem I8 {g T:Nat} {t m} (h:gM w (e_ #[m1,m2,m3]) m) (d:og g w w') (j:w.heap[g]? = some (d_ t T (0,0))) (k:T≠57∧T≠127) (h1:m1.ownBlock≠some g) (h3:m3.ownBlock≠some g):gM w' (e_ #[m1,m2,m3]) m:=by
 obtain⟨a,b,c,s,e,v,n,k3,f⟩:=h;injection e with e
 have q:m1=a:=by have:=congrArg (·[0]?) e;simpa using this
 have p:m2=b:=by have:=congrArg (·[1]?) e;simpa using this
 have u:m3=c:=by have:=congrArg (·[2]?) e;simpa using this
 subst q p u;refine⟨_,_,_,s,rfl,iG v d h1,iG n d (gS n j k.1.symm),iG k3 d h3,f.1,fun i r l o hl=>iG (f.2 i r l o hl) d (gS (f.2 i r l o hl) j k.2.symm)⟩
theorem yC {g T:Nat} {o m} (h:gM w (e_ #[m1,m2,m3]) m) (k:og g w w') (d:w.heap[g]? = some (d_ o T (0,0))) (i:T≠57∧T≠127) (f:T≠3):gM w' (e_ #[m1,m2,m3]) m:=by
 have j:=h;obtain⟨a,b,c,s,e,p,r,k3,q⟩:=h;injection e with e
 have l:m1=a:=by have:=congrArg (·[0]?) e;simpa using this
 have n:m3=c:=by have:=congrArg (·[2]?) e;simpa using this
 subst l n;exact I8 j k d i (gS p d f.symm) (gS k3 d f.symm)
theorem uO {base e k n:Nat} {v xs} {w:World} (h:w.ownsRow base e k v n xs) (f:0<n):∃ g c a,v =a_ (some ⟨g,0,none⟩) n c∧w.heap[g]? = some (d_ a e (0,0))∧base≤g:=by
 rcases h.2 with⟨_,h0⟩|⟨g,c,a,hv,d,b,_⟩
 · omega
 · exact⟨g,c,a,hv,b,d⟩
theorem Ip {α β:Type} (l:List α):∀ (r:List β) (i:Nat) (a:α) (b:β),(l.zip r).set i (a,b)=(l.set i a).zip (r.set i b):=by
 induction l with
 | nil=>intro r i a b;simp
 |
  cons x l ih=>
  intro r i a b;cases r with
  | nil=>simp
  |
   cons y r=>
   cases i with
   | zero=>simp
   | succ i=>simp[ih]
theorem xj {g i devs s q} (h:jl w qs devs) (K:og g w w') (f:gl w 1 s.q.length q (qL s)) (k:q.ownBlock≠some g) (l:∀ q∈qs,q.ownBlock≠some g):jl w' (qs.set i q) (devs.set i s):=by
 have e:=h.1;refine⟨by simpa using e,fun j d s' a b=>?_⟩;by_cases c:i=j
 · subst c
   have m:i<qs.length:=by simpa using(fR a).1
   rw[List.getElem?_set_self m] at a;rw[List.getElem?_set_self f_] at b;cases a;cases b;exact DV f K k
 · rw[List.getElem?_set_ne c] at a b
   exact DV (h.2 j d s' a b) K (l d (List.mem_of_getElem? a))
variable {p:Nat}
theorem gx.setEnd {T} (h:gx T w B p wv hv ev m1 m2 m3 dv lv tv qs M) (r:rF wv ev m1 m3) {g n c} (d:ev =a_ (some ⟨g,0,none⟩) n c) {i} (v:i<M.ends.length) (x) (hT:T=97∨T=37:=by decide) :
 gx T (w.setCell ⟨g,i,none⟩ (b_ c_ x)) B p wv hv ev m1 m2 m3 dv lv tv qs (zeY M i x):=by
 have f:ev.ownBlock=some g:=by rw[d];rfl
 obtain⟨u,b⟩:=pE h.parts.ends f;obtain⟨o,s,m⟩:=r g f;have K:=nF w g i (b_ c_ x);have l:p≠g:=by rintro rfl;have:=h.at_;rw[b] at this;injection this with e;injection e with _ e;exact absurd e (by rcases hT with rfl|rfl<;>decide)
 refine⟨(K.2 p l).trans h.at_,h.base,⟨iG h.parts.words K o,iG h.parts.harts K (gS h.parts.harts b fZ),?_,I8 h.parts.mem K b fZ s m,iG h.parts.devs K (gS h.parts.devs b fZ),
  CQ h.parts.ques K fun q k e=>(h.offQ q k g e).2.1 f,iG h.parts.lines K (gS h.parts.lines b fZ),iG h.parts.trace K (gS h.parts.trace b fZ)⟩,h.offQ⟩
 have j:n=M.ends.length:=by obtain⟨a,t,e⟩:=gN h.parts.ends;rw[d] at e;injection e
 have:=h.parts.ends;rw[d,j] at this;have:=(World.ownsRow.stored this i (b_ c_ x)).1;rw[d,j]
 simpa[Go.Proofs.YtdobddiibgfeaaaGreat.zeY,gz,List.map_set] using this
theorem gx.setHart {T} (h:gx T w B p wv hv ev m1 m2 m3 dv lv tv qs M) (t:∀ x∈M.harts,x.r.length=32) {g n c} (d:hv =a_ (some ⟨g,0,none⟩) n c) {i} (s:i<M.harts.length) {x} (k:x.r.length=32) (hT:T=97∨T=37:=by decide) :
 gx T (w.setCells g (i*39) (hC x)) B p wv hv ev m1 m2 m3 dv lv tv qs (zb5 M i x):=by
 have j:hv.ownBlock=some g:=by rw[d];rfl
 obtain⟨v,b⟩:=pE h.parts.harts j;have K:=AQ w g (i*39) (hC x);have o:p≠g:=by rintro rfl;have:=h.at_;rw[b] at this;injection this with e;injection e with _ e;exact absurd e (by rcases hT with rfl|rfl<;>decide)
 refine⟨(K.2 p o).trans h.at_,h.base,⟨iG h.parts.words K (gS h.parts.words b fZ),?_,iG h.parts.ends K (gS h.parts.ends b fZ),yC h.parts.mem K b fZ fZ,iG h.parts.devs K (gS h.parts.devs b fZ),
  CQ h.parts.ques K fun q l e=>(h.offQ q l g e).1 j,iG h.parts.lines K (gS h.parts.lines b fZ),iG h.parts.trace K (gS h.parts.trace b fZ)⟩,h.offQ⟩
 have f:n=M.harts.length:=by obtain⟨a,u,e⟩:=gN h.parts.harts;rw[d] at e;injection e
 have:=h.parts.harts;rw[d,f] at this;have:=GP (hC x) w (i*39) _ this;rw[d,f];rw[Ib (fun y m=>uT (t y m)) s (uT k)] at this
 simpa[Go.Proofs.YtdobddiibgfeaaaGreat.zb5] using this
theorem gx.setLine {T} (h:gx T w B p wv hv ev m1 m2 m3 dv lv tv qs M) {g n c} (f:lv =a_ (some ⟨g,0,none⟩) n c) {i} (l:i<M.lines.length) (b) (hT:T=97∨T=37:=by decide) :
 gx T (w.setCell ⟨g,i*3+2,none⟩ (fJ b)) B p wv hv ev m1 m2 m3 dv lv tv qs (zdL M i b):=by
 have k:lv.ownBlock=some g:=by rw[f];rfl
 obtain⟨t,d⟩:=pE h.parts.lines k;have K:=nF w g (i*3+2) (fJ b);have o:p≠g:=by rintro rfl;have:=h.at_;rw[d] at this;injection this with e;injection e with _ e;exact absurd e (by rcases hT with rfl|rfl<;>decide)
 refine⟨(K.2 p o).trans h.at_,h.base,⟨iG h.parts.words K (gS h.parts.words d fZ),iG h.parts.harts K (gS h.parts.harts d fZ),iG h.parts.ends K (gS h.parts.ends d fZ),yC h.parts.mem K d fZ fZ,iG h.parts.devs K (gS h.parts.devs d fZ),
  CQ h.parts.ques K fun q m e=>(h.offQ q m g e).2.2.2.1 k,?_,iG h.parts.trace K (gS h.parts.trace d fZ)⟩,h.offQ⟩
 have j:n=M.lines.length:=by obtain⟨a,s,e⟩:=gN h.parts.lines;rw[f] at e;injection e
 have:=h.parts.lines;rw[f,j] at this;have:=(World.ownsRow.stored this (i*3+2) (fJ b)).1;rw[f,j];rw[Fy (fun y _=>A7 y) (x:=M.lines[i]) (y:={ M.lines[i] with r:=b }) (fQ l) fZ rfl] at this;have e:mW M (i:Int)=M.lines[i]:=by simp[mW,l]
 simpa[Go.Proofs.YtdobddiibgfeaaaGreat.zdL,e] using this
theorem gx.setMem {T} (h:gx T w B p wv hv ev m1 m2 m3 dv lv tv qs M) {a1 a2 a3 m} (c:gM w (e_ #[a1,a2,a3]) m) (hT:T=97∨T=37:=by decide) :
 gx T (((w.setCell ⟨p,3,none⟩ a1).setCell ⟨p,4,none⟩ a2).setCell ⟨p,5,none⟩ a3) B p wv hv ev a1 a2 a3 dv lv tv qs { M with mem:=m }:=by
 have K:=((nF w p 3 a1).trans (nF _ p 4 a2)).trans (nF _ p 5 a3);have a:=h.at_;have h1:=jb (jb (jb a 3 a1) 4 a2) 5 a3
 exact⟨h1,h.base,⟨iG h.parts.words K (gS h.parts.words a (by rcases hT with rfl|rfl<;>decide)),iG h.parts.harts K (gS h.parts.harts a (by rcases hT with rfl|rfl<;>decide)),iG h.parts.ends K (gS h.parts.ends a (by rcases hT with rfl|rfl<;>decide)),yC c K a (by rcases hT with rfl|rfl<;>decide) (by rcases hT with rfl|rfl<;>decide),iG h.parts.devs K (gS h.parts.devs a (by rcases hT with rfl|rfl<;>decide)),
  CQ h.parts.ques K fun q b e=>(h.offQ q b p e).2.2.2.2.2 rfl,iG h.parts.lines K (gS h.parts.lines a (by rcases hT with rfl|rfl<;>decide)),iG h.parts.trace K (gS h.parts.trace a (by rcases hT with rfl|rfl<;>decide))⟩,h.offQ⟩
theorem gx.setDev {T} (h:gx T w B p wv hv ev m1 m2 m3 dv lv tv qs M) {g n c} (f:dv =a_ (some ⟨g,0,none⟩) n c) {i} (z:i<M.devs.length) {s} {q} (r:gl w 1 s.q.length q (qL s))
 (o:∀ g,q.ownBlock=some g→hv.ownBlock≠some g∧ev.ownBlock≠some g∧dv.ownBlock≠some g∧lv.ownBlock≠some g∧tv.ownBlock≠some g∧p≠g) (hT:T=97∨T=37:=by decide) :
 gx T (w.setCells g (i*8) (sC (s,q))) B p wv hv ev m1 m2 m3 dv lv tv (qs.set i q) { M with devs:=M.devs.set i s }:=by
 have k:dv.ownBlock=some g:=by rw[f];rfl
 obtain⟨A,b⟩:=pE h.parts.devs k;have K:=AQ w g (i*8) (sC (s,q));have t:p≠g:=by rintro rfl;have:=h.at_;rw[b] at this;injection this with e;injection e with _ e;exact absurd e (by rcases hT with rfl|rfl<;>decide)
 have x:=h.parts.ques.1
 have u:∀ d∈qs.set i q,∀ g,d.ownBlock=some g→hv.ownBlock≠some g∧ev.ownBlock≠some g∧dv.ownBlock≠some g∧lv.ownBlock≠some g∧tv.ownBlock≠some g∧p≠g:=fun d j l e=>by
  rcases List.mem_or_eq_of_mem_set j with h1|h1
  · exact h.offQ d h1 l e
  · subst h1;exact o l e
 refine⟨(K.2 p t).trans h.at_,h.base,⟨iG h.parts.words K (gS h.parts.words b fZ),iG h.parts.harts K (gS h.parts.harts b fZ),iG h.parts.ends K (gS h.parts.ends b fZ),yC h.parts.mem K b fZ fZ,?_,
  ?_,iG h.parts.lines K (gS h.parts.lines b fZ),iG h.parts.trace K (gS h.parts.trace b fZ)⟩,u⟩
 · have m:n=M.devs.length:=by obtain⟨a,v,e⟩:=gN h.parts.devs;rw[f] at e;injection e
   have:=h.parts.devs;rw[f,m] at this;have:=GP (sC (s,q)) w (i*8) _ this;rw[f,m];rw[Ib (fun y _=>tK y) (by simp;omega) (tK _)] at this;have e:(M.devs.zip qs).set i (s,q)=(M.devs.set i s).zip (qs.set i q):=Ip _ _ _ _ _;rw[e] at this
   simpa using this
 · exact xj h.parts.ques K r (fun e=>(o g e).2.2.1 k) fun d j e=>(h.offQ d j g e).2.2.1 k
end
end
section
structure oE (w:World) (B N b:Nat) (wv hv ev m1 m2 m3 dv lv tv:Value) (qs:List Value) (M:i8):Prop where
 at_:w.heap[b]? = some (d_ #[wv,hv,ev,m1,m2,m3,dv,lv,tv] 37 (0,0))
 words:w.ownsRow B 3 1 wv M.words.length (gz M.words)
 harts:w.ownsRow B 56 39 hv M.harts.length (iC hC M.harts)
 ends:w.ownsRow B 3 1 ev M.ends.length (gz M.ends)
 devs:w.ownsRow B 75 8 dv M.devs.length (iC sC (M.devs.zip qs))
 lines:w.ownsRow B 64 3 lv M.lines.length (iC j_ M.lines)
 trace:w.ownsRow B 59 5 tv M.trace.length (iC mK M.trace)
 len:qs.length=M.devs.length
 endN:∀ g,ev.ownBlock=some g→g<N
 offW:∀ g,ev.ownBlock=some g→wv.ownBlock≠some g
 le:N≤w.heap.size
section
variable {w w':World} {B N b:Nat} {wv hv ev m1 m2 m3 dv lv tv:Value} {qs:List Value} {M:i8}
theorem oE.below (h:oE w B N b wv hv ev m1 m2 m3 dv lv tv qs M) (a:Up w w'):oE w' B N b wv hv ev m1 m2 m3 dv lv tv qs M:=
 ⟨iE a (gn h.at_) h.at_,gy h.words a,gy h.harts a,gy h.ends a,gy h.devs a,gy h.lines a,gy h.trace a,h.len,h.endN,h.offW,fO h.le a.size⟩
theorem oE.cells (h:oE w B N b wv hv ev m1 m2 m3 dv lv tv qs M) (K:og b w w') {a1 a2 a3} (a:w'.heap[b]? = some (d_ #[wv,hv,ev,a1,a2,a3,dv,lv,tv] 37 (0,0))):oE w' B N b wv hv ev a1 a2 a3 dv lv tv qs M:=
 ⟨a,iG h.words K (gS h.words h.at_ fZ),iG h.harts K (gS h.harts h.at_ fZ),iG h.ends K (gS h.ends h.at_ fZ),iG h.devs K (gS h.devs h.at_ fZ),iG h.lines K (gS h.lines h.at_ fZ),iG h.trace K (gS h.trace h.at_ fZ),h.len,h.endN,h.offW,fO h.le K.1⟩
theorem oE.ents (h:oE w B N b wv hv ev m1 m2 m3 dv lv tv qs M) {g c} (K:og g w w') (a:w.heap[g]? = some (d_ c 57 (0,0))):oE w' B N b wv hv ev m1 m2 m3 dv lv tv qs M:=
 ⟨(K.2 b (by rintro rfl;have:=h.at_;rw[a] at this;injection this with e;injection e with _ e;exact absurd e fZ)).trans h.at_,iG h.words K (gS h.words a fZ),iG h.harts K (gS h.harts a fZ),iG h.ends K (gS h.ends a fZ),iG h.devs K (gS h.devs a fZ),iG h.lines K (gS h.lines a fZ),iG h.trace K (gS h.trace a fZ),h.len,h.endN,h.offW,fO h.le K.1⟩
theorem oE.que (h:oE w B N b wv hv ev m1 m2 m3 dv lv tv qs M) {g n c} (f:dv =a_ (some ⟨g,0,none⟩) n c) {i} (o:i<M.devs.length) (q) :
 oE (w.setCell ⟨g,i*8+5,none⟩ q) B N b wv hv ev m1 m2 m3 dv lv tv (qs.set i q) M:=by
 have m:dv.ownBlock=some g:=by rw[f];rfl
 obtain⟨s,d⟩:=pE h.devs m;have K:=nF w g (i*8+5) q;have l:b≠g:=by rintro rfl;have:=h.at_;rw[d] at this;injection this with e;injection e with _ e;exact absurd e fZ
 have r:=h.len;refine⟨(K.2 b l).trans h.at_,iG h.words K (gS h.words d fZ),iG h.harts K (gS h.harts d fZ),iG h.ends K (gS h.ends d fZ),?_,iG h.lines K (gS h.lines d fZ),iG h.trace K (gS h.trace d fZ),by simpa using h.len,h.endN,h.offW,by rw[kj];exact h.le⟩;have j:n=M.devs.length:=by obtain⟨a,p,e⟩:=gN h.devs;rw[f] at e;injection e
 have:=h.devs;rw[f,j] at this;have:=(World.ownsRow.stored this (i*8+5) q).1;rw[f,j];have k:(M.devs.zip qs)[i]? = some (M.devs[i],qs[i]' f_):=by rw[List.getElem?_zip_eq_some];exact⟨fQ o,fQ f_⟩
 rw[Fy (fun y _=>tK y) k (y:=(M.devs[i],q)) fZ rfl] at this
 have e:(M.devs.zip qs).set i (M.devs[i],q)=M.devs.zip (qs.set i q):=by
  rw[Ip,List.set_getElem_self]
 rwa [e] at this
def kO (w:World) (N:Nat) (qs:List Value) (devs:List St):Prop:=∀ (j:Nat) (q:Value) (s:St),qs[j]? = some q→devs[j]? = some s→w.ownsRow N 3 1 q s.q.length (qL s)
theorem kO.below {devs} (h:kO w N qs devs) (a:Up w w'):kO w' N qs devs:=fun j q s h1 h2=>gy (h j q s h1 h2) a
theorem kO.but {devs} {g T:Nat} {c} (h:kO w N qs devs) (K:og g w w') (a:w.heap[g]? = some (d_ c T (0,0))) (b:3≠T):kO w' N qs devs:=fun j q s h1 h2=>iG (h j q s h1 h2) K (gS (h j q s h1 h2) a b)
theorem kO.push {devs} (h:kO w N qs devs) {q s} (b:devs[qs.length]? = some s) (a:w.ownsRow N 3 1 q s.q.length (qL s)):kO w N (qs ++ [q]) devs:=by
 intro j e s' h1 h2;by_cases d:j<qs.length
 · rw[List.getElem?_append_left d] at h1;exact h j e s' h1 h2
 · rw[List.getElem?_append_right f_] at h1
   have:j - qs.length=0:=by
    have:=(fR h1).1;simp at this;exact this
   have c:j=qs.length:=by omega
   subst c;rw[b] at h2;simp at h1 h2;subst h1 h2;exact a
theorem kO.ques {devs} (h:kO w N qs devs) (hl:qs.length=devs.length):jl w qs devs:=⟨hl,fun j q s h1 h2=>gl.own (h j q s h1 h2) (oB s)⟩
def ms (w:World) (N:Nat) (a:List Value) (pend:List (List (Int×Int))):Prop:=∀ (j:Nat) (r:Value) (l:List (Int×Int)),a[j]? = some r→pend[j]? = some l→w.ownsRow N 127 2 r l.length (gW l)
theorem ms.below {pend a} (h:ms w N a pend) (b:Up w w'):ms w' N a pend:=fun j q s h1 h2=>gy (h j q s h1 h2) b
theorem ms.but {pend a} {g T:Nat} {d} (h:ms w N a pend) (K:og g w w') (b:w.heap[g]? = some (d_ d T (0,0))) (c:127≠T):ms w' N a pend:=fun j q s h1 h2=>iG (h j q s h1 h2) K (gS (h j q s h1 h2) b c)
theorem ms.push {pend a} (h:ms w N a pend) {q s} (c:pend[a.length]? = some s) (b:w.ownsRow N 127 2 q s.length (gW s)):ms w N (a ++ [q]) pend:=by
 intro j f s' h1 h2;by_cases e:j<a.length
 · rw[List.getElem?_append_left e] at h1;exact h j f s' h1 h2
 · rw[List.getElem?_append_right f_] at h1
   have:j - a.length=0:=by
    have:=(fR h1).1;simp at this;exact this
   have d:j=a.length:=by omega
   subst d;rw[c] at h2;simp at h1 h2;subst h1 h2;exact b
theorem z9 {m m1 m2 m3 a} (h1:w.ownsRow N 3 1 m1 m.words.length (gz m.words)) (h2:w.ownsRow N 57 1 m2 m.pend.length a) (h3:w.ownsRow N 3 1 m3 m.res.length (gz m.res)) (h4:ms w N a m.pend):gM w (e_ #[m1,m2,m3]) m:=
 ⟨_,_,_,a,rfl,nj h1,nj h2,nj h3,by have:=h2.1;rwa [Nat.mul_one] at this,fun i r l b hl=>nj (h4 i r l b hl)⟩
theorem F5 {base e k n:Nat} {v xs} (h:w.ownsRow base e k v n xs) (b:∀ g,ev.ownBlock=some g→g<base):∀ g,ev.ownBlock=some g→v.ownBlock≠some g:=by
 intro g a e;have:=(h.lt g e).1;have:=b g a;omega
theorem oE.own {w0} (h:oE w B N b wv hv ev m1 m2 m3 dv lv tv qs M) (d:kO w N qs M.devs) {f} (h1:w.ownsRow N 3 1 m1 M.mem.words.length (gz M.mem.words)) (h2:w.ownsRow N 57 1 m2 M.mem.pend.length f) (h3:w.ownsRow N 3 1 m3 M.mem.res.length (gz M.mem.res)) (h4:ms w N f M.mem.pend)
 (o:Up w0 w) (k:B=w0.heap.size) :
 iV (w.alloc (d_ #[wv,hv,ev,m1,m2,m3,dv,lv,tv] 97)) B w.heap.size wv hv ev m1 m2 m3 dv lv tv qs M∧rF wv ev m1 m3:=by
 have m:=gr w (d_ #[wv,hv,ev,m1,m2,m3,dv,lv,tv] 97);refine⟨⟨gH w _,by rw[k];exact o.size,(jH.mk h.words h.harts h.ends (z9 h1 h2 h3 h4) h.devs (d.ques h.len) h.lines h.trace).below m,?_⟩,?_⟩
 · intro q n g a
   obtain⟨j,i⟩:=List.mem_iff_getElem?.1 n;have l:j<M.devs.length:=by rw[←h.len];exact(fR i).1
   have c:=d j q _ i (fQ l);refine⟨ku c h.harts fZ a,?_,ku c h.devs fZ a,ku c h.lines fZ a,ku c h.trace fZ a,?_⟩
   · intro e;exact F5 c h.endN g e a
   · have:=(c.lt g a).2;omega
 · exact fun g a=>⟨h.offW g a,F5 h1 h.endN g a,F5 h3 h.endN g a⟩
end
end
theorem EZ:(gd.info? 56).map (fun i=>(i.zero,i.size,i.bytes))=some (some (e_ zA),39,312):=by kernel_rfl
theorem G_ v n xs w (h:gl w 39 n v xs) (x:n*312≤140737488355328) :
 Calls gd 81 #[v] w fun e w'=>∃ a,e =fH a∧w'.ownsRow w.heap.size 56 39 a n xs∧Up w w':=by
 obtain⟨hl,h1,h2⟩:=h;obtain⟨m,G,F,E,r⟩:=info_parts EZ;rcases h2 with⟨rfl,rfl⟩|⟨b,o,c,rfl,H,J,K,d⟩
 · have q:=fun w:World=>Lib.run_eql_slice_nil (P:=gd) w 30 56 none 0 0 0 0 Tryz.underlying30
   have i:xs=[]:=fT (by simpa using hl);have C:=gg i;clear i hl x;go_in;go_wp2;go_ret;exact⟨_,rfl,by rw[C.o];exact World.ownsRow_nil _ _ _ _,fK⟩
 · have q:=fun w:World=>Lib.run_eql_slice_nil (P:=gd) w 30 56 (some ⟨b,o,none⟩) n c 0 0 Tryz.underlying30
   have f:(w.alloc (d_ #[] 56)).ownsRow w.heap.size 56 39 (a_ (some ⟨w.heap.size,0,none⟩) 0 0) 0 []:=World.ownsRow_made w #[] 0 fL gb gb
   have g:∀ j u,xs[j]? = some u→(w.alloc (d_ #[] 56)).cell? ((⟨b,o,none⟩:Addr).add j)=some u:=fun j u I=>by
    rw[←d j u I];rw[kx];exact Below.cell (p:=⟨b,o+j,none⟩) (fK.alloc fL (d_ #[] 56)) H
   have z:=gg f;have y:=gg g;have D:=gg hl;have l:=gg h1;clear f g hl h1 d;have A:0+n≤maxLen:=by omega
   go_in
   go_wp2_with (at_builtin;refine wpList_append_own _ rfl _ _ 30 rfl w.heap.size 56 m (e_ zA) 39 312 Tryz.underlying30 G F E r rfl fZ _ 0 [] rfl z.o ⟨b,o,none⟩ n c xs rfl D.o y.o l.o A f_ gb ?_;intro a w1 t B _)
   go_ret;refine⟨_,rfl,by simpa using t,?_⟩;exact(fK.alloc fL _).grown B gb (fun k s=>by cases s;exact fL)
theorem EH:(gd.info? 75).map (fun i=>(i.zero,i.size,i.bytes))=some (some (e_ #[b_ c_ 0,b_ c_ 0,b_ c_ 0,b_ c_ 0,b_ c_ 0,a_ none 0 0,b_ c_ 0,fJ false]),8,80):=by kernel_rfl
theorem Kx v n xs w (h:gl w 8 n v xs) (x:n*80≤140737488355328) :
 Calls gd 82 #[v] w fun e w'=>∃ a,e =fH a∧w'.ownsRow w.heap.size 75 8 a n xs∧Up w w':=by
 obtain⟨hl,h1,h2⟩:=h;obtain⟨m,G,F,E,r⟩:=info_parts EH;rcases h2 with⟨rfl,rfl⟩|⟨b,o,c,rfl,H,J,K,d⟩
 · have q:=fun w:World=>Lib.run_eql_slice_nil (P:=gd) w 34 75 none 0 0 0 0 Tryz.underlying34
   have i:xs=[]:=fT (by simpa using hl);have C:=gg i;clear i hl x;go_in;go_wp2;go_ret;exact⟨_,rfl,by rw[C.o];exact World.ownsRow_nil _ _ _ _,fK⟩
 · have q:=fun w:World=>Lib.run_eql_slice_nil (P:=gd) w 34 75 (some ⟨b,o,none⟩) n c 0 0 Tryz.underlying34
   have f:(w.alloc (d_ #[] 75)).ownsRow w.heap.size 75 8 (a_ (some ⟨w.heap.size,0,none⟩) 0 0) 0 []:=World.ownsRow_made w #[] 0 fL gb gb
   have g:∀ j u,xs[j]? = some u→(w.alloc (d_ #[] 75)).cell? ((⟨b,o,none⟩:Addr).add j)=some u:=fun j u I=>by
    rw[←d j u I];rw[kx];exact Below.cell (p:=⟨b,o+j,none⟩) (fK.alloc fL (d_ #[] 75)) H
   have z:=gg f;have y:=gg g;have D:=gg hl;have l:=gg h1;clear f g hl h1 d;have A:0+n≤maxLen:=by omega
   go_in
   go_wp2_with (at_builtin;refine wpList_append_own _ rfl _ _ 34 rfl w.heap.size 75 m (e_ #[b_ c_ 0,b_ c_ 0,b_ c_ 0,b_ c_ 0,b_ c_ 0,a_ none 0 0,b_ c_ 0,fJ false]) 8 80 Tryz.underlying34 G F E r rfl fZ _ 0 [] rfl z.o ⟨b,o,none⟩ n c xs rfl D.o y.o l.o A f_ gb ?_;intro a w1 t B _)
   go_ret;refine⟨_,rfl,by simpa using t,?_⟩;exact(fK.alloc fL _).grown B gb (fun k s=>by cases s;exact fL)
theorem GA:(gd.info? 64).map (fun i=>(i.zero,i.size,i.bytes))=some (some (e_ #[b_ c_ 0,b_ c_ 0,fJ false]),3,24):=by kernel_rfl
theorem FB v n xs w (h:iQ w 3 n v xs) (x:n*24≤140737488355328) :
 Calls gd 34 #[v] w fun e w'=>∃ a,e =fH a∧w'.ownsRow w.heap.size 64 3 a n xs∧Up w w':=by
 obtain⟨hl,h1,⟨p,c,rfl⟩,h2⟩:=h;obtain⟨m,G,F,E,r⟩:=info_parts GA;rcases p with _|p
 · have n0:n=0:=by
    by_cases e:0<n
    · obtain⟨b,o,s,e,_⟩:=(h2 e).some e;cases e
    · omega
   subst n0
   have q:=fun w:World=>Lib.run_eql_slice_nil (P:=gd) w 25 64 none 0 c 0 0 Tryz.underlying25
   have i:xs=[]:=fT (by simpa using hl);have C:=gg i;clear i hl x h2;go_in;go_wp2;go_ret;exact⟨_,rfl,by rw[C.o];exact World.ownsRow_nil _ _ _ _,fK⟩
 · have q:=fun w:World=>Lib.run_eql_slice_nil (P:=gd) w 25 64 (some p) n c 0 0 Tryz.underlying25
   have f:(w.alloc (d_ #[] 64)).ownsRow w.heap.size 64 3 (a_ (some ⟨w.heap.size,0,none⟩) 0 0) 0 []:=World.ownsRow_made w #[] 0 fL gb gb
   have g:∀ j u,xs[j]? = some u→(w.alloc (d_ #[] 64)).cell? (p.add j)=some u:=fun j u I=>by
    have hn:0<n:=by have:=(fR I).1;omega
    obtain⟨b,o,s,e,H,_,_,d⟩:=(h2 hn).some hn
    injection e with e;injection e with e;subst e
    rw[←d j u I];rw[kx];exact Below.cell (p:=⟨b,o+j,none⟩) (fK.alloc fL (d_ #[] 64)) H
   have z:=gg f;have y:=gg g;have D:=gg hl;have l:=gg h1;clear f g hl h1 h2;have A:0+n≤maxLen:=by unfold maxLen;omega
   go_in
   go_wp2_with (at_builtin;refine wpList_append_own _ rfl _ _ 25 rfl w.heap.size 64 m (e_ #[b_ c_ 0,b_ c_ 0,fJ false]) 3 24 Tryz.underlying25 G F E r rfl fZ _ 0 [] rfl z.o p n c xs rfl D.o y.o l.o A f_ gb ?_;intro a w1 t B _)
   go_ret;refine⟨_,rfl,by simpa using t,?_⟩;exact(fK.alloc fL _).grown B gb (fun k s=>by cases s;exact fL)
theorem EI:(gd.info? 59).map (fun i=>(i.zero,i.size,i.bytes))=some (some (e_ #[b_ c_ 0,b_ c_ 0,b_ c_ 0,fJ false,b_ c_ 0]),5,40):=by kernel_rfl
theorem FN v n xs w (h:gl w 5 n v xs) (x:n*40≤140737488355328) :
 Calls gd 83 #[v] w fun e w'=>∃ a,e =fH a∧w'.ownsRow w.heap.size 59 5 a n xs∧Up w w':=by
 obtain⟨hl,h1,h2⟩:=h;obtain⟨m,G,F,E,r⟩:=info_parts EI;rcases h2 with⟨rfl,rfl⟩|⟨b,o,c,rfl,H,J,K,d⟩
 · have q:=fun w:World=>Lib.run_eql_slice_nil (P:=gd) w 35 59 none 0 0 0 0 Tryz.underlying35
   have i:xs=[]:=fT (by simpa using hl);have C:=gg i;clear i hl x;go_in;go_wp2;go_ret;exact⟨_,rfl,by rw[C.o];exact World.ownsRow_nil _ _ _ _,fK⟩
 · have q:=fun w:World=>Lib.run_eql_slice_nil (P:=gd) w 35 59 (some ⟨b,o,none⟩) n c 0 0 Tryz.underlying35
   have f:(w.alloc (d_ #[] 59)).ownsRow w.heap.size 59 5 (a_ (some ⟨w.heap.size,0,none⟩) 0 0) 0 []:=World.ownsRow_made w #[] 0 fL gb gb
   have g:∀ j u,xs[j]? = some u→(w.alloc (d_ #[] 59)).cell? ((⟨b,o,none⟩:Addr).add j)=some u:=fun j u I=>by
    rw[←d j u I];rw[kx];exact Below.cell (p:=⟨b,o+j,none⟩) (fK.alloc fL (d_ #[] 59)) H
   have z:=gg f;have y:=gg g;have D:=gg hl;have l:=gg h1;clear f g hl h1 d;have A:0+n≤maxLen:=by omega
   go_in
   go_wp2_with (at_builtin;refine wpList_append_own _ rfl _ _ 35 rfl w.heap.size 59 m (e_ #[b_ c_ 0,b_ c_ 0,b_ c_ 0,fJ false,b_ c_ 0]) 5 40 Tryz.underlying35 G F E r rfl fZ _ 0 [] rfl z.o ⟨b,o,none⟩ n c xs rfl D.o y.o l.o A f_ gb ?_;intro a w1 t B _)
   go_ret;refine⟨_,rfl,by simpa using t,?_⟩;exact(fK.alloc fL _).grown B gb (fun k s=>by cases s;exact fL)
theorem L7:(gd.info? 57).map (fun i=>(i.zero,i.size,i.bytes))=some (some (a_ none 0 0),1,24):=by kernel_rfl
theorem LH v n xs w (h:gl w 1 n v xs) (x:n*24≤140737488355328) :
 Calls gd 84 #[v] w fun e w'=>∃ a,e =fH a∧w'.ownsRow w.heap.size 57 1 a n xs∧Up w w':=by
 obtain⟨hl,h1,h2⟩:=h;obtain⟨m,G,F,E,r⟩:=info_parts L7;rcases h2 with⟨rfl,rfl⟩|⟨b,o,c,rfl,H,J,K,d⟩
 · have q:=fun w:World=>Lib.run_eql_slice_nil (P:=gd) w 31 57 none 0 0 0 0 Tryz.underlying31
   have i:xs=[]:=fT (by simpa using hl);have C:=gg i;clear i hl x;go_in;go_wp2;go_ret;exact⟨_,rfl,by rw[C.o];exact World.ownsRow_nil _ _ _ _,fK⟩
 · have q:=fun w:World=>Lib.run_eql_slice_nil (P:=gd) w 31 57 (some ⟨b,o,none⟩) n c 0 0 Tryz.underlying31
   have f:(w.alloc (d_ #[] 57)).ownsRow w.heap.size 57 1 (a_ (some ⟨w.heap.size,0,none⟩) 0 0) 0 []:=World.ownsRow_made w #[] 0 fL gb gb
   have g:∀ j u,xs[j]? = some u→(w.alloc (d_ #[] 57)).cell? ((⟨b,o,none⟩:Addr).add j)=some u:=fun j u I=>by
    rw[←d j u I];rw[kx];exact Below.cell (p:=⟨b,o+j,none⟩) (fK.alloc fL (d_ #[] 57)) H
   have z:=gg f;have y:=gg g;have D:=gg hl;have l:=gg h1;clear f g hl h1 d;have A:0+n≤maxLen:=by omega
   go_in
   go_wp2_with (at_builtin;refine wpList_append_own _ rfl _ _ 31 rfl w.heap.size 57 m (a_ none 0 0) 1 24 Tryz.underlying31 G F E r rfl fZ _ 0 [] rfl z.o ⟨b,o,none⟩ n c xs rfl D.o y.o l.o A f_ gb ?_;intro a w1 t B _)
   go_ret;refine⟨_,rfl,by simpa using t,?_⟩;exact(fK.alloc fL _).grown B gb (fun k s=>by cases s;exact fL)
end
section
open Go.RowKit
section
theorem gU {w:World} {b g c1 f c3 c4 d c e a} {t:TypeId} (h:w.heap[b]? = some (d_ #[g,c1,f,c3,c4,d,c,e,a] t (0,0))) :
 w.cell? ⟨b,0,none⟩=some g∧w.cell? ⟨b,1,none⟩=some c1∧w.cell? ⟨b,2,none⟩=some f∧w.cell? ⟨b,3,none⟩=some c3∧w.cell? ⟨b,4,none⟩=some c4∧w.cell? ⟨b,5,none⟩=some d∧w.cell? ⟨b,6,none⟩=some c∧w.cell? ⟨b,7,none⟩=some e∧w.cell? ⟨b,8,none⟩=some a:=
 ⟨gv h rfl,gv h rfl,gv h rfl,gv h rfl,gv h rfl,gv h rfl,gv h rfl,gv h rfl,gv h rfl⟩
structure tN (w:World) (B N b:Nat) (wv hv ev m1 m2 m3 dv lv tv:Value) (M:i8):Prop where
 at_:w.heap[b]? = some (d_ #[wv,hv,ev,m1,m2,m3,dv,lv,tv] 37 (0,0))
 words:w.ownsRow B 3 1 wv M.words.length (gz M.words)
 harts:w.ownsRow B 56 39 hv M.harts.length (iC hC M.harts)
 ends:w.ownsRow B 3 1 ev M.ends.length (gz M.ends)
 endN:∀ g,ev.ownBlock=some g→g<N
 offW:∀ g,ev.ownBlock=some g→wv.ownBlock≠some g
 le:N≤w.heap.size
section
variable {w w':World} {B N b:Nat} {wv hv ev m1 m2 m3 dv lv tv:Value} {qs:List Value} {M:i8}
theorem tN.below (h:tN w B N b wv hv ev m1 m2 m3 dv lv tv M) (a:Up w w'):tN w' B N b wv hv ev m1 m2 m3 dv lv tv M:=
 ⟨iE a (gn h.at_) h.at_,gy h.words a,gy h.harts a,gy h.ends a,h.endN,h.offW,fO h.le a.size⟩
theorem rJ w b i j k (x y z):og b w (((w.setCell ⟨b,i,none⟩ x).setCell ⟨b,j,none⟩ y).setCell ⟨b,k,none⟩ z):=((nF w b i x).trans (nF _ b j y)).trans (nF _ b k z)
theorem na w b i j (x y):og b w ((w.setCell ⟨b,i,none⟩ x).setCell ⟨b,j,none⟩ y):=(nF w b i x).trans (nF _ b j y)
theorem Gs {a0 a1 a2} (a:w.heap[b]? = some (d_ #[a0,a1,a2,m1,m2,m3,dv,lv,tv] 37 (0,0))) (h1:w.ownsRow B 3 1 wv M.words.length (gz M.words)) (h2:w.ownsRow B 56 39 hv M.harts.length (iC hC M.harts)) (h3:w.ownsRow B 3 1 ev M.ends.length (gz M.ends))
 (d:∀ g,ev.ownBlock=some g→wv.ownBlock≠some g):tN (((w.setCell ⟨b,0,none⟩ wv).setCell ⟨b,1,none⟩ hv).setCell ⟨b,2,none⟩ ev) B w.heap.size b wv hv ev m1 m2 m3 dv lv tv M:=by
 have K:=rJ w b 0 1 2 wv hv ev;exact⟨by simpa using jb (jb (jb a 0 wv) 1 hv) 2 ev,iG h1 K (gS h1 a fZ),iG h2 K (gS h2 a fZ),iG h3 K (gS h3 a fZ),fun g c=>(h3.lt g c).2,d,by rw[kj,kj,kj];exact fL⟩
theorem Gr {a0 a1 a2} (h:tN w B N b wv hv ev m1 m2 m3 a0 a1 a2 M) (h1:w.ownsRow B 75 8 dv M.devs.length (iC sC (M.devs.zip qs))) (h2:w.ownsRow B 64 3 lv M.lines.length (iC j_ M.lines)) (h3:w.ownsRow B 59 5 tv M.trace.length (iC mK M.trace))
 (c:qs.length=M.devs.length):oE (((w.setCell ⟨b,6,none⟩ dv).setCell ⟨b,7,none⟩ lv).setCell ⟨b,8,none⟩ tv) B N b wv hv ev m1 m2 m3 dv lv tv qs M:=by
 have K:=rJ w b 6 7 8 dv lv tv;have a:=h.at_;exact⟨by simpa using jb (jb (jb a 6 dv) 7 lv) 8 tv,iG h.words K (gS h.words a fZ),iG h.harts K (gS h.harts a fZ),iG h.ends K (gS h.ends a fZ),iG h1 K (gS h1 a fZ),iG h2 K (gS h2 a fZ),iG h3 K (gS h3 a fZ),c,h.endN,h.offW,by have:=h.le;simpa[kj] using this⟩
theorem Dh {a} (h:Up a w) (c:a.heap.size≤b) i j k (x y z):Up a (((w.setCell ⟨b,i,none⟩ x).setCell ⟨b,j,none⟩ y).setCell ⟨b,k,none⟩ z):=gO (gO (gO h c _) c _) c _
end
theorem wY v M H N w (hm:gJ w v M) (hg:gF M H N) (hN:N≤100000) :
 Calls gd 46 #[v] w fun e w'=>∃ p wv hv ev m1 m2 m3 dv lv tv qs,e =fH (fG (some ⟨p,0,none⟩))∧iV w' w.heap.size p wv hv ev m1 m2 m3 dv lv tv qs M∧rF wv ev m1 m3∧Up w w':=by
 obtain⟨wv,hv,ev,m1,m2,m3,dv,lv,tv,qs,rfl,hp⟩:=hm;obtain⟨a1,c1,rfl⟩:=gN hp.words;obtain⟨a2,c2,rfl⟩:=gN hp.harts;obtain⟨a3,c3,rfl⟩:=gN hp.ends;obtain⟨a5,c5,rfl⟩:=gN hp.devs;obtain⟨a6,c6,rfl⟩:=gN hp.lines;obtain⟨a7,c7,rfl⟩:=gN hp.trace;obtain⟨b1,d1,b2,d2,b3,d3,bi,em,g1,g2,g3,g4⟩:=hp.mem.parts;injection em with em
 have e1:m1 =a_ b1 M.mem.words.length d1:=by have:=congrArg (·[0]?) em;simpa using this
 have e2:m2 =a_ b2 M.mem.pend.length d2:=by have:=congrArg (·[1]?) em;simpa using this
 have e3:m3 =a_ b3 M.mem.res.length d3:=by have:=congrArg (·[2]?) em;simpa using this
 subst e1 e2 e3;clear em;have hs:=hg.small;have s1:=hg.words;have s2:=hg.few;have s3:=hg.harts;have s4:=hg.ends;have s5:=hg.devs;have s6:=hg.lines;have s7:=hg.trace;have s8:=hs.words;have s9:=hs.pend;have eW:=hs.res;have HS:=gg hs.each;have HI:=gg hg.dev;have H1:=gg (gl.own hp.words (Di _));have H2:=gg (gl.own hp.harts (fun u G=>by obtain⟨x,_,T⟩:=List.mem_flatMap.1 G;exact o8 x u T));have H3:=gg (gl.own hp.ends (Di _));have H5:=gg (gl.own hp.devs (fun u G=>by obtain⟨x,h1,T⟩:=List.mem_flatMap.1 G;exact Ih hp.ques x h1 u T));have H6:=gg (gl.own hp.lines (fun u G=>by obtain⟨x,_,T⟩:=List.mem_flatMap.1 G;exact Dk x u T));have H7:=gg (gl.own hp.trace (fun u G=>by obtain⟨x,_,T⟩:=List.mem_flatMap.1 G;exact El x u T));have G1:=gg g1;have G2:=gg g2;have G3:=gg g3;have G4:=gg g4;have HQ:=gg hp.ques;have eM:gi (1≤H∧H≤4):=gg s2;clear hp g1 g2 g3 g4 hs hg;obtain⟨n1,cz⟩:∃ n,M.words.length=n:=⟨_,rfl⟩;obtain⟨n2,cO⟩:∃ n,M.harts.length=n:=⟨_,rfl⟩;obtain⟨n3,cJ⟩:∃ n,M.ends.length=n:=⟨_,rfl⟩;obtain⟨n5,cj⟩:∃ n,M.devs.length=n:=⟨_,rfl⟩;obtain⟨n6,cD⟩:∃ n,M.lines.length=n:=⟨_,rfl⟩;obtain⟨n7,cs⟩:∃ n,M.trace.length=n:=⟨_,rfl⟩;obtain⟨l1,aH⟩:∃ n,M.mem.words.length=n:=⟨_,rfl⟩;obtain⟨Q,an⟩:∃ n,M.mem.pend.length=n:=⟨_,rfl⟩;obtain⟨l3,ag⟩:∃ n,M.mem.res.length=n:=⟨_,rfl⟩;rw[cz] at H1 s1;rw[cO] at H2 s3;rw[cJ] at H3 s4;rw[cj] at H5 s5;rw[cD] at H6 s6;rw[cs] at H7 s7;rw[aH] at G1 s8;rw[an] at G2 s9;rw[ag] at G3 eW;rw[cz,cO,cJ,cj,cD,cs,aH,an,ag];have db:=gg cz;have dc:=gg cO;have di:=gg cJ;have aD:=gg cj;have dp:=gg cD;have c9:=gg cs;have eT:=gg aH;have cU:=gg an;have eR:=gg ag;have bC:gi (qs.length=n5):=gg (by rw[HQ.o.1,cj]);clear cz cO cJ cj cD cs aH an ag;have t3:n2≤4:=by omega
 have t4:n3≤4:=by omega
 clear s3 s4 s2 eM;go_in;go_upto_region 1 with(fail)
 go_cut [] (fun wx=>∃ N x1 y1 x2 y2 x3 y3,tN wx w.heap.size N w.heap.size (a_ x1 n1 y1) (a_ x2 n2 y2) (a_ x3 n3 y3) (a_ b1 l1 d1) (a_ b2 Q d2) (a_ b3 l3 d3) (a_ a5 n5 c5) (a_ a6 n6 c6) (a_ a7 n7 c7) M∧w.heap.size≤N∧Up w wx)
 case first=>
  have dU:gi (Up w (w.alloc (d_ #[a_ a1 n1 c1,a_ a2 n2 c2,a_ a3 n3 c3,a_ b1 l1 d1,a_ b2 Q d2,a_ b3 l3 d3,a_ a5 n5 c5,a_ a6 n6 c6,a_ a7 n7 c7] 37)).drew):=gg (iR (gr _ _));refine fY (fun w'=>w.heap.size<w'.heap.size∧w'.heap[w.heap.size]? = some (d_ #[a_ a1 n1 c1,a_ a2 n2 c2,a_ a3 n3 c3,a_ b1 l1 d1,a_ b2 Q d2,a_ b3 l3 d3,a_ a5 n5 c5,a_ a6 n6 c6,a_ a7 n7 c7] 37 (0,0))) 10 [true,true,false,true,true,false,true,true] (fun w1 w2 h G=>⟨fN h.1 G.size,iE G h.1 h.2⟩) ⟨by simp,gH w _⟩ ?a1 ?h1 ?ht1
  case h1=>
   intro w0 ⟨V,af⟩;obtain⟨C,E,I,k3,B,F,t,z,A⟩:=gU af;have x0:=fun x=>gD V C x
   have x1:=fun x=>gD V E x
   have x2:=fun x=>gD V I x
   clear C E I k3 B F t z A af;simp only[jd];repeat(go_big_quiet_step (fail))
   refine wpQuiet_nil ?_
   rfl
  case ht1=>
   change kD _ _ _ _ _ _ 4 _ _ _;refine jQ (i:=2) ga fZ rfl ?_
   intro w1 ac ⟨aH,bk⟩;have dn:=gg (gj dU.o ac);clear dU
   go_wp2_with fail
   refine(pD _ _ _ _ (H1.o.below dn.o) f_).mono ?_
   rintro e v1 ⟨r1,rfl,aA,cy⟩;obtain⟨x1,y1,rfl⟩:=gN aA;have cY:=gg aA;have fi:=cy.size;have cL:=gg (gj dn.o cy);clear dn;have O1:=gg (jW aA (Nat.le_of_lt aH));clear aA;have SZ:gi (v1.heap.size≤v1.heap.size):=gg fL
   go_wp2_with fail
   refine⟨⟨fN aH cy.size,gk cy bk⟩,?_⟩;refine C8 (i:=5) (k:=9) ga fZ fZ rfl rfl ?_ ?_
   · intro w2 bo ⟨an,aO⟩
     have bA:=gg (gj cL.o bo);clear cL;have bE:=gg (gy O1.o bo);clear O1;have bt:=gg (fO SZ.o (bo).size);clear SZ
     go_wp2_with fail
     refine(G_ _ _ _ _ (H2.o.below bA.o) f_).mono ?_
     rintro e v2 ⟨r2,rfl,aK,f⟩;obtain⟨x2,y2,rfl⟩:=gN aK;have eP:=gg aK;have eN:=f.size;have ak:=(bt).o;have cH:=gg (gj bA.o f);clear bA;have cG:=gg (gy bE.o f);clear bE;have ct:=gg (fO bt.o (f).size);clear bt;have O2:=gg (jW aK (Nat.le_of_lt an));clear aK
     go_wp2_with fail
     refine⟨⟨fN an f.size,gk f aO⟩,?_⟩;refine C8 (i:=8) (k:=9) ga fZ fZ rfl rfl ?_ ?_
     · intro w3 m ⟨ag,aP⟩
       have au:=gg (gj cH.o m);clear cH;have a8:=gg (gy cG.o m);clear cG;have ar:=gg (fO ct.o (m).size);clear ct;have bT:=gg (gy O2.o m);clear O2
       go_wp2_with fail
       refine(pD _ _ _ _ (H3.o.below au.o) f_).mono ?_
       rintro e v3 ⟨r3,rfl,R,ai⟩;obtain⟨x3,y3,rfl⟩:=gN R;have bH:=gg R;have dH:=ai.size;have ak:=(ar).o;have bV:=gg (gj au.o ai);clear au;have bI:=gg (gy a8.o ai);clear a8;have bR:=gg (fO ar.o (ai).size);clear ar;have d7:=gg (gy bT.o ai);clear bT;have O3:=gg (jW R (Nat.le_of_lt ag));clear R
       go_wp2_with fail
       refine⟨⟨fN ag ai.size,gk ai aP⟩,?_⟩;refine jQ (i:=9) ga fZ rfl ?_
       intro w4 ad ⟨aE,ab⟩;have aB:=gg (gj bV.o ad);clear bV;have aT:=gg (gy bI.o ad);clear bI;have ao:=gg (fO bR.o (ad).size);clear bR;have bf:=gg (gy d7.o ad);clear d7;have ei:=gg (gy O3.o ad);clear O3
       go_wp2_with fail
       refine⟨⟨aE,ab⟩,?_⟩;refine lR ga ?_
       intro w5 S ⟨dD,a⟩;have aV:=gg (gj aB.o S);clear aB;have ce:=gg (gy aT.o S);clear aT;have d8:=gg (fO ao.o (S).size);clear ao;have b4:=gg (gy bf.o S);clear bf;have bK:=gg (gy ei.o S);clear ei;obtain⟨C,E,I,k3,B,F,t,z,A⟩:=gU a;have f0:=gC a 0;have f1:=gC a 1;have f2:=gC a 2;have f3:=gC a 3;have f4:=gC a 4;have f5:=gC a 5;have f6:=gC a 6;have f7:=gC a 7;have f8:=gC a 8;have P:=gg a;clear a S;simp only[List.drop_succ_cons,List.drop_zero]
       go_wp2
       go_meet
       case rel=>exact⟨w5.heap.size,_,_,_,_,_,_,Gs P.o (by rw[db.o];exact ce.o) (by rw[dc.o];exact b4.o) (by rw[di.o];exact bK.o) (fun g e3 e1=>Bv cY.o bH.o f_ g e1 e3),(aV.o).size,Dh aV.o fL _ _ _ _ _ _⟩
     · intro w3 m ⟨ag,aP⟩
       have au:=gg (gj cH.o m);clear cH;have a8:=gg (gy cG.o m);clear cG;have ar:=gg (fO ct.o (m).size);clear ct;have bT:=gg (gy O2.o m);clear O2
       go_wp2_with fail
       refine⟨⟨ag,aP⟩,?_⟩;refine jQ (i:=8) ga fZ rfl ?_
       intro w4 ad ⟨aE,ab⟩;have aB:=gg (gj au.o ad);clear au;have aT:=gg (gy a8.o ad);clear a8;have ao:=gg (fO ar.o (ad).size);clear ar;have bf:=gg (gy bT.o ad);clear bT
       go_wp2_with fail
       refine(pD _ _ _ _ (H3.o.below aB.o) f_).mono ?_
       rintro e v4 ⟨r3,rfl,R,ae⟩;obtain⟨x3,y3,rfl⟩:=gN R;have bH:=gg R;have dH:=ae.size;have ak:=(ao).o;have ck:=gg (gj aB.o ae);clear aB;have cf:=gg (gy aT.o ae);clear aT;have cl:=gg (fO ao.o (ae).size);clear ao;have bU:=gg (gy bf.o ae);clear bf;have O3:=gg (jW R (Nat.le_of_lt aE));clear R
       go_wp2_with fail
       refine⟨⟨fN aE ae.size,gk ae ab⟩,?_⟩;refine lR ga ?_
       intro w5 S ⟨dD,a⟩;have aV:=gg (gj ck.o S);clear ck;have ce:=gg (gy cf.o S);clear cf;have d8:=gg (fO cl.o (S).size);clear cl;have b4:=gg (gy bU.o S);clear bU;have bK:=gg (gy O3.o S);clear O3;obtain⟨C,E,I,k3,B,F,t,z,A⟩:=gU a;have f0:=gC a 0;have f1:=gC a 1;have f2:=gC a 2;have f3:=gC a 3;have f4:=gC a 4;have f5:=gC a 5;have f6:=gC a 6;have f7:=gC a 7;have f8:=gC a 8;have P:=gg a;clear a S;simp only[List.drop_succ_cons,List.drop_zero]
       go_wp2
       go_meet
       case rel=>exact⟨w5.heap.size,_,_,_,_,_,_,Gs P.o (by rw[db.o];exact ce.o) (by rw[dc.o];exact b4.o) (by rw[di.o];exact bK.o) (fun g e3 e1=>Bv cY.o bH.o f_ g e1 e3),(aV.o).size,Dh aV.o fL _ _ _ _ _ _⟩
   · intro w2 bo ⟨an,aO⟩
     have bA:=gg (gj cL.o bo);clear cL;have bE:=gg (gy O1.o bo);clear O1;have bt:=gg (fO SZ.o (bo).size);clear SZ
     go_wp2_with fail
     refine⟨⟨an,aO⟩,?_⟩;refine jQ (i:=5) ga fZ rfl ?_
     intro w3 m ⟨ag,aP⟩;have au:=gg (gj bA.o m);clear bA;have a8:=gg (gy bE.o m);clear bE;have ar:=gg (fO bt.o (m).size);clear bt
     go_wp2_with fail
     refine(G_ _ _ _ _ (H2.o.below au.o) f_).mono ?_
     rintro e v3 ⟨r2,rfl,aK,ai⟩;obtain⟨x2,y2,rfl⟩:=gN aK;have eP:=gg aK;have eN:=ai.size;have ak:=(ar).o;have bV:=gg (gj au.o ai);clear au;have bI:=gg (gy a8.o ai);clear a8;have bR:=gg (fO ar.o (ai).size);clear ar;have O2:=gg (jW aK (Nat.le_of_lt ag));clear aK
     go_wp2_with fail
     refine⟨⟨fN ag ai.size,gk ai aP⟩,?_⟩;refine jQ (i:=8) ga fZ rfl ?_
     intro w4 ad ⟨aE,ab⟩;have aB:=gg (gj bV.o ad);clear bV;have aT:=gg (gy bI.o ad);clear bI;have ao:=gg (fO bR.o (ad).size);clear bR;have bf:=gg (gy O2.o ad);clear O2
     go_wp2_with fail
     refine(pD _ _ _ _ (H3.o.below aB.o) f_).mono ?_
     rintro e v4 ⟨r3,rfl,R,ae⟩;obtain⟨x3,y3,rfl⟩:=gN R;have bH:=gg R;have dH:=ae.size;have ak:=(ao).o;have ck:=gg (gj aB.o ae);clear aB;have cf:=gg (gy aT.o ae);clear aT;have cl:=gg (fO ao.o (ae).size);clear ao;have bU:=gg (gy bf.o ae);clear bf;have O3:=gg (jW R (Nat.le_of_lt aE));clear R
     go_wp2_with fail
     refine⟨⟨fN aE ae.size,gk ae ab⟩,?_⟩;refine lR ga ?_
     intro w5 S ⟨dD,a⟩;have aV:=gg (gj ck.o S);clear ck;have ce:=gg (gy cf.o S);clear cf;have d8:=gg (fO cl.o (S).size);clear cl;have b4:=gg (gy bU.o S);clear bU;have bK:=gg (gy O3.o S);clear O3;obtain⟨C,E,I,k3,B,F,t,z,A⟩:=gU a;have f0:=gC a 0;have f1:=gC a 1;have f2:=gC a 2;have f3:=gC a 3;have f4:=gC a 4;have f5:=gC a 5;have f6:=gC a 6;have f7:=gC a 7;have f8:=gC a 8;have P:=gg a;clear a S;simp only[List.drop_succ_cons,List.drop_zero]
     go_wp2
     go_meet
     case rel=>exact⟨w5.heap.size,_,_,_,_,_,_,Gs P.o (by rw[db.o];exact ce.o) (by rw[dc.o];exact b4.o) (by rw[di.o];exact bK.o) (fun g e3 e1=>Bv cY.o bH.o f_ g e1 e3),(aV.o).size,Dh aV.o fL _ _ _ _ _ _⟩
 case rest=>
 obtain⟨N1,x1,y1,x2,y2,x3,y3,hA,el,hB⟩:=hcut;have eF:=gg el;clear el;obtain⟨wa,eQ⟩:∃ x,x=wc:=⟨_,rfl⟩;subst eQ;have HA:=gg hA;have HB:=gg hB;have cQ:=gn hA.at_;clear hA hB;go_upto_region 2 with(fail)
 go_cut [] (fun wx=>∃ x5 y5 x6 y6 x7 y7,oE wx w.heap.size N1 w.heap.size (a_ x1 n1 y1) (a_ x2 n2 y2) (a_ x3 n3 y3) (a_ b1 l1 d1) (a_ b2 Q d2) (a_ b3 l3 d3) (a_ x5 n5 y5) (a_ x6 n6 y6) (a_ x7 n7 y7) qs M∧Up w wx)
 case first=>
  refine fY (fun w'=>w.heap.size<w'.heap.size∧w'.heap[w.heap.size]? = some (d_ #[a_ x1 n1 y1,a_ x2 n2 y2,a_ x3 n3 y3,a_ b1 l1 d1,a_ b2 Q d2,a_ b3 l3 d3,a_ a5 n5 c5,a_ a6 n6 c6,a_ a7 n7 c7] 37 (0,0))) 10 [true,true,false,true,true,false,true,true] (fun w1 w2 h G=>⟨fN h.1 G.size,iE G h.1 h.2⟩) ⟨cQ,HA.o.at_⟩ ?a2 ?h2 ?ht2
  case h2=>
   intro w0 ⟨V,af⟩;obtain⟨C,E,I,k3,B,F,t,z,A⟩:=gU af;have fb:=fun x=>gD V t x
   have fs:=fun x=>gD V z x
   have fr:=fun x=>gD V A x
   clear C E I k3 B F t z A af;simp only[jd];repeat(go_big_quiet_step (fail))
   refine wpQuiet_nil ?_
   rfl
  case ht2=>
   change kD _ _ _ _ _ _ 4 _ _ _;have b6:gi (Up w wa.drew):=gg (iR HB.o);have dB:=gg (HA.o.below (iR (Below.refl _ wa)));refine jQ (i:=2) ga fZ rfl ?_
   intro fm ep ⟨ex,fe⟩;have cS:=gg (gj b6.o ep);clear b6;have dk:=gg ((dB.o).below ep);clear dB
   go_wp2_with fail
   refine(Kx _ _ _ _ (H5.o.below cS.o) f_).mono ?_
   rintro e dP ⟨r5,rfl,cM,bJ⟩;obtain⟨x5,y5,rfl⟩:=gN cM;have fh:=gg cM;have fw:=bJ.size;have fo:=dk.o.le;have cN:=gg (gj cS.o bJ);clear cS;have cF:=gg ((dk.o).below bJ);clear dk;have O5:=gg (jW cM (Nat.le_of_lt ex));clear cM;have SZ:gi (dP.heap.size≤dP.heap.size):=gg fL
   go_wp2_with fail
   refine⟨⟨fN ex bJ.size,gk bJ fe⟩,?_⟩;refine C8 (i:=5) (k:=9) ga fZ fZ rfl rfl ?_ ?_
   · intro eX aM ⟨cr,da⟩
     have bx:=gg (gj cN.o aM);clear cN;have bw:=gg ((cF.o).below aM);clear cF;have bS:=gg (gy O5.o aM);clear O5;have bz:=gg (fO SZ.o (aM).size);clear SZ
     go_wp2_with fail
     refine(FB _ _ _ _ (H6.o.below bx.o).e f_).mono ?_
     rintro e fj ⟨r6,rfl,aF,bl⟩;obtain⟨x6,y6,rfl⟩:=gN aF;have eJ:=gg aF;have eZ:=bl.size;have fz:=bw.o.le;have ak:=(bz).o;have cn:=gg (gj bx.o bl);clear bx;have cI:=gg ((bw.o).below bl);clear bw;have cP:=gg (gy bS.o bl);clear bS;have cC:=gg (fO bz.o (bl).size);clear bz;have O6:=gg (jW aF (Nat.le_of_lt cr));clear aF
     go_wp2_with fail
     refine⟨⟨fN cr bl.size,gk bl da⟩,?_⟩;refine C8 (i:=8) (k:=9) ga fZ fZ rfl rfl ?_ ?_
     · intro dZ aa ⟨bp,ch⟩
       have az:=gg (gj cn.o aa);clear cn;have ap:=gg ((cI.o).below aa);clear cI;have aY:=gg (gy cP.o aa);clear cP;have av:=gg (fO cC.o (aa).size);clear cC;have b7:=gg (gy O6.o aa);clear O6
       go_wp2_with fail
       refine(FN _ _ _ _ (H7.o.below az.o) f_).mono ?_
       rintro e eE ⟨r7,rfl,ah,Z⟩;obtain⟨x7,y7,rfl⟩:=gN ah;have et:=gg ah;have dV:=Z.size;have eO:=ap.o.le;have ak:=(av).o;have bZ:=gg (gj az.o Z);clear az;have bN:=gg ((ap.o).below Z);clear ap;have bW:=gg (gy aY.o Z);clear aY;have bM:=gg (fO av.o (Z).size);clear av;have es:=gg (gy b7.o Z);clear b7;have O7:=gg (jW ah (Nat.le_of_lt bp));clear ah
       go_wp2_with fail
       refine⟨⟨fN bp Z.size,gk Z ch⟩,?_⟩;refine jQ (i:=9) ga fZ rfl ?_
       intro du X ⟨bj,cg⟩;have ay:=gg (gj bZ.o X);clear bZ;have aw:=gg ((bN.o).below X);clear bN;have aZ:=gg (gy bW.o X);clear bW;have ax:=gg (fO bM.o (X).size);clear bM;have bb:=gg (gy es.o X);clear es;have dR:=gg (gy O7.o X);clear O7
       go_wp2_with fail
       refine⟨⟨bj,cg⟩,?_⟩;refine lR ga ?_
       intro ey O ⟨eh,b⟩;have bP:=gg (gj ay.o O);clear ay;have b0:=gg ((aw.o).below O);clear aw;have cb:=gg (gy aZ.o O);clear aZ;have dY:=gg (fO ax.o (O).size);clear ax;have bQ:=gg (gy bb.o O);clear bb;have bB:=gg (gy dR.o O);clear dR;obtain⟨C,E,I,k3,B,F,t,z,A⟩:=gU b;have f0:=gC b 0;have f1:=gC b 1;have f2:=gC b 2;have f3:=gC b 3;have f4:=gC b 4;have f5:=gC b 5;have f6:=gC b 6;have f7:=gC b 7;have f8:=gC b 8;have P:=gg b;clear b O;simp only[List.drop_succ_cons,List.drop_zero]
       go_wp2
       go_meet
       case rel=>exact⟨_,_,_,_,_,_,Gr b0.o (by rw[aD.o];exact cb.o) (by rw[dp.o];exact bQ.o) (by rw[c9.o];exact bB.o) (by rw[bC.o,aD.o]),Dh bP.o fL _ _ _ _ _ _⟩
     · intro dZ aa ⟨bp,ch⟩
       have az:=gg (gj cn.o aa);clear cn;have ap:=gg ((cI.o).below aa);clear cI;have aY:=gg (gy cP.o aa);clear cP;have av:=gg (fO cC.o (aa).size);clear cC;have b7:=gg (gy O6.o aa);clear O6
       go_wp2_with fail
       refine⟨⟨bp,ch⟩,?_⟩;refine jQ (i:=8) ga fZ rfl ?_
       intro du X ⟨bj,cg⟩;have ay:=gg (gj az.o X);clear az;have aw:=gg ((ap.o).below X);clear ap;have aZ:=gg (gy aY.o X);clear aY;have ax:=gg (fO av.o (X).size);clear av;have bb:=gg (gy b7.o X);clear b7
       go_wp2_with fail
       refine(FN _ _ _ _ (H7.o.below ay.o) f_).mono ?_
       rintro e eU ⟨r7,rfl,ah,Y⟩;obtain⟨x7,y7,rfl⟩:=gN ah;have et:=gg ah;have dV:=Y.size;have eI:=aw.o.le;have ak:=(ax).o;have b5:=gg (gj ay.o Y);clear ay;have bD:=gg ((aw.o).below Y);clear aw;have cd:=gg (gy aZ.o Y);clear aZ;have bL:=gg (fO ax.o (Y).size);clear ax;have ci:=gg (gy bb.o Y);clear bb;have O7:=gg (jW ah (Nat.le_of_lt bj));clear ah
       go_wp2_with fail
       refine⟨⟨fN bj Y.size,gk Y cg⟩,?_⟩;refine lR ga ?_
       intro ey O ⟨eh,b⟩;have bP:=gg (gj b5.o O);clear b5;have b0:=gg ((bD.o).below O);clear bD;have cb:=gg (gy cd.o O);clear cd;have dY:=gg (fO bL.o (O).size);clear bL;have bQ:=gg (gy ci.o O);clear ci;have bB:=gg (gy O7.o O);clear O7;obtain⟨C,E,I,k3,B,F,t,z,A⟩:=gU b;have f0:=gC b 0;have f1:=gC b 1;have f2:=gC b 2;have f3:=gC b 3;have f4:=gC b 4;have f5:=gC b 5;have f6:=gC b 6;have f7:=gC b 7;have f8:=gC b 8;have P:=gg b;clear b O;simp only[List.drop_succ_cons,List.drop_zero]
       go_wp2
       go_meet
       case rel=>exact⟨_,_,_,_,_,_,Gr b0.o (by rw[aD.o];exact cb.o) (by rw[dp.o];exact bQ.o) (by rw[c9.o];exact bB.o) (by rw[bC.o,aD.o]),Dh bP.o fL _ _ _ _ _ _⟩
   · intro eX aM ⟨cr,da⟩
     have bx:=gg (gj cN.o aM);clear cN;have bw:=gg ((cF.o).below aM);clear cF;have bS:=gg (gy O5.o aM);clear O5;have bz:=gg (fO SZ.o (aM).size);clear SZ
     go_wp2_with fail
     refine⟨⟨cr,da⟩,?_⟩;refine jQ (i:=5) ga fZ rfl ?_
     intro dZ aa ⟨bp,ch⟩;have az:=gg (gj bx.o aa);clear bx;have ap:=gg ((bw.o).below aa);clear bw;have aY:=gg (gy bS.o aa);clear bS;have av:=gg (fO bz.o (aa).size);clear bz
     go_wp2_with fail
     refine(FB _ _ _ _ (H6.o.below az.o).e f_).mono ?_
     rintro e eE ⟨r6,rfl,aF,Z⟩;obtain⟨x6,y6,rfl⟩:=gN aF;have eJ:=gg aF;have eZ:=Z.size;have eO:=ap.o.le;have ak:=(av).o;have bZ:=gg (gj az.o Z);clear az;have bN:=gg ((ap.o).below Z);clear ap;have bW:=gg (gy aY.o Z);clear aY;have bM:=gg (fO av.o (Z).size);clear av;have O6:=gg (jW aF (Nat.le_of_lt bp));clear aF
     go_wp2_with fail
     refine⟨⟨fN bp Z.size,gk Z ch⟩,?_⟩;refine jQ (i:=8) ga fZ rfl ?_
     intro du X ⟨bj,cg⟩;have ay:=gg (gj bZ.o X);clear bZ;have aw:=gg ((bN.o).below X);clear bN;have aZ:=gg (gy bW.o X);clear bW;have ax:=gg (fO bM.o (X).size);clear bM;have bb:=gg (gy O6.o X);clear O6
     go_wp2_with fail
     refine(FN _ _ _ _ (H7.o.below ay.o) f_).mono ?_
     rintro e eU ⟨r7,rfl,ah,Y⟩;obtain⟨x7,y7,rfl⟩:=gN ah;have et:=gg ah;have dV:=Y.size;have eI:=aw.o.le;have ak:=(ax).o;have b5:=gg (gj ay.o Y);clear ay;have bD:=gg ((aw.o).below Y);clear aw;have cd:=gg (gy aZ.o Y);clear aZ;have bL:=gg (fO ax.o (Y).size);clear ax;have ci:=gg (gy bb.o Y);clear bb;have O7:=gg (jW ah (Nat.le_of_lt bj));clear ah
     go_wp2_with fail
     refine⟨⟨fN bj Y.size,gk Y cg⟩,?_⟩;refine lR ga ?_
     intro ey O ⟨eh,b⟩;have bP:=gg (gj b5.o O);clear b5;have b0:=gg ((bD.o).below O);clear bD;have cb:=gg (gy cd.o O);clear cd;have dY:=gg (fO bL.o (O).size);clear bL;have bQ:=gg (gy ci.o O);clear ci;have bB:=gg (gy O7.o O);clear O7;obtain⟨C,E,I,k3,B,F,t,z,A⟩:=gU b;have f0:=gC b 0;have f1:=gC b 1;have f2:=gC b 2;have f3:=gC b 3;have f4:=gC b 4;have f5:=gC b 5;have f6:=gC b 6;have f7:=gC b 7;have f8:=gC b 8;have P:=gg b;clear b O;simp only[List.drop_succ_cons,List.drop_zero]
     go_wp2
     go_meet
     case rel=>exact⟨_,_,_,_,_,_,Gr b0.o (by rw[aD.o];exact cb.o) (by rw[dp.o];exact bQ.o) (by rw[c9.o];exact bB.o) (by rw[bC.o,aD.o]),Dh bP.o fL _ _ _ _ _ _⟩
 case rest=>
 obtain⟨x5,y5,x6,y6,x7,y7,hM,hB⟩:=hcut;obtain⟨wb,e8⟩:∃ x,x=wc:=⟨_,rfl⟩;subst e8;have HM:=gg hM;have HB:=gg hB;clear hM hB;obtain⟨C,E,I,k3,B,F,t,z,A⟩:=gU HM.o.at_
 go_wp2_with fail
 clear C E I k3 B F t z A
 go_loopw [33] (fun i wr=>∃ (k:Nat) (qk:List Value),k≤n5∧qk.length=k∧i =b_ c_ k∧oE wr w.heap.size N1 w.heap.size (a_ x1 n1 y1) (a_ x2 n2 y2) (a_ x3 n3 y3) (a_ b1 l1 d1) (a_ b2 Q d2) (a_ b3 l3 d3) (a_ x5 n5 y5) (a_ x6 n6 y6) (a_ x7 n7 y7) (qk ++ qs.drop k) M∧kO wr N1 qk M.devs∧Up w wr) (fun i _=>n5 - (intOf i).toNat)
 case atStart=>exact⟨0,[],fM,rfl,rfl,by simpa using HM.o,fun j q s h=>by simp at h,HB.o⟩
 case round=>
  obtain⟨k,qk,hk,cZ,rfl,hm,bG,hb⟩:=hrel;have bc:=gg hm;have er:=gg bG;have ek:=gg hb;clear hm bG hb;by_cases V:k<n5
  · obtain⟨g,c,df,e2,bq,cu⟩:=uO bc.o.devs (by rw[aD.o];omega)
    injection e2 with e3 e4 e5
    subst e3 e5;clear e4;have cw:k<M.devs.length:=by rw[aD.o];exact V
    have de:k<qs.length:=by rw[bC.o];exact V
    have ds:wr.cell? ⟨g,k*8+5,none⟩=some qs[k]:=by
     have h0:k*8+5<M.devs.length*8:=by omega
     have hd:=bc.o.devs;rw[aD.o] at hd h0;have h1:=hd.cellAt (k*8+5) h0;rw[h1,lI (fun y _=>tK y) (i:=k) (x:=(M.devs[k],qs[k])) (by rw[List.getElem?_zip_eq_some];exact⟨fQ cw,by rw[List.getElem?_append_right f_,cZ,Nat.sub_self];simp[de]⟩) fZ]
     rfl
    have co:=HQ.o.2 k qs[k] M.devs[k] (by simp[de]) (by simp[cw]);obtain⟨aq,cq,eq⟩:=co.shape;rw[eq] at ds co;have fd:=gg co;have ft:=(HI.o M.devs[k] (List.getElem_mem _)).q;have e9:gi (M.devs[k]? = some M.devs[k]):=gg (by simp[cw]);have dl:=gn bq;have bv:=gg bq;have dJ:=gg ds;have cW:=gn bc.o.at_;clear co eq ds bq cu;generalize M.devs[k]=D at *
    have fA:D.q.length≤1000:=by omega
    go_wp2_with fail
    refine fY (fun w'=>(w.heap.size<w'.heap.size∧w'.heap[w.heap.size]? = some (d_ #[a_ x1 n1 y1,a_ x2 n2 y2,a_ x3 n3 y3,a_ b1 l1 d1,a_ b2 Q d2,a_ b3 l3 d3,a_ (some ⟨g,0,none⟩) n5 y5,a_ x6 n6 y6,a_ x7 n7 y7] 37 (0,0)))∧g<w'.heap.size∧w'.heap[g]? = some (d_ df 75 (0,0))) 10 [true,true,true,true,true,true,true,true,true] (fun w1 w2 h G=>⟨⟨fN h.1.1 G.size,iE G h.1.1 h.1.2⟩,fN h.2.1 G.size,iE G h.2.1 h.2.2⟩) ⟨⟨cW,bc.o.at_⟩,dl,bv.o⟩ ?a3 ?h3 ?ht3
    case h3=>
     intro w0 ⟨⟨V,af⟩,eY,d5⟩;obtain⟨C,E,I,k3,B,F,t,z,A⟩:=gU af
     have cx:w0.cell? ⟨g,k*8+5,none⟩=some (a_ aq D.q.length cq):=by
      have:=dJ.o;simp only[World.cell?,bv.o] at this;simp only[World.cell?,d5];exact this
     have fb:=fun x=>gD V t x
     have xq:=fun x=>gD eY cx x
     clear C E I k3 B F t z A af d5 cx;simp only[jd];repeat(go_big_quiet_step (fail))
     refine wpQuiet_nil ?_
     rfl
    case ht3=>
     change kD _ _ _ _ _ _ 1 _ _ _;refine jQ (i:=9) ga fZ rfl ?_
     intro w1 dm ⟨⟨aH,bk⟩,an,aO⟩;have ac:Up wr w1:=zB;have M1:=gg (bc.o.below ac);have Q1:=gg (er.o.below ac);have B1:=gg (gj ek.o ac);clear ac dm
     go_wp2_with fail
     refine(pD _ _ _ _ (fd.o.below B1.o) f_).mono ?_
     rintro e w2 ⟨r,rfl,al,f⟩;obtain⟨xr,yr,rfl⟩:=gN al;have c0:=gg (jW al M1.o.le);have br:=gk f bk;have bm:=gk f aO;have M2:=gg (M1.o.below f);have Q2:=gg (Q1.o.below f);have B2:=gg (gj B1.o f);clear al f
     go_wp2_with fail
     refine⟨⟨⟨gn br,br⟩,gn bm,bm⟩,?_⟩;refine lR ga ?_
     intro w3 m ⟨⟨ag,aP⟩,aE,ab⟩;have M3:=gg (M2.o.below m);have Q3:=gg (Q2.o.below m);have B3:=gg (gj B2.o m);have cX:=gg (gy c0.o m)
     have cx:w3.cell? ⟨g,k*8+5,none⟩=some (a_ aq D.q.length cq):=by
      have:=dJ.o;simp only[World.cell?,bv.o] at this;simp only[World.cell?,ab];exact this
     have eC:=gC ab (k*8+5);have P3:=gg (M3.o.que (g:=g) rfl cw (a_ xr D.q.length yr));have dt:=gg ab;clear m bk aO aP ab br bm;simp only[List.drop_succ_cons,List.drop_zero]
     go_wp2
     go_roundw
     case rel=>
      refine⟨k+1,qk ++ [a_ xr D.q.length yr],by omega,by simp;omega,by go_num,?_,?_,gO B3.o (by have:=bc.o.devs;exact(this.lt g rfl).1) _⟩
      · have:=P3.o
        have e:(qk ++ qs.drop k).set k (a_ xr D.q.length yr)=qk ++ [a_ xr D.q.length yr] ++ qs.drop (k+1):=by
         rw[List.set_append_right _ _ f_,cZ,Nat.sub_self,List.drop_eq_getElem_cons de,List.set_cons_zero,List.append_assoc];rfl
        rw[e] at this;exact this
      · exact kO.but (kO.push Q3.o (s:=D) (by rw[cZ];exact e9.o) cX.o) (nF _ _ _ _) dt.o fZ
     case measure=>simp[intOf];omega
  · have dg:k=n5:=by omega
    subst dg;obtain⟨wd,fa⟩:∃ x,x=wr:=⟨_,rfl⟩;subst fa
    have cR:gi (oE wd w.heap.size N1 w.heap.size (a_ x1 n1 y1) (a_ x2 n2 y2) (a_ x3 n3 y3) (a_ b1 l1 d1) (a_ b2 Q d2) (a_ b3 l3 d3) (a_ x5 k y5) (a_ x6 n6 y6) (a_ x7 n7 y7) qk M):=gg (by
     have:=bc.o
     rwa [List.drop_eq_nil_of_le (by rw[bC.o];exact fL),List.append_nil] at this)
    clear bc;have cQ:=gn cR.o.at_;go_upto_region 8 with(fail)
    go_cut [] (fun wx=>∃ z1 u1 z3 u3,oE wx w.heap.size N1 w.heap.size (a_ x1 n1 y1) (a_ x2 n2 y2) (a_ x3 n3 y3) (a_ z1 l1 u1) (a_ b2 Q d2) (a_ z3 l3 u3) (a_ x5 k y5) (a_ x6 n6 y6) (a_ x7 n7 y7) qk M∧wx.ownsRow N1 3 1 (a_ z1 l1 u1) l1 (gz M.mem.words)∧wx.ownsRow N1 3 1 (a_ z3 l3 u3) l3 (gz M.mem.res)∧kO wx N1 qk M.devs∧Up w wx)
    case first=>
     refine fY (fun w'=>w.heap.size<w'.heap.size∧w'.heap[w.heap.size]? = some (d_ #[a_ x1 n1 y1,a_ x2 n2 y2,a_ x3 n3 y3,a_ b1 l1 d1,a_ b2 Q d2,a_ b3 l3 d3,a_ x5 k y5,a_ x6 n6 y6,a_ x7 n7 y7] 37 (0,0))) 10 [true,true,true,false,true,true,true] (fun w1 w2 h G=>⟨fN h.1 G.size,iE G h.1 h.2⟩) ⟨cQ,cR.o.at_⟩ ?a4 ?h4 ?ht4
     case h4=>
      intro w0 ⟨V,af⟩;obtain⟨C,E,I,k3,B,F,t,z,A⟩:=gU af;have ff:=fun x=>gD V k3 x
      have fg:=fun x=>gD V F x
      clear C E I k3 B F t z A af;simp only[jd];repeat(go_big_quiet_step (fail))
      refine wpQuiet_nil ?_
      rfl
     case ht4=>
      change kD _ _ _ _ _ _ 4 _ _ _;have b6:gi (Up w wd.drew):=gg (iR ek.o);have ea:=gg (cR.o.below (iR (Below.refl _ wd)));have ef:=gg (er.o.below (iR (Below.refl _ wd)));refine jQ (i:=3) ga fZ rfl ?_
      intro fy dd ⟨eD,eG⟩;have c8:=gg (gj b6.o dd);clear b6;have dj:=gg ((ea.o).below dd);clear ea;have ee:=gg ((ef.o).below dd);clear ef
      go_wp2_with fail
      refine(pD _ _ _ _ (G1.o.below c8.o) f_).mono ?_
      rintro e dG ⟨fk,rfl,cp,bu⟩;obtain⟨fl,fx,rfl⟩:=gN cp;have fv:=gg cp;have fD:=bu.size;have eH:=dj.o.le;have cA:=gg (gj c8.o bu);clear c8;have cv:=gg ((dj.o).below bu);clear dj;have cm:=gg ((ee.o).below bu);clear ee;have cB:=gg (jW cp (eH));clear cp;have SZ:gi (dG.heap.size≤dG.heap.size):=gg fL
      go_wp2_with fail
      refine⟨⟨fN eD bu.size,gk bu eG⟩,?_⟩;refine C8 (i:=7) (k:=8) ga fZ fZ rfl rfl ?_ ?_
      · intro e6 am ⟨dr,cT⟩
        have aR:=gg (gj cA.o am);clear cA;have aQ:=gg ((cv.o).below am);clear cv;have bs:=gg ((cm.o).below am);clear cm;have bn:=gg (gy cB.o am);clear cB;have aS:=gg (fO SZ.o (am).size);clear SZ
        go_wp2_with fail
        refine(pD _ _ _ _ (G3.o.below aR.o) f_).mono ?_
        rintro e fE ⟨ed,rfl,aj,be⟩;obtain⟨dO,ej,rfl⟩:=gN aj;have dF:=gg aj;have eg:=be.size;have eV:=aQ.o.le;have ak:=(aS).o;have d6:=gg (gj aR.o be);clear aR;have dN:=gg ((aQ.o).below be);clear aQ;have dC:=gg ((bs.o).below be);clear bs;have dw:=gg (gy bn.o be);clear bn;have ew:=gg (fO aS.o (be).size);clear aS;have a0:=gg (jW aj (eV));clear aj
        go_wp2_with fail
        refine⟨⟨fN dr be.size,gk be cT⟩,?_⟩;refine jQ (i:=8) ga fZ rfl ?_
        intro d9 W ⟨bY,bO⟩;have aN:=gg (gj d6.o W);clear d6;have aJ:=gg ((dN.o).below W);clear dN;have aU:=gg ((dC.o).below W);clear dC;have bd:=gg (gy dw.o W);clear dw;have aL:=gg (fO ew.o (W).size);clear ew;have dz:=gg (gy a0.o W);clear a0
        go_wp2_with fail
        refine⟨⟨bY,bO⟩,?_⟩;refine jQ (i:=9) ga fZ rfl ?_
        intro eA U ⟨b8,cc⟩;have aI:=gg (gj aN.o U);clear aN;have aC:=gg ((aJ.o).below U);clear aJ;have ba:=gg ((aU.o).below U);clear aU;have a9:=gg (gy bd.o U);clear bd;have aG:=gg (fO aL.o (U).size);clear aL;have bX:=gg (gy dz.o U);clear dz
        go_wp2_with fail
        refine⟨⟨b8,cc⟩,?_⟩;refine lR ga ?_
        intro ec J ⟨dx,d⟩;have b9:=gg (gj aI.o J);clear aI;have ca:=gg ((aC.o).below J);clear aC;have bF:=gg ((ba.o).below J);clear ba;have bg:=gg (gy a9.o J);clear a9;have dT:=gg (fO aG.o (J).size);clear aG;have aW:=gg (gy bX.o J);clear bX;obtain⟨C,E,I,k3,B,F,t,z,A⟩:=gU d;have f0:=gC d 0;have f1:=gC d 1;have f2:=gC d 2;have f3:=gC d 3;have f4:=gC d 4;have f5:=gC d 5;have f6:=gC d 6;have f7:=gC d 7;have f8:=gC d 8;have P:=gg d;clear d J;simp only[List.drop_succ_cons,List.drop_zero]
        go_wp2
        go_meet
        case rel=>exact⟨_,_,_,_,ca.o.cells (na _ _ 3 5 _ _) (by simpa using jb (jb P.o 3 _) 5 _),iG bg.o (na _ _ 3 5 _ _) (gS bg.o P.o fZ),iG aW.o (na _ _ 3 5 _ _) (gS aW.o P.o fZ),kO.but bF.o (na _ _ 3 5 _ _) P.o fZ,gO (gO b9.o fL _) fL _⟩
      · intro e6 am ⟨dr,cT⟩
        have aR:=gg (gj cA.o am);clear cA;have aQ:=gg ((cv.o).below am);clear cv;have bs:=gg ((cm.o).below am);clear cm;have bn:=gg (gy cB.o am);clear cB;have aS:=gg (fO SZ.o (am).size);clear SZ
        go_wp2_with fail
        refine⟨⟨dr,cT⟩,?_⟩;refine C8 (i:=7) (k:=9) ga fZ fZ rfl rfl ?_ ?_
        · intro d9 W ⟨bY,bO⟩
          have aN:=gg (gj aR.o W);clear aR;have aJ:=gg ((aQ.o).below W);clear aQ;have aU:=gg ((bs.o).below W);clear bs;have bd:=gg (gy bn.o W);clear bn;have aL:=gg (fO aS.o (W).size);clear aS
          go_wp2_with fail
          refine(pD _ _ _ _ (G3.o.below aN.o) f_).mono ?_
          rintro e fp ⟨ed,rfl,aj,bh⟩;obtain⟨dO,ej,rfl⟩:=gN aj;have dF:=gg aj;have eg:=bh.size;have e7:=aJ.o.le;have ak:=(aL).o;have dA:=gg (gj aN.o bh);clear aN;have dL:=gg ((aJ.o).below bh);clear aJ;have eo:=gg ((aU.o).below bh);clear aU;have dW:=gg (gy bd.o bh);clear bd;have dM:=gg (fO aL.o (bh).size);clear aL;have a0:=gg (jW aj (e7));clear aj
          go_wp2_with fail
          refine⟨⟨fN bY bh.size,gk bh bO⟩,?_⟩;refine jQ (i:=9) ga fZ rfl ?_
          intro eA U ⟨b8,cc⟩;have aI:=gg (gj dA.o U);clear dA;have aC:=gg ((dL.o).below U);clear dL;have ba:=gg ((eo.o).below U);clear eo;have a9:=gg (gy dW.o U);clear dW;have aG:=gg (fO dM.o (U).size);clear dM;have bX:=gg (gy a0.o U);clear a0
          go_wp2_with fail
          refine⟨⟨b8,cc⟩,?_⟩;refine lR ga ?_
          intro ec J ⟨dx,d⟩;have b9:=gg (gj aI.o J);clear aI;have ca:=gg ((aC.o).below J);clear aC;have bF:=gg ((ba.o).below J);clear ba;have bg:=gg (gy a9.o J);clear a9;have dT:=gg (fO aG.o (J).size);clear aG;have aW:=gg (gy bX.o J);clear bX;obtain⟨C,E,I,k3,B,F,t,z,A⟩:=gU d;have f0:=gC d 0;have f1:=gC d 1;have f2:=gC d 2;have f3:=gC d 3;have f4:=gC d 4;have f5:=gC d 5;have f6:=gC d 6;have f7:=gC d 7;have f8:=gC d 8;have P:=gg d;clear d J;simp only[List.drop_succ_cons,List.drop_zero]
          go_wp2
          go_meet
          case rel=>exact⟨_,_,_,_,ca.o.cells (na _ _ 3 5 _ _) (by simpa using jb (jb P.o 3 _) 5 _),iG bg.o (na _ _ 3 5 _ _) (gS bg.o P.o fZ),iG aW.o (na _ _ 3 5 _ _) (gS aW.o P.o fZ),kO.but bF.o (na _ _ 3 5 _ _) P.o fZ,gO (gO b9.o fL _) fL _⟩
        · intro d9 W ⟨bY,bO⟩
          have aN:=gg (gj aR.o W);clear aR;have aJ:=gg ((aQ.o).below W);clear aQ;have aU:=gg ((bs.o).below W);clear bs;have bd:=gg (gy bn.o W);clear bn;have aL:=gg (fO aS.o (W).size);clear aS
          go_wp2_with fail
          refine⟨⟨bY,bO⟩,?_⟩;refine jQ (i:=7) ga fZ rfl ?_
          intro eA U ⟨b8,cc⟩;have aI:=gg (gj aN.o U);clear aN;have aC:=gg ((aJ.o).below U);clear aJ;have ba:=gg ((aU.o).below U);clear aU;have a9:=gg (gy bd.o U);clear bd;have aG:=gg (fO aL.o (U).size);clear aL
          go_wp2_with fail
          refine(pD _ _ _ _ (G3.o.below aI.o) f_).mono ?_
          rintro e fq ⟨ed,rfl,aj,aX⟩;obtain⟨dO,ej,rfl⟩:=gN aj;have dF:=gg aj;have eg:=aX.size;have eB:=aC.o.le;have ak:=(aG).o;have ez:=gg (gj aI.o aX);clear aI;have dK:=gg ((aC.o).below aX);clear aC;have dy:=gg ((ba.o).below aX);clear ba;have eu:=gg (gy a9.o aX);clear a9;have d4:=gg (fO aG.o (aX).size);clear aG;have a0:=gg (jW aj (eB));clear aj
          go_wp2_with fail
          refine⟨⟨fN b8 aX.size,gk aX cc⟩,?_⟩;refine lR ga ?_
          intro ec J ⟨dx,d⟩;have b9:=gg (gj ez.o J);clear ez;have ca:=gg ((dK.o).below J);clear dK;have bF:=gg ((dy.o).below J);clear dy;have bg:=gg (gy eu.o J);clear eu;have dT:=gg (fO d4.o (J).size);clear d4;have aW:=gg (gy a0.o J);clear a0;obtain⟨C,E,I,k3,B,F,t,z,A⟩:=gU d;have f0:=gC d 0;have f1:=gC d 1;have f2:=gC d 2;have f3:=gC d 3;have f4:=gC d 4;have f5:=gC d 5;have f6:=gC d 6;have f7:=gC d 7;have f8:=gC d 8;have P:=gg d;clear d J;simp only[List.drop_succ_cons,List.drop_zero]
          go_wp2
          go_meet
          case rel=>exact⟨_,_,_,_,ca.o.cells (na _ _ 3 5 _ _) (by simpa using jb (jb P.o 3 _) 5 _),iG bg.o (na _ _ 3 5 _ _) (gS bg.o P.o fZ),iG aW.o (na _ _ 3 5 _ _) (gS aW.o P.o fZ),kO.but bF.o (na _ _ 3 5 _ _) P.o fZ,gO (gO b9.o fL _) fL _⟩
    case rest=>
    obtain⟨z1,u1,z3,u3,hM,aA,R,hq,hB⟩:=hcut;obtain⟨we,eK⟩:∃ x,x=wc:=⟨_,rfl⟩;subst eK;have HM:=gg hM;have HB:=gg hB;have O1:=gg aA;have O3:=gg R;have OQ:=gg hq;clear hM hB aA R hq;obtain⟨C,E,I,k3,B,F,t,z,A⟩:=gU HM.o.at_
    go_wp2_with fail
    refine(LH _ Q bi _ (G2.o.below HB.o) f_).mono ?_
    rintro e w2 ⟨r,rfl,al,f⟩;obtain⟨x4,y4,rfl⟩:=gN al;have R0:=gg (jW al HM.o.le);have M2:=gg (HM.o.below f);have B2:=gg (gj HB.o f);have P1:=gg (gy O1.o f);have P3:=gg (gy O3.o f);have PQ:=gg (OQ.o.below f);clear al f C E I k3 B F t z A O1 O3 OQ HB HM;obtain⟨C,E,I,k3,B,F,t,z,A⟩:=gU M2.o.at_;have f4:=gC M2.o.at_ 4
    go_wp2_with fail
    clear C E I k3 B F t z A f4
    go_loopw [71] (fun i wr=>∃ (o:Nat) (rk:List Value),o≤Q∧rk.length=o∧i =b_ c_ o∧oE wr w.heap.size N1 w.heap.size (a_ x1 n1 y1) (a_ x2 n2 y2) (a_ x3 n3 y3) (a_ z1 l1 u1) (a_ x4 Q y4) (a_ z3 l3 u3) (a_ x5 k y5) (a_ x6 n6 y6) (a_ x7 n7 y7) qk M ∧
     wr.ownsRow N1 57 1 (a_ x4 Q y4) Q (rk ++ bi.drop o)∧ms wr N1 rk M.mem.pend∧kO wr N1 qk M.devs∧wr.ownsRow N1 3 1 (a_ z1 l1 u1) l1 (gz M.mem.words)∧wr.ownsRow N1 3 1 (a_ z3 l3 u3) l3 (gz M.mem.res)∧Up w wr) (fun i _=>Q - (intOf i).toNat)
    case atStart=>
     have K:=nF w2 w.heap.size 4 (a_ x4 Q y4);have T:=M2.o.at_;exact⟨0,[],fM,rfl,rfl,M2.o.cells K (by simpa using jb T 4 _),iG R0.o K (gS R0.o T fZ),fun j r l h=>by simp at h,kO.but PQ.o K T fZ,iG P1.o K (gS P1.o T fZ),iG P3.o K (gS P3.o T fZ),gO B2.o fL _⟩
    case round=>
     obtain⟨o,rk,hk,dq,rfl,hm,hr,dQ,bG,aA,R,hb⟩:=hrel;have HM:=gg hm;have HR:=gg hr;have HE:=gg dQ;have dS:=gg bG;have O1:=gg aA;have O3:=gg R;have dh:=gg hb;clear hm hr dQ bG aA R hb M2 B2 P1 P3 PQ R0;by_cases V:o<Q
     · obtain⟨g,c,df,e2,bq,cu⟩:=uO HR.o f_
       injection e2 with e3 e4 e5
       subst e3 e5;clear e4;have eb:o<M.mem.pend.length:=by rw[cU.o];exact V
       have dI:o<bi.length:=by rw[G4.o.1];exact eb
       have cE:wr.cell? ⟨g,o,none⟩=some bi[o]:=by
        have h0:o<Q*1:=by omega
        rw[HR.o.cellAt o h0,List.getElem?_append_right f_,dq,Nat.sub_self];simp[dI]
       have cK:=G4.o.2 o bi[o] M.mem.pend[o] gb gb;obtain⟨ra,rc,d0⟩:=gN cK;rw[d0] at cE cK;have fc:=gg (gl.own cK (tI _));have fu:=HS.o M.mem.pend[o] gb;have eL:gi (M.mem.pend[o]? = some M.mem.pend[o]):=gg (by simp[eb]);have bv:=gg bq;have cW:=gn HM.o.at_;have dl:=gn bq;have fC:=cu;clear cK d0 bq cu;generalize M.mem.pend[o]=L at *
       go_wp2_with fail
       refine fY (fun w'=>(w.heap.size<w'.heap.size∧w'.heap[w.heap.size]? = some (d_ #[a_ x1 n1 y1,a_ x2 n2 y2,a_ x3 n3 y3,a_ z1 l1 u1,a_ (some ⟨g,0,none⟩) Q y4,a_ z3 l3 u3,a_ x5 k y5,a_ x6 n6 y6,a_ x7 n7 y7] 37 (0,0)))∧g<w'.heap.size∧w'.heap[g]? = some (d_ df 57 (0,0))) 6 [true,true,true,true,true] (fun w1 w2 h G=>⟨⟨fN h.1.1 G.size,iE G h.1.1 h.1.2⟩,fN h.2.1 G.size,iE G h.2.1 h.2.2⟩) ⟨⟨cW,HM.o.at_⟩,dl,bv.o⟩ ?a5 ?h5 ?ht5
       case h5=>
        intro w0 ⟨⟨V,af⟩,_⟩;obtain⟨C,E,I,k3,B,F,t,z,A⟩:=gU af;have fF:=fun x=>gD V B x
        clear C E I k3 B F t z A af;simp only[jd];repeat(go_big_quiet_step (fail))
        refine wpQuiet_nil ?_
        rfl
       case ht5=>
        change kD _ _ _ _ _ _ 1 _ _ _;refine jQ (i:=5) ga fZ rfl ?_
        intro w1 dm ⟨⟨aH,bk⟩,an,aO⟩;have ac:Up wr w1:=zB;have M1:=gg (HM.o.below ac);have R1:=gg (gy HR.o ac);have E1:=gg (HE.o.below ac);have Q1:=gg (dS.o.below ac);have A1:=gg (gy O1.o ac);have A3:=gg (gy O3.o ac);have B1:=gg (gj dh.o ac);clear ac dm
        go_wp2_with fail
        refine(Hj _ _ _ _ (fc.o.below B1.o) f_).mono ?_
        rintro e w2 ⟨r,rfl,al,f⟩;obtain⟨xr,yr,rfl⟩:=gN al;have c0:=gg (jW al M1.o.le);have br:=gk f bk;have bm:=gk f aO;have M2:=gg (M1.o.below f);have R2:=gg (gy R1.o f);have E2:=gg (E1.o.below f);have Q2:=gg (Q1.o.below f);have eS:=gg (gy A1.o f);have e0:=gg (gy A3.o f);have B2:=gg (gj B1.o f);clear al f
        go_wp2_with fail
        refine⟨⟨⟨gn br,br⟩,gn bm,bm⟩,?_⟩;refine lR ga ?_
        intro w3 m ⟨⟨ag,aP⟩,aE,ab⟩;have M3:=gg (M2.o.below m);have R3:=gg (gy R2.o m);have E3:=gg (E2.o.below m);have Q3:=gg (Q2.o.below m);have C1:=gg (gy eS.o m);have C3:=gg (gy e0.o m);have B3:=gg (gj B2.o m);have cX:=gg (gy c0.o m)
        have cx:w3.cell? ⟨g,o,none⟩=some (a_ ra L.length rc):=by
         simp only[World.cell?,bv.o] at cE;simp only[World.cell?,ab];exact cE
        have eC:=gC ab o;have dt:=gg ab;clear m bk aO aP ab br bm cE;simp only[List.drop_succ_cons,List.drop_zero]
        go_wp2
        go_roundw
        case rel=>
         have K:=nF w3 g o (a_ xr L.length yr);have T:=dt.o;refine⟨o+1,rk ++ [a_ xr L.length yr],by omega,by simp;omega,by go_num,M3.o.ents K T,?_,ms.but (ms.push E3.o (s:=L) (by rw[dq];exact eL.o) cX.o) K T fZ,kO.but Q3.o K T fZ,iG C1.o K (gS C1.o T fZ),iG C3.o K (gS C3.o T fZ),gO B3.o (by have:=(R3.o.lt g rfl).1;have:=eF.o;omega) _⟩;have:=(World.ownsRow.stored R3.o o (a_ xr L.length yr)).1
         have e:(rk ++ bi.drop o).set o (a_ xr L.length yr)=rk ++ [a_ xr L.length yr] ++ bi.drop (o+1):=by
          rw[List.set_append_right _ _ f_,dq,Nat.sub_self,List.drop_eq_getElem_cons dI,List.set_cons_zero,List.append_assoc];rfl
         rw[e] at this;exact this
        case measure=>simp[intOf];omega
     · have dg:o=Q:=by omega
       subst dg;obtain⟨C,E,I,k3,B,F,t,z,A⟩:=gU HM.o.at_;have HF:=gg (HM.o.own dS.o (by rw[eT.o];exact O1.o) (by rw[cU.o];have:=HR.o;rwa [List.drop_eq_nil_of_le (by rw[G4.o.1,cU.o];exact fL),List.append_nil] at this) (by rw[eR.o];exact O3.o) HE.o dh.o rfl)
       go_wp2
       go_ret;exact⟨_,_,_,_,_,_,_,_,_,_,_,rfl,HF.o.1,HF.o.2,iS dh.o _⟩
end
section
section
variable {w w':World} {B p:Nat} {wv hv ev m1 m2 m3 dv lv tv:Value} {qs:List Value} {M:i8}
theorem iV.shapes (h:iV w B p wv hv ev m1 m2 m3 dv lv tv qs M):∃ a1 c1 a2 n a3 c3 b f e d c g a5 l k i m j,wv =a_ a1 M.words.length c1∧hv =a_ a2 M.harts.length n∧ev =a_ a3 M.ends.length c3∧m1 =a_ b M.mem.words.length f∧m2 =a_ e M.mem.pend.length d∧m3 =a_ c M.mem.res.length g∧dv =a_ a5 M.devs.length l∧lv =a_ k M.lines.length i∧tv =a_ m M.trace.length j:=by
 obtain⟨a1,c1,s⟩:=gN h.parts.words;obtain⟨a2,n,q⟩:=gN h.parts.harts;obtain⟨a3,c3,t⟩:=gN h.parts.ends;obtain⟨a5,l,u⟩:=gN h.parts.devs;obtain⟨k,i,r⟩:=gN h.parts.lines;obtain⟨m,j,o⟩:=gN h.parts.trace;obtain⟨b,f,e,d,c,g,v,a,_⟩:=h.parts.mem.parts;injection a with a
 have f1:m1 =a_ b M.mem.words.length f:=by have:=congrArg (·[0]?) a;simpa using this
 have f2:m2 =a_ e M.mem.pend.length d:=by have:=congrArg (·[1]?) a;simpa using this
 have f3:m3 =a_ c M.mem.res.length g:=by have:=congrArg (·[2]?) a;simpa using this
 exact⟨a1,c1,a2,n,a3,c3,b,f,e,d,c,g,a5,l,k,i,m,j,s,q,t,f1,f2,f3,u,r,o⟩
theorem jH.hart (h:jH w B wv hv ev m1 m2 m3 dv lv tv qs M) (d:∀ x∈M.harts,x.r.length=32) {i} (a:i<M.harts.length):∃ g c b,hv =a_ (some ⟨g,0,none⟩) M.harts.length c∧w.heap[g]? = some (d_ b 56 (0,0))∧B≤g∧w.rangeAt g (i*39) (hC M.harts[i])∧w.there g (i*39) 39:=by
 obtain⟨g,c,b,e,f,l⟩:=uO h.harts f_;refine⟨g,c,b,e,f,l,?_,Hp h.harts e a⟩;exact EF h.harts e a (uT (d _ (List.getElem_mem _))) fun j m=>lI (fun y k=>uT (d y k)) (fQ a) m
theorem rf {v l} (h:w.ownsRow B 3 1 v l.length (gz l)) {i} (f:i<l.length):∃ g c a,v =a_ (some ⟨g,0,none⟩) l.length c∧w.heap[g]? = some (d_ a 3 (0,0))∧B≤g∧w.cell? ⟨g,i,none⟩=some (b_ c_ l[i])∧w.frozen? ⟨g,i,none⟩=false:=by
 obtain⟨g,c,a,e,b,d⟩:=uO h f_;refine⟨g,c,a,e,b,d,?_,gC b i⟩;rw[e] at h;rw[h.cellAt i f_];simp[gz,f]
end
theorem pN {w g o cs} (a:g<w.heap.size) (h:w.rangeAt g o cs) (x:Wd w):x.val.rangeAt g o cs:=fun j v hv=>by rw[x.bel.cell (p:=⟨g,o+j,none⟩) a];exact h j v hv
theorem kY {P} {C:World→Prop} {a} {o:Oper} {K:Act→Prop} ty x b v (e:o.op = .load ty x) (d:a.eval x = fG (some b))
 (f:∀ w,C w→(loadVar ty b).run P w = .ok v w) (g:K (a.put o.dst v)):o.quiet P a C K:=
 ⟨_,fun w c=>by unfold Oper.quietAt execOp;simp only[e,d,Instr.loadAt,Instr.sureAddr,Sem.run_bind,Sem.run_pure,Result.andThen_ok,f w c];exact⟨rfl,rfl⟩,g⟩
theorem uS:(gd.info? 56).map (·.size)=some 39:=by kernel_rfl
theorem By {w g o h} (a:h.r.length=32) (b:w.rangeAt g o (hC h)):(loadVar 56 ⟨g,o,none⟩).run gd w = .ok (e_ (hA h)) w:=by
 have:=run_loadVar_mid (P:=gd) w g o 56 (hC h) _ b Tryz.underlying56 rfl (by rw[uT a];exact uS)
 rwa [DD] at this
theorem KQ w B p wv hv ev m1 m2 m3 dv lv tv qs M (d:iV w B p wv hv ev m1 m2 m3 dv lv tv qs M) (he:M.ends.length=M.harts.length) (i) :
 Calls gd 73 #[fG (some ⟨p,0,none⟩),b_ c_ i] w fun e w'=>e =fH (fJ (oQ M i))∧Up w w':=by
 obtain⟨a1,c1,a2,K,a3,c3,u,J,H,C,A,L,a5,G,D,y,I,z,rfl,rfl,rfl,rfl,rfl,rfl,rfl,rfl,rfl⟩:=d.shapes;have a:=d.at_;have j:=gn a;rw[he] at a;obtain⟨o,h,g,k3,k,t,q,m,l⟩:=gU a;have v:=fun x=>gD j h x
 have N:=fun x=>gD j g x
 clear o h g k3 k t q m l a d;have E:gi (oQ M i=(decide (0≤i) && decide (i<(M.harts.length:Nat)))):=gg (by unfold oQ;rw[he,Nat.min_self]);clear he;generalize oQ M i=b at *
 generalize M.harts.length=n at *
 by_cases h0:0≤i
 · have f:gi (b=decide (i<(n:Int))):=gg (by rw[E.o];simp[h0])
   go_in
   go_wp2_with fail
   refine kK ga ga ?_
   repeat(go_big_quiet_step (fail))
   refine wpQuiet_nil ?_
   rintro s ⟨⟨r,c⟩,rfl⟩
   go_wp2
   go_ret;exact⟨by rw[f.o];rfl,c⟩
 · have f:gi (b=false):=gg (by rw[E.o];simp[h0])
   have h1:i<0:=by omega
   have F:decide (0≤i)=false:=by simp;omega
   go_in
   go_wp2_with fail
   refine kK ga ga ?_
   repeat(go_big_quiet_step (fail))
   refine wpQuiet_nil ?_
   rintro s ⟨⟨r,c⟩,rfl⟩
   go_wp2
   go_ret;exact⟨by rw[f.o];rfl,c⟩
theorem vA w B p wv hv ev m1 m2 m3 dv lv tv qs M (a:iV w B p wv hv ev m1 m2 m3 dv lv tv qs M) (i:Int) (h0:0≤i) (h1:i<M.mem.pend.length) :
 Calls gd 76 #[fG (some ⟨p,0,none⟩),b_ c_ i] w fun e w'=>e =fH (fJ (decide ((iA M.mem i).length≠0)))∧Up w w':=by
 obtain⟨a1,c1,a2,S,a3,c3,O,d1,J,G,Y,d3,a5,R,a6,W,a7,X,rfl,rfl,rfl,rfl,rfl,rfl,rfl,rfl,rfl⟩:=a.shapes;have q:=a.at_;obtain⟨U,r1,N,r2,q3,r3,g,d,C,r,K,h⟩:=a.parts.mem.parts;injection d with d
 have f2:a_ J M.mem.pend.length G =a_ N M.mem.pend.length r2:=by have:=congrArg (·[1]?) d;simpa using this
 injection f2 with f2 _ f3
 subst f2 f3;obtain⟨k,rfl⟩:∃ k:Nat,i=k:=⟨i.toNat,by omega⟩;have l:k<M.mem.pend.length:=by omega
 have Z:k<g.length:=by rw[h.1];exact l
 obtain⟨b,o,c,v,Q,hc2,V,s⟩:=r.some f_;injection v with e3 _ e5
 subst e3 e5;have m:=h.2 k g[k] M.mem.pend[k] gb gb;obtain⟨ra,P,t⟩:=gN m;have F:=s k g[k] gb;rw[t] at F;have u:iA M.mem (k:Int)=M.mem.pend[k]:=by simp[iA,l]
 rw[u];obtain⟨H,y,A,k3,T,z,I,x,D⟩:=gU q;clear H y A k3 z I x D q a s m t d C r K h u;generalize M.mem.pend[k]=L at *
 generalize M.mem.pend.length=n at *
 obtain⟨j,f⟩:∃ j,j=decide (L.length≠0):=⟨_,rfl⟩;rw[←f];have E:gi (j=decide (0<L.length)):=gg (by rw[f];exact decide_eq_decide.2 Nat.pos_iff_ne_zero.symm);clear f;go_in
 go_wp2
 go_ret;exact⟨by rw[E.o];rfl,fK⟩
end
end
section
open Go.RowKit
theorem pY {M i} (h:yF M (lm M i).pc=false):yU M i=m5∧yV M i=false:=by
 unfold yU yV;rw[h];exact⟨rfl,rfl⟩
theorem Jo {M i} (h:yF M (lm M i).pc=true):yU M i=dX (BP M (lm M i).pc)∧yV M i=(dE (BP M (lm M i).pc) == 0):=by
 unfold yU yV;rw[h];exact⟨rfl,by simp⟩
theorem DE {h} (a:h.r.length=32):(hC h)[32]? = some (b_ c_ h.pc):=by
 have:=(lT h a).1;rw[GG] at this;rw[hC,List.getElem?_map];exact this
theorem Lc {x} (h:0≤x∧x≤100000):c_.wrap x=x:=IntWalk.i64_in _ f_
theorem Nr w B p wv hv ev m1 m2 m3 dv lv tv qs M (n:iV w B p wv hv ev m1 m2 m3 dv lv tv qs M) (H:∀ x∈M.harts,x.r.length=32) (o:∀ z∈M.words,iy z) (hl:M.words.length≤100000) (i:Int) (h0:0≤i) (h1:i<M.harts.length) (aa:iy (lm M i).pc) :
 Calls gd 74 #[fG (some ⟨p,0,none⟩),b_ c_ i] w fun e w'=>e =fH (fI #[gK (yU M i),fJ (yV M i)])∧Up w w':=by
 obtain⟨k,rfl⟩:∃ k:Nat,i=k:=⟨i.toNat,by omega⟩;have S:k<M.harts.length:=by omega
 obtain⟨g,c,ai,ae,O,af,R,_⟩:=n.parts.hart H S;obtain⟨a1,c1,a2,c2,a3,c3,b1,d1,b2,d2,b3,d3,a5,c5,a6,c6,a7,c7,rfl,rfl,rfl,rfl,rfl,rfl,rfl,rfl,rfl⟩:=n.shapes;injection ae with t _ e2
 subst t e2;have W:lm M (k:Int)=M.harts[k]:=by simp[lm,S]
 have P:=H M.harts[k] (List.getElem_mem _);have kp:=R 32 _ (DE P);have d:=fun h=>@pY M (k:Int) h
 have f:=fun h=>@Jo M (k:Int) h
 rw[W] at d f aa;obtain⟨k0,k1,k2,k3,k4,k5,k6,k7,k8⟩:=gU n.at_;have s:=n.parts.words;have ak:=gn n.at_;have an:=gn O;clear k2 k3 k4 k5 k6 k7 k8 O af R P W n h0 h1 H;generalize M.harts[k].pc=pc at *
 generalize M.harts.length=n2 at *
 obtain⟨X,N⟩:∃ X,X=yU M (k:Int):=⟨_,rfl⟩;obtain⟨Y,F⟩:∃ Y,Y=yV M (k:Int):=⟨_,rfl⟩;rw[←N,←F];rw[←N,←F] at d f;clear N F;by_cases l:0≤pc
 · by_cases q:pc.tmod 4=0
   · by_cases G:pc.tdiv 4<M.words.length
     · have b:yF M pc=true:=by simp[yF,l,q,G]
       have J:=f b;obtain⟨j,hj⟩:∃ j:Nat,pc.tdiv 4=j:=⟨(pc.tdiv 4).toNat,by have:=Int.tdiv_nonneg l (show (0:Int)≤4 by omega);omega⟩;have Q:j<M.words.length:=by omega
       obtain⟨g1,al,ah,t,Z,_,am,_⟩:=rf s Q;injection t with t _ e3
       subst t e3;have a:BP M pc=M.words[j]:=by simp[BP,hj,Q]
       rw[a] at J;have hI:=o M.words[j] (List.getElem_mem _);have hq:c_.wrap (j:Int)=j:=Lc f_;have ap:=gn Z;clear Z;clear d f s a b o;generalize M.words[j]=z at *
       generalize M.words.length=K at *
       have U:=gg J;have aj:(j:Int)<K:=by omega
       clear J;go_in
       go_wp2_with fail
       refine(LF z _ hI).mono ?_
       rintro e w1 ⟨rfl,I⟩;have a:=gk I (gH w (d_ #[b_ c_ 0,b_ c_ 0,b_ c_ 0,b_ c_ 0,b_ c_ 0] 72));have ao:=gn a;have L:Up w w1:=gj (gr w _) I;obtain⟨HX,V⟩:=U.o;have ac:=gg HX;have ad:=gg V;clear U HX V;generalize dE z=ee at *
       generalize dX z=xx at *
       obtain⟨C,y,E,A,D⟩:=xx;unfold gK;have c0:=gv a (j:=0) (u:=b_ c_ 0) rfl;have c1:=gv a (j:=1) (u:=b_ c_ 0) rfl;have c2:=gv a (j:=2) (u:=b_ c_ 0) rfl;have c3:=gv a (j:=3) (u:=b_ c_ 0) rfl;have c4:=gv a (j:=4) (u:=b_ c_ 0) rfl;have f0:=gC a 0;have f1:=gC a 1;have f2:=gC a 2;have f3:=gC a 3;have f4:=gC a 4;have HB:=gg L;have ab:=jb (jb (jb (jb (jb a 0 (b_ c_ C)) 1 (b_ c_ y)) 2 (b_ c_ E)) 3 (b_ c_ A)) 4 (b_ c_ D);have m:=gk (gr _ (d_ #[b_ c_ C,b_ c_ y,b_ c_ E,b_ c_ A,b_ c_ D] 72)) ab;have r0:=gv m (j:=0) (u:=b_ c_ C) rfl;have r1:=gv m (j:=1) (u:=b_ c_ y) rfl;have r2:=gv m (j:=2) (u:=b_ c_ E) rfl;have r3:=gv m (j:=3) (u:=b_ c_ A) rfl;have T:=gv m (j:=4) (u:=b_ c_ D) rfl;have R0:=gg r0;have R1:=gg r1;have R2:=gg r2;have R3:=gg r3;have R4:=gg T;clear a I L ab m r0 r1 r2 r3 T
       go_wp2_with fail
       exact bodyPost_ret (v:=fI #[gK ⟨C,y,E,A,D⟩,fJ (ee == 0)]) (by simp[results,Tryz.results74,go_sem,gK,R0.o,R1.o,R2.o,R3.o,R4.o]) rfl ⟨by rw[ac.o,ad.o],by have L:=HB.o;exact zB⟩
     · have b:=gg (d (by simp[yF,l,q,G]))
       have ag:(M.words.length:Int)≤pc.tdiv 4:=by omega
       clear d f s o G;generalize M.words.length=K at *
       have hq:c_.wrap (pc.tdiv 4)=pc.tdiv 4:=IntWalk.i64_in _ (by rw[Int.tdiv_eq_ediv_of_nonneg l];unfold iy at aa;omega);have hd:decide ((K:Int)≤pc.tdiv 4)=true:=by simpa using ag
       go_in
       go_wp2_with fail
       exact bodyPost_ret (v:=fI #[gK m5,fJ false]) (by simp[results,Tryz.results74,go_sem,gK,m5]) rfl ⟨by rw[b.o.1,b.o.2],zB⟩
   · have b:=gg (d (by simp[yF,l,q]))
     have p3:¬ pc % 4=0:=by rw[←Int.tmod_eq_emod_of_nonneg l];exact q
     have p4:(pc % 4 != 0)=true:=by simpa using p3
     clear q;clear d f s o;go_in
     go_wp2_with fail
     exact bodyPost_ret (v:=fI #[gK m5,fJ false]) (by simp[results,Tryz.results74,go_sem,gK,m5]) rfl ⟨by rw[b.o.1,b.o.2],zB⟩
 · have b:=gg (d (by simp[yF,l]))
   have p3:pc<0:=by omega
   clear d f s o;go_in
   go_wp2_with fail
   exact bodyPost_ret (v:=fI #[gK m5,fJ false]) (by simp[results,Tryz.results74,go_sem,gK,m5]) rfl ⟨by rw[b.o.1,b.o.2],zB⟩
def cV (c:vp):Value:=e_ #[b_ c_ c.k,b_ c_ c.h,b_ c_ c.w,b_ c_ c.n]
def jf (B p:Nat) (w:World) (r:i8×Int) (e:Ending) (w':World):Prop:=
 e =fH (b_ c_ r.2)∧Below B w w'∧(r.2=0 → ∃ d b h k a i c g j f,iV w' B p d b h k a i c g j f r.1)
theorem kM {w:World} {b c c1 a c3} {t:TypeId} (h:w.heap[b]? = some (d_ #[c,c1,a,c3] t (0,0))) :
 w.cell? ⟨b,0,none⟩=some c∧w.cell? ⟨b,1,none⟩=some c1∧w.cell? ⟨b,2,none⟩=some a∧w.cell? ⟨b,3,none⟩=some c3:=
 ⟨gv h rfl,gv h rfl,gv h rfl,gv h rfl⟩
theorem jf.fail {B p w w' e} (a:Below B w w') (he:e≠0):jf B p w (jX,e) (fH (b_ c_ e)) w':=⟨rfl,a,fun h=>absurd h he⟩
theorem MR w B p Z hv ev m1 m2 m3 dv lv tv qs M (q:iV w B p Z hv ev m1 m2 m3 dv lv tv qs M) (hl:M.lines.length≤8) (C:B≤w.heap.size) (c) :
 Calls gd 43 #[fG (some ⟨p,0,none⟩),cV c] w (jf B p w (uQ M c.w)):=by
 obtain⟨ck,ch,a,cn⟩:=c;obtain⟨a1,c1,a2,c2,a3,c3,b1,d1,b2,d2,b3,d3,a5,c5,a6,c6,a7,c7,rfl,rfl,rfl,rfl,rfl,rfl,rfl,rfl,rfl⟩:=q.shapes;unfold cV;simp only;have HO:=gg q;obtain⟨w1,z,hc1,A,_⟩:=pC w (d_ #[b_ c_ ck,b_ c_ ch,b_ c_ a,b_ c_ cn] 28);have r:=gg (q.below A);have Y:=gn r.o.at_;have af:=gn hc1;have d:gi (Up w w1):=gg A;obtain⟨J,y,G,k3,F,D,K,h,I⟩:=gU r.o.at_;obtain⟨v,H,l,L⟩:=kM hc1;have f:=fun x=>gD Y h x
 have j:=fun x=>gD af l x
 have aa:=gg hc1;clear J y G k3 F D K h I v H l L hc1 A q;by_cases m:0≤a∧a<M.lines.length
 · have e:uQ M a=(zdL M a true,0):=if_pos m
   rw[e];clear e;obtain⟨k,rfl⟩:∃ k:Nat,a=k:=⟨a.toNat,by omega⟩;have P:k<M.lines.length:=by omega
   obtain⟨g,c',aj,s,R,ah⟩:=uO r.o.parts.lines f_;injection s with s _ e3
   subst s e3;have ac:=gg R;clear R m;have Q:gi (k<M.lines.length):=gg P;obtain⟨E,i⟩:∃ n,n=M.lines.length:=⟨_,rfl⟩;have ab:=gg i;rw[←i] at f P hl;clear i;have N:decide ((k:Int)<0)=false:=by simp
   go_in;go_upto_region 1 with(fail)
   rw[←z];refine kK ga ga ?_
   repeat(go_big_quiet_step (fail))
   refine wpQuiet_nil ?_
   rintro w2 ⟨⟨U,b⟩,rfl⟩;clear f j;have t:=gg (r.o.below b);obtain⟨J,y,G,k3,F,D,K,h,I⟩:=gU t.o.at_;have ad:=gn t.o.at_;have hc2:=gk b aa.o;have O:=gk b ac.o;obtain⟨v,H,l,L⟩:=kM hc2;have ai:=gn hc2;rw[←ab.o] at h;have f:=fun x=>gD ad h x
   have j:=fun x=>gD ai l x
   have X:gi (Up w1 w2):=gg b;have ag:=gg O;clear J y G k3 F D K h I v H l L hc2 O b;go_upto_region 3 with(fail)
   refine ov 9 ga ga ?_
   simp only[List.take_succ_cons,List.take_zero,List.drop_succ_cons,List.drop_zero];repeat(go_big_quiet_step (fail))
   refine wpQuiet_nil ?_
   rintro T ⟨⟨al,o⟩,rfl⟩;have W:=gk o ag.o;have S:=gg (t.o.below o);have ae:gi (Up w2 T):=gg o
   have V:∃ u,T.cell? ⟨g,k*3+2,none⟩=some u:=by
    have:=S.o.parts.lines;have h0:k*3+2<M.lines.length*3:=by have:=Q.o;omega
    exact⟨_,(this.cellAt (k*3+2) h0).trans (fQ (by rw[this.1];exact h0))⟩
   obtain⟨u,V⟩:=V;have ak:=gC W (k*3+2);clear W o f j
   go_wp2
   go_ret;refine⟨rfl,?_,fun _=>⟨_,_,_,_,_,_,_,_,_,_,S.o.setLine rfl Q.o true⟩⟩;exact(((d.o.mono C).trans (X.o.mono (by have:=d.o.size;omega))).trans (ae.o.mono (by have:=d.o.size;have:=X.o.size;omega))).setCell ah _
 · have e:uQ M a=(jX,1):=if_neg m
   rw[e];clear e;obtain⟨E,i⟩:∃ n,n=M.lines.length:=⟨_,rfl⟩;rw[←i] at f m hl;clear i;by_cases h0:a<0
   · have N:decide (a<0)=true:=by simpa using h0
     go_in;go_upto_region 1 with(fail)
     rw[←z];refine kK ga ga ?_
     repeat(go_big_quiet_step (fail))
     refine wpQuiet_nil ?_
     rintro w2 ⟨⟨U,b⟩,rfl⟩;clear f j
     go_wp2
     go_ret;exact jf.fail ((d.o.mono C).trans (b.mono (by have:=d.o.size;omega))) fZ
   · have N:decide (a<0)=false:=by simpa using h0
     have hd1:(E:Int)≤a:=by omega
     have hd2:decide ((E:Int)≤a)=true:=by simpa using hd1
     go_in;go_upto_region 1 with(fail)
     rw[←z];refine kK ga ga ?_
     repeat(go_big_quiet_step (fail))
     refine wpQuiet_nil ?_
     rintro w2 ⟨⟨U,b⟩,rfl⟩;clear f j
     go_wp2
     go_ret;exact jf.fail ((d.o.mono C).trans (b.mono (by have:=d.o.size;omega))) fZ
section
theorem EG:(gd.info? 75).map (·.size)=some 8:=by kernel_rfl
theorem A0 {w g o s q} (a:w.rangeAt g o (sC (s,q))):(loadVar 75 ⟨g,o,none⟩).run gd w = .ok (e_ (gX s q)) w:=
 run_loadVar_mid (P:=gd) w g o 75 (sC (s,q)) _ a Tryz.underlying75 rfl EG
section
variable {w w':World} {B p:Nat} {wv hv ev m1 m2 m3 dv lv tv:Value} {qs:List Value} {M:i8}
theorem jH.dev (h:jH w B wv hv ev m1 m2 m3 dv lv tv qs M) {i} (a:i<M.devs.length):∃ g c b q,dv =a_ (some ⟨g,0,none⟩) M.devs.length c∧w.heap[g]? = some (d_ b 75 (0,0))∧B≤g∧w.rangeAt g (i*8) (sC (M.devs[i],q))∧w.there g (i*8) 8∧iZ w (e_ (gX M.devs[i] q)) M.devs[i]∧q.oneCell'=true:=by
 obtain⟨g,c,b,e,f,l⟩:=uO h.devs f_;have hl:=h.ques.1;have k:(M.devs.zip qs)[i]? = some (M.devs[i],qs[i]' f_):=by rw[List.getElem?_zip_eq_some];exact⟨fQ a,fQ f_⟩
 have d:=h.ques.2 i (qs[i]' f_) M.devs[i] (fQ f_) (fQ a);obtain⟨n,o,eq⟩:=d.shape;exact⟨g,c,b,qs[i]' f_,e,f,l,EF h.devs e a (tK _) fun j m=>lI (fun y _=>tK y) k m,Hp h.devs e a,⟨_,rfl,d⟩,by rw[eq];rfl⟩
theorem vi {g o n b} {t:TypeId} (h:w.there g o n) (c:w.heap[g]? = some (d_ b t (0,0))) (a:w'.heap[g]? = some (d_ b t (0,0))):w'.there g o n:=by
 intro j d;have:=(h j d).1;simp only[World.cell?,c] at this;exact⟨by simp only[World.cell?,a];exact this,gC a _⟩
theorem CO {g o cs a} {t:TypeId} (h:w.rangeAt g o cs) (b:w.heap[g]? = some (d_ a t (0,0))) (c:w'.heap[g]? = some (d_ a t (0,0))):w'.rangeAt g o cs:=by
 intro j v hv;have:=h j v hv;simp only[World.cell?,b] at this;simp only[World.cell?,c];exact this
theorem De s {q:Value} (h:q.oneCell'=true):(gX s q).all (·.oneCell')=true:=by
 simpa[gX,Value.oneCell'] using h
theorem gx.fresh {Y} (h:gx Y w B p wv hv ev m1 m2 m3 dv lv tv qs M) {q:Value} (c:∀ g,q.ownBlock=some g→w.heap.size≤g):∀ g,q.ownBlock=some g→hv.ownBlock≠some g∧ev.ownBlock≠some g∧dv.ownBlock≠some g∧lv.ownBlock≠some g∧tv.ownBlock≠some g∧p≠g:=by
 intro g b;have a:=c g b;have d:=gn h.at_;refine⟨BC h.parts.harts a,BC h.parts.ends a,BC h.parts.devs a,BC h.parts.lines a,BC h.parts.trace a,by omega⟩
end
theorem Ms w B p wv hv ev m1 m2 m3 dv lv tv qs M (S:iV w B p wv hv ev m1 m2 m3 dv lv tv qs M) (hl:M.devs.length≤8) (hd:∀ s∈M.devs,pQ s) (hB:B≤w.heap.size) (c) :
 Calls gd 45 #[fG (some ⟨p,0,none⟩),cV c] w (jf B p w (tJ M c.w c.n)):=by
 obtain⟨ck,ch,d,t⟩:=c;obtain⟨a1,c1,a2,c2,a3,c3,b1,d1,b2,d2,b3,d3,a5,c5,a6,c6,a7,c7,rfl,rfl,rfl,rfl,rfl,rfl,rfl,rfl,rfl⟩:=S.shapes;unfold cV;simp only;have HO:=gg S;obtain⟨w1,Z,hc1,aa,_⟩:=pC w (d_ #[b_ c_ ck,b_ c_ ch,b_ c_ d,b_ c_ t] 28);have ab:=gg (S.below aa);have P:=gn ab.o.at_;have J:=gn hc1;have l:gi (Up w w1):=gg aa;obtain⟨L,C,H,k3,G,F,j,z,K⟩:=gU ab.o.at_;obtain⟨A,I,o,u⟩:=kM hc1;have y:=fun x=>gD P j x
 have Q:=fun x=>gD J o x
 have ap:=gg hc1;clear L C H k3 G F j z K A I o u hc1 aa S;by_cases O:0≤d∧d<M.devs.length
 · obtain⟨k,rfl⟩:∃ k:Nat,d=k:=⟨d.toNat,by omega⟩
   have X:k<M.devs.length:=by omega
   have ah:oT M (k:Int)=M.devs[k]:=by simp[oT,X]
   have e:tJ M (k:Int) t=({ M with devs:=M.devs.set k (ja (kL M.devs[k] (wrap32 t))) },0):=by unfold tJ;rw[if_pos O,ah];rfl
   rw[e];clear e ah O;have an:=hd M.devs[k] (List.getElem_mem _);generalize hD:M.devs[k]=D at *
   have HD:=gg hD;clear hD;have HK:gi (k<M.devs.length):=gg X;obtain⟨n5,v⟩:∃ n,n=M.devs.length:=⟨_,rfl⟩;have ax:=gg v;rw[←v] at y X hl;clear v hd;have ac:decide ((k:Int)<0)=false:=by simp
   go_in;go_upto_region 1 with(fail)
   rw[←Z];refine kK ga ga ?_
   repeat(go_big_quiet_step (fail))
   refine wpQuiet_nil ?_
   rintro w2 ⟨⟨ag,f⟩,rfl⟩;clear y Q;have m:=gg (ab.o.below f);obtain⟨L,C,H,k3,G,F,j,z,K⟩:=gU m.o.at_;have az:=gn m.o.at_;have hc2:=gk f ap.o;obtain⟨A,I,o,u⟩:=kM hc2;have aH:=gn hc2;obtain⟨g,c',aL,qv,V,ae,aG,W,ad,hst,aK⟩:=m.o.parts.dev HK.o;injection V with V _ e3
   subst V e3;rw[HD.o] at W hst;have ak:gi (Up w1 w2):=gg f;have N:=gg ae;have aq:=gg ad;have aE:=gg hst;have aC:=gg W;have ai:=gg hc2;clear L C H k3 G F j z K A I o u hc2 ae f W ad hst P J az aH;go_upto_region 3 with(fail)
   refine fY (fun w'=>Up w2 w') 19 [true,true,true,true,true,true,true,true,true,true,true,true,true,true,true,true,true,true] (fun a b h hu=>gj h hu) fK ?a1 ?h1 ?ht1
   case h1=>
    intro w0 r;obtain⟨L,C,H,k3,G,F,j,z,K⟩:=gU (gk r m.o.at_);obtain⟨A,I,o,u⟩:=kM (gk r ai.o);have P:=gn (gk r m.o.at_);have J:=gn (gk r ai.o);rw[←ax.o] at j;have y:=fun x=>gD P j x
    have Q:=fun x=>gD J o x
    have y3:=fun x=>gD J u x
    have R0:gi (∀ w':World,(∃ x:Wd w0,w'=x.val)→(loadVar 75 ⟨g,k*8,none⟩).run gd w' = .ok (e_ (gX D qv)) w'):=gg (by
     rintro w' ⟨x,rfl⟩;have aj:=gk r N.o;exact A0 (pN (gn aj) (CO aC.o N.o aj) x))
    clear L C H k3 G F j z K A I o u r;simp only[jd]
    iterate 15 (go_big_quiet_step (fail))
    go_big_quiet_want
    refine kY 75 _ ⟨g,k*8,none⟩ (e_ (gX D qv)) rfl rfl R0.o ?_
    simp only[Act.put,fU,fV,fW]
    go_big_quiet_on
    repeat(go_big_quiet_step (fail))
    refine wpQuiet_nil ?_
    rfl
   case ht1=>
    change kD _ _ _ _ _ _ 1 _ _ _;refine jQ (i:=18) ga fZ rfl ?_
    intro w3 _ E;have ar:=gg (m.o.below E);have aB:gi (Up w2 w3):=gg E;have aM:=gg (gk E N.o);have aD:=gg (aE.o.below E);clear E
    go_wp2_with fail
    refine(Mt _ D t _ aD.o an).mono ?_
    rintro e w4 ⟨v',rfl,⟨Y,rfl,T,am⟩,af⟩;have aI:Y.oneCell'=true:=by obtain⟨qa,qc,e⟩:=T.shape;rw[e];rfl
    have aw:=gg (ar.o.fresh (q:=Y) (fun g U=>by
     obtain⟨qa,qc,e⟩:=T.shape;subst e;cases qa with
     | none=>simp[Value.ownBlock] at U
     | some a=>simp[Value.ownBlock] at U;subst U;exact am a _ _ rfl))
    have av:=gg T;have aA:gi (Up w3 w4):=gg af;clear T am af
    go_wp2_with fail
    refine⟨gj aB.o aA.o,?_⟩;refine lR ga ?_
    intro w5 al R;have aJ:=gg (m.o.below R);have aF:=gg (gk R N.o);have ao:=gg (vi aq.o N.o aF.o);have au:=gg (av.o.below al);have ay:gi (Up w2 w5):=gg R;clear al R;simp only[List.drop_succ_cons,List.drop_zero]
    go_wp2_with (refine wpList_store_mid rfl 75 _ _ rfl g (k*8) (gX (ja (kL D (wrap32 t))) Y) rfl rfl ao.o EG (De _ aI) ?_)
    go_ret;refine⟨rfl,?_,fun _=>⟨_,_,_,_,_,_,_,_,_,_,aJ.o.setDev rfl HK.o au.o aw.o⟩⟩;exact rx aG _ _ (((l.o.mono hB).trans (ak.o.mono (by have:=l.o.size;omega))).trans (ay.o.mono (by have:=l.o.size;have:=ak.o.size;omega)))
 · have e:tJ M d t=(jX,1):=if_neg O
   rw[e];clear e;obtain⟨n5,v⟩:∃ n,n=M.devs.length:=⟨_,rfl⟩;rw[←v] at y O hl;clear v hd;by_cases h0:d<0
   · have ac:decide (d<0)=true:=by simpa using h0
     go_in;go_upto_region 1 with(fail)
     rw[←Z];refine kK ga ga ?_
     repeat(go_big_quiet_step (fail))
     refine wpQuiet_nil ?_
     rintro w2 ⟨⟨ag,f⟩,rfl⟩;clear y Q
     go_wp2
     go_ret;exact jf.fail ((l.o.mono hB).trans (f.mono (by have:=l.o.size;omega))) fZ
   · have ac:decide (d<0)=false:=by simpa using h0
     have hd1:(n5:Int)≤d:=by omega
     have hd2:decide ((n5:Int)≤d)=true:=by simpa using hd1
     go_in;go_upto_region 1 with(fail)
     rw[←Z];refine kK ga ga ?_
     repeat(go_big_quiet_step (fail))
     refine wpQuiet_nil ?_
     rintro w2 ⟨⟨ag,f⟩,rfl⟩;clear y Q
     go_wp2
     go_ret;exact jf.fail ((l.o.mono hB).trans (f.mono (by have:=l.o.size;omega))) fZ
end
section
theorem D_ M (i):∀ k:Nat,-1≤mG M i k∧mG M i k<k∧(mG M i k<0→mG M i k = -1)
 | 0=>by simp[mG]
 |
  k+1=>by
  have:=D_ M i k;simp only[mG,Ea];split
  · omega
  · omega
theorem AY {M i} {k:Nat} (h:lS M i (mW M k)=false):mG M i (k+1)=mG M i k:=by
 simp only[mG,Ea];rw[if_neg (by rw[h];simp)]
theorem E_ {M i} {k:Nat} (h:lS M i (mW M k)=true) (a:mG M i k<0∨(mW M (mG M i k)).p<(mW M k).p):mG M i (k+1)=k:=by
 simp only[mG,Ea];rw[if_pos ⟨h,a⟩]
theorem IY {M i k} (a:¬ (mG M i k<0∨(mW M (mG M i k)).p<(mW M k).p)):mG M i (k+1)=mG M i k:=by
 simp only[mG,Ea];rw[if_neg (fun h=>a h.2)]
theorem Bu M i (l):lS M i l=(decide (0≤i) && (decide (i<M.harts.length) && (l.h == i && (l.r && BQ (lm M i).st (lm M i).le l.p)))):=rfl
section
variable {w:World} {B:Nat} {wv hv ev m1 m2 m3 dv lv tv:Value} {qs:List Value} {M:i8}
theorem jH.line (h:jH w B wv hv ev m1 m2 m3 dv lv tv qs M) {i} (b:i<M.lines.length):∃ g c a,lv =a_ (some ⟨g,0,none⟩) M.lines.length c∧w.heap[g]? = some (d_ a 64 (0,0))∧B≤g ∧ ∀ j u,j<3→(j_ M.lines[i])[j]? = some u→w.cell? ⟨g,i*3+j,none⟩=some u:=by
 obtain⟨g,c,a,e,f,k⟩:=uO h.lines f_;refine⟨g,c,a,e,f,k,fun j u d l=>?_⟩;exact EF h.lines e b (A7 _) (fun j d=>lI (fun y _=>A7 y) (fQ b) d) j u l
end
theorem E0 {M} {k:Nat} (a:k<M.lines.length):mW M (k:Int)=M.lines[k]:=by simp[mW,a]
theorem Hw v w M i (hm:gJ w v M) (hr:∀ x∈M.harts,x.r.length=32) (aR:M.lines.length≤8) :
 Calls gd 20 #[v,b_ c_ i] w fun e w'=>e =fH (b_ c_ (oU M i))∧Up w w':=by
 obtain⟨wv,hv,ev,m1,m2,m3,dv,lv,tv,qs,rfl,o⟩:=hm;obtain⟨a2,c2,rfl⟩:=gN o.harts;obtain⟨a6,c6,rfl⟩:=gN o.lines;obtain⟨a1,c1,rfl⟩:=gN o.words;obtain⟨a3,c3,rfl⟩:=gN o.ends;obtain⟨a5,c5,rfl⟩:=gN o.devs;obtain⟨a7,c7,rfl⟩:=gN o.trace;obtain⟨b1,N,b2,d2,b3,d3,aU,K,_⟩:=o.mem.parts;injection K with K
 have f1:m1 =a_ b1 M.mem.words.length N:=by have:=congrArg (·[0]?) K;simpa using this
 have f2:m2 =a_ b2 M.mem.pend.length d2:=by have:=congrArg (·[1]?) K;simpa using this
 have f3:m3 =a_ b3 M.mem.res.length d3:=by have:=congrArg (·[2]?) K;simpa using this
 subst f1 f2 f3;clear K;have HP:=gg o;clear o;obtain⟨I,ag⟩:∃ n,n=M.lines.length:=⟨_,rfl⟩;obtain⟨t,am⟩:∃ n,n=M.harts.length:=⟨_,rfl⟩;rw[←ag,←am];rw[←ag] at aR;have X:=gg ag;have ah:=gg am;clear ag am;obtain⟨w1,av,ac,aC,_⟩:=pC w (d_ #[a_ a1 M.words.length c1,a_ a2 t c2,a_ a3 M.ends.length c3,a_ b1 M.mem.words.length N,a_ b2 M.mem.pend.length d2,a_ b3 M.mem.res.length d3,a_ a5 M.devs.length c5,a_ a6 I c6,a_ a7 M.trace.length c7] 37);have aK:=gg ac;have aB:gi (Up w w1):=gg aC;obtain⟨k0,E,k2,k3,Y,R,V,D,U⟩:=gU ac;have aG:=gn ac;clear k0 k2 k3 Y R V U ac aC;go_in;go_upto_region 1 with(fail)
 rw[←av];clear av
 go_wp2_with fail
 clear E D aG
 go_loopw [5,11] (fun best j wr=>∃ k:Nat,k≤I∧j =b_ c_ k∧best =b_ c_ (mG M i k)∧Up w1 wr) (fun _ j _=>I - (intOf j).toNat)
 case atStart=>exact⟨0,fM,rfl,rfl,fK⟩
 case round=>
  obtain⟨k,hk,rfl,rfl,hb⟩:=hrel;have s:=gg hb;have J:=gg (gk hb aK.o);have aG:=gn J.o;have ap:=gg (HP.o.below (gj aB.o hb));clear hb;by_cases aL:k<I
  · have aD:k<M.lines.length:=by rw[←X.o];exact aL
    obtain⟨g,c,aV,e2,O,aY,ae⟩:=ap.o.line aD;rw[←X.o] at e2;injection e2 with e2 _ e3
    subst e2 e3;have aX:=gn O;have au:=E0 aD;have q0:=ae 0 _ fZ rfl;have q1:=ae 1 _ fZ rfl;have q2:=ae 2 _ fZ rfl;simp only[Nat.add_zero] at q0;have B:=gg au;have HG:=gg O;clear O ae au;generalize hL:M.lines[k]=L at *
    clear hL;have BD:=D_ M i k;obtain⟨b,ak⟩:∃ b,b=mG M i k:=⟨_,rfl⟩;have l:=gg ak;rw[←ak] at BD ⊢
    clear ak;obtain⟨F,C,lr⟩:=L;simp only at q0 q1 q2;obtain⟨w5,aE,G,ab,aW⟩:=pC wr (d_ #[b_ c_ F,b_ c_ C,fJ lr] 64);have aM:=gg G;have d:gi (Up wr w5):=gg ab;have t0:=gv G (j:=0) (u:=b_ c_ F) rfl;have W:=gv G (j:=1) (u:=b_ c_ C) rfl;have t2:=gv G (j:=2) (u:=fJ lr) rfl;obtain⟨k0,E,k2,k3,Y,R,V,D,U⟩:=gU (gk ab J.o);obtain⟨z0,z1,z2,z3,z4,z5,z6,z7,z8⟩:=gU J.o;have ax:=gn (gk ab J.o);have aq:=gn G;have P:=fun x=>gD ax E x
    have A:=fun x=>gD ax D x
    have Q:=fun x=>gD aq t0 x
    have y:=fun x=>gD aq W x
    have S:=fun x=>gD aq t2 x
    clear k0 E k2 k3 Y R V D U t0 W t2 G ab z0 z2 z3 z4 z5 z6 z8;go_upto_region 5 with(fail)
    rw[←aE];clear aE q0 q1 q2 z1 z7;by_cases r0:0≤i
    · by_cases r1:i<t
      · by_cases r2:F=i
        · cases lr
          · have Z:=r2
            have f:gi (lS M i (mW M (k:Int))=false):=gg (by rw[Bu,B.o];simp);have d0:decide (i<0)=false:=by simpa using r0
            have N:decide ((t:Int)≤i)=false:=by simpa using r1
            have d2:(F != i)=false:=by simp[r2]
            refine kK ga ga ?_
            repeat(go_big_quiet_step (fail))
            refine wpQuiet_nil ?_
            rintro H ⟨⟨af,a⟩,rfl⟩;clear P A Q y S
            go_wp2
            go_roundw
            case rel=>exact⟨k+1,by omega,by go_num,by rw[l.o,AY f.o],gj (gj s.o d.o) a⟩
            case measure=>simp[intOf];omega
          · obtain⟨q,hq⟩:∃ q,q=BQ (lm M i).st (lm M i).le C:=⟨_,rfl⟩
            obtain⟨j,rfl⟩:∃ j:Nat,i=j:=⟨i.toNat,by omega⟩;have aA:j<M.harts.length:=by have:=ah.o;omega
            obtain⟨g2,cc,aT,e4,al,_,ar,_⟩:=ap.o.hart hr aA;rw[←ah.o] at e4;injection e4 with e4 _ e5
            subst e4 e5;have Z:lm M (j:Int)=M.harts[j]:=by simp[lm,aA]
            have ay:=hr M.harts[j] (List.getElem_mem _);rw[Z] at hq;generalize M.harts[j]=T at *
            have ai:=gk d.o al
            have R0:gi (∀ w':World,(∃ x:Wd w5,w'=x.val)→(loadVar 56 ⟨g2,j*39,none⟩).run gd w' = .ok (e_ (hA T)) w'):=gg (by
             rintro w' ⟨x,rfl⟩;exact By ay (pN (gn ai) (CO ar al ai) x))
            have HQ:=gg hq;have HH:=gg Z;clear hq Z al ai ar hr;have d0:decide ((j:Int)<0)=false:=by simp
            have N:decide ((t:Int)≤(j:Int))=false:=by simpa using r1
            have aZ:decide (t≤j)=false:=by simp;omega
            have d2:(F != (j:Int))=false:=by simp[r2]
            refine kK ga ga ?_
            iterate 25 (go_big_quiet_step (fail))
            go_big_quiet_want
            refine kY 56 _ ⟨g2,j*39,none⟩ (e_ (hA T)) rfl rfl R0.o ?_
            simp only[Act.put,fU,fV,fW]
            go_big_quiet_on
            repeat(go_big_quiet_step ((go_at_call 59;exact oS (wG T C _ ay))))
            refine wpQuiet_nil ?_
            rintro H ⟨⟨af,a⟩,rfl⟩;clear P A Q y S R0;rw[←HQ.o];cases q
            · have f:gi (lS M (j:Int) (mW M (k:Int))=false):=gg (by rw[Bu,B.o,HH.o];simp[←HQ.o])
              go_wp2
              go_roundw
              case rel=>exact⟨k+1,by omega,by go_num,by rw[l.o,AY f.o],gj (gj s.o d.o) a⟩
              case measure=>simp[intOf];omega
            · have f:gi (lS M (j:Int) (mW M (k:Int))=true):=gg (by rw[Bu,B.o,HH.o];simp[←HQ.o,r2,ah.o▸r1])
              have aa:gi (Up w5 H):=gg a;have aj:=gk a aM.o;obtain⟨k0,E,k2,k3,Y,R,V,D,U⟩:=gU (gk a (gk d.o J.o));have W:=gv aj (j:=1) (u:=b_ c_ C) rfl;have aQ:=gn (gk a (gk d.o J.o));have aN:=gn aj;have A:=fun x=>gD aQ D x
              have y:=fun x=>gD aN W x
              clear k0 E k2 k3 Y R V D U W aj a;by_cases r3:b<0
              · have d3:decide (b<0)=true:=by simpa using r3
                go_upto_region 6 with(fail)
                refine kK ga ga ?_
                repeat(go_big_quiet_step (fail))
                refine wpQuiet_nil ?_
                rintro w7 ⟨⟨aO,ad⟩,rfl⟩;clear A y
                go_wp2
                go_roundw
                case rel=>exact⟨k+1,by omega,by go_num,by rw[E_ f.o (.inl (by rw[←l.o];exact r3))],gj (gj (gj s.o d.o) aa.o) ad⟩
                case measure=>simp[intOf];omega
              · have d3:decide (b<0)=false:=by simpa using r3
                obtain⟨m,rfl⟩:∃ m:Nat,b=m:=⟨b.toNat,by omega⟩;have hm:m<M.lines.length:=by have:=X.o;omega
                have a4:m<I:=by omega
                have az:=E0 hm
                have ao:wr.cell? ⟨g,m*3+1,none⟩=some (b_ c_ M.lines[m].p):=by
                 obtain⟨g',c',a0,z,_,_,aI⟩:=ap.o.line hm;rw[←X.o] at z;injection z with z _ _
                 injection z with z
                 injection z with z
                 subst z;exact aI 1 _ fZ rfl
                generalize M.lines[m]=Lm at *
                have an:=gk aa.o (gk d.o HG.o)
                have aw:H.cell? ⟨g,m*3+1,none⟩=some (b_ c_ Lm.p):=by
                 have O:=HG.o;simp only[World.cell?,O] at ao;simp only[World.cell?,an];exact ao
                have aP:=gn an;have y5:=fun x=>gD aP aw x
                have aF:=gg az;clear ao an aw az;go_upto_region 6 with(fail)
                refine kK ga ga ?_
                repeat(go_big_quiet_step (fail))
                refine wpQuiet_nil ?_
                rintro w7 ⟨⟨aO,ad⟩,rfl⟩;clear A y y5;by_cases r4:Lm.p<C
                · have d4:decide (Lm.p<C)=true:=by simpa using r4
                  go_wp2
                  go_roundw
                  case rel=>exact⟨k+1,by omega,by go_num,by rw[E_ f.o (.inr (by rw[←l.o,aF.o,B.o];exact r4))],gj (gj (gj s.o d.o) aa.o) ad⟩
                  case measure=>simp[intOf];omega
                · have d4:decide (Lm.p<C)=false:=by simpa using r4
                  go_wp2
                  go_roundw
                  case rel=>exact⟨k+1,by omega,by go_num,by rw[l.o,IY (by rw[←l.o,aF.o,B.o];exact fun h=>h.elim (fun h=>absurd h f_) r4)],gj (gj (gj s.o d.o) aa.o) ad⟩
                  case measure=>simp[intOf];omega
        · have Z:=r2
          have f:gi (lS M i (mW M (k:Int))=false):=gg (by rw[Bu,B.o];simp[r2]);have d0:decide (i<0)=false:=by simpa using r0
          have N:decide ((t:Int)≤i)=false:=by simpa using r1
          have d2:(F != i)=true:=by simpa using r2
          refine kK ga ga ?_
          repeat(go_big_quiet_step (fail))
          refine wpQuiet_nil ?_
          rintro H ⟨⟨af,a⟩,rfl⟩;clear P A Q y S
          go_wp2
          go_roundw
          case rel=>exact⟨k+1,by omega,by go_num,by rw[l.o,AY f.o],gj (gj s.o d.o) a⟩
          case measure=>simp[intOf];omega
      · have aH:(t:Int)≤i:=by omega
        have f:gi (lS M i (mW M (k:Int))=false):=gg (by rw[Bu,B.o];rw[←ah.o];simp[r1]);have d0:decide (i<0)=false:=by simpa using r0
        have N:decide ((t:Int)≤i)=true:=by simpa using aH
        refine kK ga ga ?_
        repeat(go_big_quiet_step (fail))
        refine wpQuiet_nil ?_
        rintro H ⟨⟨af,a⟩,rfl⟩;clear P A Q y S
        go_wp2
        go_roundw
        case rel=>exact⟨k+1,by omega,by go_num,by rw[l.o,AY f.o],gj (gj s.o d.o) a⟩
        case measure=>simp[intOf];omega
    · have aS:i<0:=by omega
      have f:gi (lS M i (mW M (k:Int))=false):=gg (by rw[Bu,B.o];simp[r0]);have d0:decide (i<0)=true:=by simpa using aS
      refine kK ga ga ?_
      repeat(go_big_quiet_step (fail))
      refine wpQuiet_nil ?_
      rintro H ⟨⟨af,a⟩,rfl⟩;clear P A Q y S
      go_wp2
      go_roundw
      case rel=>exact⟨k+1,by omega,by go_num,by rw[l.o,AY f.o],gj (gj s.o d.o) a⟩
      case measure=>simp[intOf];omega
  · have aJ:k=I:=by omega
    subst aJ
    go_wp2
    go_ret;exact⟨by rw[show oU M i=mG M i k by unfold oU;rw[←X.o]];rfl,gj aB.o s.o⟩
end
theorem gF.he {M H N} (g:gF M H N):M.ends.length=M.harts.length:=by rw[g.ends,g.harts]
theorem C9 w B p h c d m a l g k f j M (o:iV w B p h c d m a l g k f j M) (he:M.ends.length=M.harts.length) i b (n:oQ M i=b) :
 Calls gd 73 #[fG (some ⟨p,0,none⟩),b_ c_ i] w fun e w'=>e =fH (fJ b)∧Up w w':=by
 subst n;exact KQ w B p h c d m a l g k f j M o he i
theorem mH {B w w1 w2} (h:Below B w w1) (a:Up w1 w2) (b:B≤w.heap.size):Below B w w2:=h.trans (a.mono (fO b h.size))
theorem Jn v w M i (c:gJ w v M) (a:∀ x∈M.harts,x.r.length=32) (b:M.lines.length≤8) r (h:oU M i=r) :
 Calls gd 20 #[v,b_ c_ i] w fun e w'=>e =fH (b_ c_ r)∧Up w w':=by
 subst h;exact Hw v w M i c a b
theorem yO {M} {k:Nat} (a:k<M.ends.length):yZ M (k:Int)=M.ends[k]:=by simp[yZ,a]
theorem E9 {M} {k:Nat} (a:k<M.harts.length):lm M (k:Int)=M.harts[k]:=by simp[lm,a]
theorem yj h c (a:h.r.length=32):(sL h c).r.length=32:=a
theorem LZ w B p wv hv ev m1 m2 m3 dv lv tv qs M H N (ho:iV w B p wv hv ev m1 m2 m3 dv lv tv qs M) (hg:gF M H N) (U:B≤w.heap.size) (c) :
 Calls gd 44 #[fG (some ⟨p,0,none⟩),cV c] w (jf B p w (oC M c.h)):=by
 obtain⟨ck,P,cw,cn⟩:=c;obtain⟨a1,c1,a2,c2,a3,c3,b1,d1,b2,d2,b3,d3,a5,c5,a6,c6,a7,c7,rfl,rfl,rfl,rfl,rfl,rfl,rfl,rfl,rfl⟩:=ho.shapes;unfold cV;simp only;have he:=hg.he;obtain⟨w1,ad,hc1,ax,_⟩:=pC w (d_ #[b_ c_ ck,b_ c_ P,b_ c_ cw,b_ c_ cn] 28);have af:=gg (ho.below ax);have av:gi (Below B w w1):=gg (ax.mono U);have aM:=gg hc1;obtain⟨K,l,L,I⟩:=kM hc1;have r:=gn hc1;have Q:=gg hg;have HE:=gg he;clear hc1 ax ho K L I hg he;cases V:oQ M P
 · have e:oC M P=(jX,1):=by unfold oC;rw[if_pos V]
   rw[e];clear e;have O:=gg V;clear V;go_in;go_upto_region 1 with(fail)
   rw[←ad];clear ad
   go_wp2_with fail
   refine(C9 _ _ _ _ _ _ _ _ _ _ _ _ _ M af.o HE.o P false O.o).mono ?_
   rintro e w2 ⟨rfl,D⟩;have Z:=gg (mH av.o D U);clear D
   go_wp2
   go_ret;exact jf.fail Z.o fZ
 · obtain⟨r0,r1,r2⟩:=rj V
   obtain⟨k,rfl⟩:∃ k:Nat,P=k:=⟨P.toNat,by omega⟩;have hk:k<M.ends.length:=by omega
   have aQ:k<M.harts.length:=by omega
   have O:=gg V;have HK:gi (k<M.ends.length):=gg hk;have ag:gi (k<M.harts.length):=gg aQ;obtain⟨E,v⟩:∃ E,yZ M (k:Int)=E:=⟨_,rfl⟩;have ai:=gg v;obtain⟨R,F⟩:∃ R,R=oC M (k:Int):=⟨_,rfl⟩;rw[←F];have HR:=gg F;clear V r0 r1 r2 hk aQ v F;go_in;go_upto_region 1 with(fail)
   rw[←ad];clear ad
   go_wp2_with fail
   refine(C9 _ _ _ _ _ _ _ _ _ _ _ _ _ M af.o HE.o k true O.o).mono ?_
   rintro e w2 ⟨rfl,D⟩;have Z:=gg (mH av.o D U);have ab:=gg (af.o.below D);have al:=gg (gk D aM.o);clear D l r av af aM;obtain⟨g,cc,aT,e2,aO,aq,aw,_⟩:=rf ab.o.parts.ends HK.o;injection e2 with e2 _ e3
   subst e2 e3;rw[←yO HK.o,ai.o] at aw;obtain⟨K,l,L,I⟩:=kM al.o;obtain⟨A,j,o,k3,z,s,y,q,t⟩:=gU ab.o.at_;have d:=gn ab.o.at_;have r:=gn al.o;have aG:=gn aO;obtain⟨n3,ar⟩:∃ n,n=M.ends.length:=⟨_,rfl⟩;have bd:k<n3:=by rw[ar];exact HK.o
   rw[←ar] at o;have x2:=fun x=>gD d o x
   have Y:=fun x=>gD r l x
   have z1:=fun x=>gD aG aw x
   clear A j o k3 z s y q t K l L I aO aq aw ar;go_upto_region 3 with(fail)
   by_cases v:E=0
   · have d0:(E != 0)=false:=by simp[v]
     refine kK ga ga ?_
     repeat(go_big_quiet_step (fail))
     refine wpQuiet_nil ?_
     rintro w3 ⟨⟨aY,G⟩,rfl⟩;have ae:=gg (mH Z.o G U);have X:=gg (ab.o.below G);have ak:=gg (gk G al.o);clear G x2 Y z1 d r aG Z ab al;obtain⟨K,l,L,I⟩:=kM ak.o;obtain⟨A,j,o,k3,z,s,y,q,t⟩:=gU X.o.at_;have d:=gn X.o.at_;have r:=gn ak.o;have x0:=fun x=>gD d A x
     have x1:=fun x=>gD d j x
     have x2:=fun x=>gD d o x
     have x3:=fun x=>gD d k3 x
     have x4:=fun x=>gD d z x
     have x5:=fun x=>gD d s x
     have x6:=fun x=>gD d y x
     have x7:=fun x=>gD d q x
     have x8:=fun x=>gD d t x
     have Y:=fun x=>gD r l x
     clear A j o k3 z s y q t K l L I;obtain⟨f,hf⟩:∃ f,oU M (k:Int)=f:=⟨_,rfl⟩;have HF:=gg hf;have aH:=D_ M (k:Int) M.lines.length;rw[show mG M (k:Int) M.lines.length=oU M (k:Int) from rfl,hf] at aH;clear hf;go_upto_region 5 with(fail)
     refine kK ga ga ?_
     repeat(go_big_quiet_step ((go_at_call 20;refine oS (Jn _ _ M _ ?_ Q.o.regs Q.o.lines f HF.o);exact(X.o.below (Wd.bel _)).isMac)))
     refine wpQuiet_nil ?_
     rintro w4 ⟨⟨bb,aj⟩,rfl⟩;have ao:=gg (mH ae.o aj U);have aa:=gg (X.o.below aj);have aD:=gg (gk aj ak.o);clear aj x0 x1 x2 x3 x4 x5 x6 x7 x8 Y d r ae X ak;by_cases aC:f<0
     · have e:oC M (k:Int)=(jX,101):=by
        unfold oC;rw[if_neg (by rw[O.o];simp),if_neg (by rw[ai.o,v];simp),if_pos (by rw[HF.o];exact aC)]
       have C:=gg (HR.o.trans e);clear e
       go_wp2
       go_ret;rw[C.o];exact jf.fail (e:=101) ao.o fZ
     · have e:oC M (k:Int)=(zb5 (zdL M f false) k (sL (lm M k) (-2147483648+f)),0):=by
        unfold oC;rw[if_neg (by rw[O.o];simp),if_neg (by rw[ai.o,v];simp),if_neg (by rw[HF.o];exact aC),HF.o]
       have F:=HR.o.trans e;clear e;obtain⟨m,rfl⟩:∃ m:Nat,f=m:=⟨f.toNat,by omega⟩;have hm:m<M.lines.length:=by omega
       have HM:gi (m<M.lines.length):=gg hm;obtain⟨g6,bc,bf,e6,ay,aP⟩:=uO aa.o.parts.lines f_;injection e6 with e6 _ e7
       subst e6 e7
       have aA:∃ u,w4.cell? ⟨g6,m*3+2,none⟩=some u:=by
        have:=aa.o.parts.lines;have h0:m*3+2<M.lines.length*3:=by omega
        exact⟨_,(this.cellAt (m*3+2) h0).trans (fQ (by rw[this.1];exact h0))⟩
       obtain⟨u,aA⟩:=aA;have aX:=gC ay (m*3+2);obtain⟨A,j,o,k3,z,s,y,q,t⟩:=gU aa.o.at_;obtain⟨n6,aB⟩:∃ n,n=M.lines.length:=⟨_,rfl⟩;have bh:m<n6:=by rw[aB];exact hm
       rw[←aB] at q;have W:=gg (aa.o.setLine rfl hm false)
       have ap:(w4.setCell ⟨g6,m*3+2,none⟩ (fJ false)).heap[w.heap.size]? = some (d_ #[b_ c_ ck,b_ c_ k,b_ c_ cw,b_ c_ cn] 28 (0,0)):=
        (iY (by rintro rfl;have:=aD.o;rw[ay] at this;injection this with e;injection e with _ e;exact absurd e fZ)).trans aD.o
       have aR:gi (Below B w (w4.setCell ⟨g6,m*3+2,none⟩ (fJ false))):=gg (ao.o.setCell aP _);have an:=gg ap;obtain⟨J,az⟩:∃ x,x=w4.setCell ⟨g6,m*3+2,none⟩ (fJ false):=⟨_,rfl⟩;have bg:w.heap.size<J.heap.size:=by rw[az];exact gn ap
       clear hm ay aP ap aB A j o k3 z s y t aH aC;go_upto_region 9 with(fail)
       rw[←az] at W aR an ⊢
       clear az aA aX q ao aa aD;have hq:c_.wrap (-2147483648+(m:Int)) = -2147483648+(m:Int):=IntWalk.i64_in _ (by have:=Q.o.lines;have:=HM.o;omega);obtain⟨g,cc,aT,e8,aI,aq,am,aL⟩:=W.o.parts.hart Q.o.regs ag.o;injection e8 with e8 _ e9
       subst e8 e9;have au:=Q.o.regs M.harts[k] (List.getElem_mem _);have aF:=E9 ag.o;rw[aF] at F;simp only[zdL] at am;generalize M.harts[k]=T at *
       have C:=gg F;clear F;have a8:=gg am;have aZ:=gg aL;have ac:=gg aI;obtain⟨n2,aE⟩:∃ n,n=M.harts.length:=⟨_,rfl⟩;have be:k<n2:=by rw[aE];exact ag.o
       have a9:=gg aE;clear am aL aI aF aE;refine fY (fun w'=>Up J w') 19 [true,true,true,true,true,true,true,true,true,true,true,true,true,true,true,true,true,true] (fun a b h hu=>gj h hu) fK ?a1 ?h1 ?ht1
       case h1=>
        intro w0 S;obtain⟨A,j,o,k3,z,s,y,q,t⟩:=gU (gk S W.o.at_);obtain⟨K,l,L,I⟩:=kM (gk S an.o);have d:=gn (gk S W.o.at_);have r:=gn (gk S an.o);rw[←a9.o] at j;have x1:=fun x=>gD d j x
        have Y:=fun x=>gD r l x
        have R0:gi (∀ w':World,(∃ x:Wd w0,w'=x.val)→(loadVar 56 ⟨g,k*39,none⟩).run gd w' = .ok (e_ (hA T)) w'):=gg (by
         rintro w' ⟨x,rfl⟩;have aS:=gk S ac.o;exact By au (pN (gn aS) (CO a8.o ac.o aS) x))
        clear A j o k3 z s y q t K l L I S;simp only[jd]
        iterate 15 (go_big_quiet_step (fail))
        go_big_quiet_want
        refine kY 56 _ ⟨g,k*39,none⟩ (e_ (hA T)) rfl rfl R0.o ?_
        simp only[Act.put,fU,fV,fW]
        go_big_quiet_on
        repeat(go_big_quiet_step (fail))
        refine wpQuiet_nil ?_
        rfl
       case ht1=>
        change kD _ _ _ _ _ _ 1 _ _ _;refine jQ (i:=18) ga fZ rfl ?_
        intro w6 _ aN;have aU:gi (Up J w6):=gg aN;clear aN
        go_wp2_with fail
        refine(LY T _ _ au).mono ?_
        rintro e w7 ⟨rfl,aJ⟩;have aW:=gg (gj aU.o aJ);clear aJ;have hT:=yj T (-2147483648+(m:Int)) au;have aK:=C.o;clear C;generalize sL T (-2147483648+(m:Int))=T' at *
        have C:=gg aK;clear aK
        go_wp2_with fail
        refine⟨aW.o,?_⟩;refine lR ga ?_
        intro w8 _ ah;have aV:=gg (W.o.below ah);have ba:=gg (gk ah ac.o);have a4:=gg (vi aZ.o ac.o ba.o);have a0:gi (Up J w8):=gg ah;have hs:=gV T' hT;clear ah;simp only[List.drop_succ_cons,List.drop_zero]
        go_wp2_with (refine wpList_store_mid rfl 56 _ _ rfl g (k*39) (hA T') rfl rfl (by rw[hs];exact a4.o) (by rw[hs];exact uS) (jU T') ?_)
        go_ret;rw[C.o];refine⟨rfl,?_,fun _=>⟨_,_,_,_,_,_,_,_,_,_,aV.o.setHart Q.o.regs rfl ag.o hT⟩⟩;exact rx aq _ _ (aR.o.trans (a0.o.mono f_))
   · have d0:(E != 0)=true:=by simp[v]
     have e:oC M (k:Int)=(jX,100):=by
      unfold oC;rw[if_neg (by rw[O.o];simp),if_pos (by rw[ai.o];exact v)]
     have C:=gg (HR.o.trans e);clear e;refine kK ga ga ?_
     repeat(go_big_quiet_step (fail))
     refine wpQuiet_nil ?_
     rintro w3 ⟨⟨aY,G⟩,rfl⟩;have ae:=gg (mH Z.o G U);clear G x2 Y z1
     go_wp2
     go_ret;rw[C.o];exact jf.fail (e:=100) ae.o fZ
theorem AR {w v m} (h:gM w v m):∃ g o i k p d f n j,v =e_ #[a_ g o i,a_ k p d,a_ f n j]:=by
 obtain⟨a,b,c,r,e,q,l,k3,_⟩:=h;obtain⟨g,i,rfl⟩:=gN q;obtain⟨k,d,rfl⟩:=gN l;obtain⟨f,j,rfl⟩:=gN k3;exact⟨_,_,_,_,_,_,_,_,_,e⟩
theorem MZ w B p wv hv ev m1 m2 m3 dv lv tv qs M H N (ho:iV w B p wv hv ev m1 m2 m3 dv lv tv qs M) (hg:gF M H N) (hB:B≤w.heap.size) (c) :
 Calls gd 42 #[fG (some ⟨p,0,none⟩),cV c] w (jf B p w (pK M c.h c.w)):=by
 obtain⟨ck,f,o,cn⟩:=c;obtain⟨a1,c1,a2,c2,a3,c3,b1,d1,b2,d2,b3,d3,a5,c5,a6,c6,a7,c7,rfl,rfl,rfl,rfl,rfl,rfl,rfl,rfl,rfl⟩:=ho.shapes;unfold cV;simp only;have he:=hg.he;obtain⟨w1,Z,hc1,ao,_⟩:=pC w (d_ #[b_ c_ ck,b_ c_ f,b_ c_ o,b_ c_ cn] 28);have aa:=gg (ho.below ao);have am:gi (Below B w w1):=gg (ao.mono hB);have aA:=gg hc1;obtain⟨q0,L,X,q3⟩:=kM hc1;have ad:=gn hc1;have HG:=gg hg;have HE:=gg he;clear hc1 ao ho q0 X q3 hg he;obtain⟨R,hR⟩:∃ R,R=pK M f o:=⟨_,rfl⟩;rw[←hR];have HR:=gg hR;clear hR;cases U:oQ M f
 · have W:=gg (HR.o.trans (by unfold pK;rw[if_pos U]:pK M f o=(jX,1)))
   have J:=gg U;clear U;go_in;go_upto_region 1 with(fail)
   rw[←Z];clear Z
   go_wp2_with fail
   refine(C9 _ _ _ _ _ _ _ _ _ _ _ _ _ M aa.o HE.o f false J.o).mono ?_
   rintro e w2 ⟨rfl,v⟩;have ab:=gg (mH am.o v hB);clear v
   go_wp2
   go_ret;rw[W.o];exact jf.fail (e:=1) ab.o fZ
 · have J:=gg U;clear U
   go_in;go_upto_region 1 with(fail)
   rw[←Z];clear Z
   go_wp2_with fail
   refine(C9 _ _ _ _ _ _ _ _ _ _ _ _ _ M aa.o HE.o f true J.o).mono ?_
   rintro e w2 ⟨rfl,v⟩;have ab:=gg (mH am.o v hB);have F:=gg (aa.o.below v);have av:=gg (gk v aA.o);clear v L ad am aa aA;go_upto_region 3 with(fail)
   go_cut [5,6] (fun s5 s6 wx=>∃ nb m r g q n j l t s,s5 = fG (some ⟨nb,0,none⟩)∧s6 =b_ c_ (mV M.mem f o).2∧wx.heap[nb]? = some (d_ #[a_ m r g,a_ q n j,a_ l t s] 33 (0,0))∧gM wx (e_ #[a_ m r g,a_ q n j,a_ l t s]) (mV M.mem f o).1∧Up w2 wx)
   case first=>
    refine fX (fun w'=>Up w2 w') [true,true,true,true,true,true,true,true,true] (fun a b h O=>gj h O) fK ?a1 ?h1 ?ht1
    case h1=>
     intro w0 Q;obtain⟨k0,Y,k2,k3,k4,k5,k6,k7,k8⟩:=gU (gk Q F.o.at_);obtain⟨q0,L,X,q3⟩:=kM (gk Q av.o);have ae:=gn (gk Q F.o.at_);have ad:=gn (gk Q av.o);have l:=fun x=>gD ae k3 x
     have x4:=fun x=>gD ae k4 x
     have x5:=fun x=>gD ae k5 x
     have g:=fun x=>gD ad L x
     have j:=fun x=>gD ad X x
     clear k0 Y k2 k3 k4 k5 k6 k7 k8 q0 L X q3 Q;simp only[jd];repeat(go_big_quiet_step (fail))
     refine wpQuiet_nil ?_
     rfl
    case ht1=>
     change kN _ _ _ _ _ 7 _ _ _;refine EC (i:=9) (k:=13) ga rfl rfl ?_ ?_
     · intro w3 _ A
       go_wp2_with fail
       refine(Hc _ M.mem f o _ ((F.o.below A).parts.mem) HG.o.small).mono ?_
       rintro e w4 ⟨v',rfl,u,I⟩;have aB:=gj A I;obtain⟨m,r,g,q,n,j,l,t,s,em⟩:=AR u;subst em;have aH:=gg u;have ay:=gg aB;clear u I aB A;have aG:M.mem.words.length≤100000:=HG.o.small.words;clear aG
       go_wp2_with fail
       refine⟨ay.o,?_⟩;refine GN [false,false,false,false,false,false,false,false,false,false,true,true,true] 3 ga ga ga (fun a b h O=>gj h O) ay.o ?ra1 ?rh1 ?rt1
       case rh1=>
        intro w0 _;simp only[jd];repeat(go_big_quiet_step (fail))
        refine wpQuiet_nil ?_
        rfl
       case rt1=>
        refine js (i:=13) ga rfl ?_
        intro P aD C;have au:=gg (aH.o.below aD);have ai:w2.heap.size≤P.heap.size:=C.size;have ac:=gg C;clear aD C
        go_wp2_with fail
        refine⟨gj ac.o (gr P _),?_⟩;refine js (i:=14) ga rfl ?_
        intro w6 D S;have d:=gk D (gH P (d_ #[a_ none 0 0,a_ none 0 0,a_ none 0 0] 33));have K:=gg ((au.o.below (gr P (d_ #[a_ none 0 0,a_ none 0 0,a_ none 0 0] 33))).below D);obtain⟨k0,Y,k2⟩:=iv d;have f0:=gC d 0;have f1:=gC d 1;have f2:=gC d 2;have an:=gg (jT (x:=a_ m r g) (y:=a_ q n j) (z:=a_ l t s) d).1;have af:=gg (pJ (a_ m r g) (a_ q n j) (a_ l t s) K.o d);have ah:=gg (kt (x:=a_ m r g) (y:=a_ q n j) (z:=a_ l t s) S ai);clear D S d K
        go_wp2_with fail
        refine⟨ah.o,?_⟩;refine js (i:=15) ga rfl ?_
        intro w7 V al;have ap:=gg (gk V an.o);have ag:=gg (af.o.below V)
        go_wp2_with fail
        refine⟨al,?_⟩;refine od ga ?_
        intro w8 T ak;have aw:=gg (gk T ap.o);have aj:=gg (ag.o.below T)
        go_wp2
        go_meet
        case rel=>exact⟨_,_,_,_,_,_,_,_,_,_,rfl,rfl,aw.o,aj.o,ak⟩
     · intro w3 _ A
       have ai:w2.heap.size≤w3.heap.size:=A.size
       go_wp2_with fail
       refine⟨gj A (gr w3 _),?_⟩;refine js (i:=9) ga rfl ?_
       intro w4 ax I;have aE:=gg (gk ax (gH w3 (d_ #[a_ none 0 0,a_ none 0 0,a_ none 0 0] 33)));clear ax A
       go_wp2_with fail
       refine(Hc _ M.mem f o _ ((F.o.below I).parts.mem) HG.o.small).mono ?_
       rintro e P ⟨v',rfl,u,C⟩;have az:=gj I C;obtain⟨m,r,g,q,n,j,l,t,s,em⟩:=AR u;subst em;have au:=gg u;have ac:=gg az;have aF:=gg (gk C aE.o);clear u C az I aE
       go_wp2_with fail
       refine⟨ac.o,?_⟩;refine GN [false,false,false,false,false,false,false,false,false,false,true,true,true] 2 ga ga ga (fun a b h O=>gj h O) ac.o ?ra2 ?rh2 ?rt2
       case rh2=>
        intro w0 _;simp only[jd];repeat(go_big_quiet_step (fail))
        refine wpQuiet_nil ?_
        rfl
       case rt2=>
        refine js (i:=14) ga rfl ?_
        intro w6 D S;have d:=gk D aF.o;have K:=gg (au.o.below D);obtain⟨k0,Y,k2⟩:=iv d;have f0:=gC d 0;have f1:=gC d 1;have f2:=gC d 2;have an:=gg (jT (x:=a_ m r g) (y:=a_ q n j) (z:=a_ l t s) d).1;have af:=gg (pJ (a_ m r g) (a_ q n j) (a_ l t s) K.o d);have ah:=gg (kt (x:=a_ m r g) (y:=a_ q n j) (z:=a_ l t s) S ai);clear D S d K
        go_wp2_with fail
        refine⟨ah.o,?_⟩;refine js (i:=15) ga rfl ?_
        intro w7 V al;have ap:=gg (gk V an.o);have ag:=gg (af.o.below V)
        go_wp2_with fail
        refine⟨al,?_⟩;refine od ga ?_
        intro w8 T ak;have aw:=gg (gk T ap.o);have aj:=gg (ag.o.below T)
        go_wp2
        go_meet
        case rel=>exact⟨_,_,_,_,_,_,_,_,_,_,rfl,rfl,aw.o,aj.o,ak⟩
   case rest=>
    obtain⟨nb,m,r,g,q,n,j,l,t,s,rfl,rfl,hn,u,hb⟩:=hcut;have G:=gg (F.o.below hb);have aC:=gg (mH ab.o hb hB);have HN:=gg hn;have HM:=gg u;obtain⟨k0,Y,k2⟩:=iv hn;have aI:=gn hn;obtain⟨q0,L,X,q3,q4,q5,q6,q7,q8⟩:=gU G.o.at_;have f3:=gC G.o.at_ 3;have f4:=gC G.o.at_ 4;have f5:=gC G.o.at_ 5;have aq:=G.o.base;obtain⟨E,hE⟩:∃ E,E=(mV M.mem f o).2:=⟨_,rfl⟩;rw[←hE];have ar:=gg hE;clear hE hn u hb F av ab;by_cases h0:E=0
    · have W:=gg (HR.o.trans (by unfold pK;rw[if_neg (by rw[J.o];simp),if_pos (by rw[←ar.o];exact h0)]:pK M f o=({ M with mem:=(mV M.mem f o).1 },0)))
      have d0:(E == 0)=true:=by simp[h0]
      subst h0
      go_wp2
      go_ret;rw[W.o];exact⟨rfl,((aC.o.setCell aq _).setCell aq _).setCell aq _,fun _=>⟨_,_,_,_,_,_,_,_,_,_,G.o.setMem HM.o⟩⟩
    · have W:=gg (HR.o.trans (by unfold pK;rw[if_neg (by rw[J.o];simp),if_neg (by rw[←ar.o];exact h0),←ar.o]:pK M f o=(jX,E)))
      have d0:(E == 0)=false:=by simp[h0]
      go_wp2
      go_ret;rw[W.o];exact jf.fail (e:=E) aC.o h0
end
