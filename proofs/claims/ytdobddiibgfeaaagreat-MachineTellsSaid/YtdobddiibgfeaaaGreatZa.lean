/- What the walks of this statement lean on: shown. -/
import Derived.WalkSpells
import Derived.WalkLawsBesides
import Derived.Lib.Hide
import Derived.Deep.RegionHeld3
import Derived.BigQuiet
import Derived.StillTail
import Derived.Laws.CopyOwn
import Derived.Deep.DeepCutAuto
import Derived.Deep.Slices
import Derived.OpenShut
import Derived.Deep.AppendSrc
set_option linter.all false
set_option maxRecDepth 100000
set_option maxHeartbeats 16000000
namespace Go.Proofs.YtdobddiibgfeaaaGreat
open Value renaming slice→a_,int→b_,agg→e_,pointer→fG,tuple→fI,bool→fJ
open IntKind renaming i64→c_
open Obj renaming cells→d_
open Ending renaming returned→fH
section
open Go.RowKit
abbrev Up (w w':World):Prop:=Below w.heap.size w w'
def gi (p:Prop):Prop:=p
theorem gi.o {p:Prop} (h:gi p):p:=h
theorem fK {k:Nat} {w}:Below k w w:=Below.refl k w
theorem fL {k:Nat}:k≤k:=Nat.le_refl k
theorem fM {k:Nat}:0≤k:=Nat.zero_le k
theorem fN {a b c:Nat} (h:a<b) (k:b≤c):a<c:=Nat.lt_of_lt_of_le h k
theorem fO {a b c:Nat} (h:a≤b) (k:b≤c):a≤c:=Nat.le_trans h k
theorem fP {α} {i} {l:List α} (h:i<l.length):l.take (i+1)=l.take i++[l[i]]:=List.take_succ_eq_append_getElem h
theorem fQ {α} {l:List α} {i} (h:i<l.length):l[i]? = some l[i]:=List.getElem?_eq_getElem h
theorem fR {α} {l:List α} {a} {i:Nat} (h:l[i]? = some a):∃ h:i<l.length,l[i]=a:=List.getElem?_eq_some_iff.1 h
theorem fS {α} [BEq α] [LawfulBEq α] {a b:α} (h:a≠b):(a==b)=false:=beq_eq_false_iff_ne.2 h
theorem fT {α} {l:List α} (h:l.length=0):l=[]:=List.eq_nil_of_length_eq_zero h
theorem fU {α} {l:List α} {i} {a}:l.toArray.setIfInBounds i a=(l.set i a).toArray:=List.setIfInBounds_toArray ..
theorem fV {α} {l:List α} {x a} {n}:(x::l).set (n+1) a=x::l.set n a:=rfl
theorem fW {α} {l:List α} {x a}:(x::l).set 0 a=a::l:=rfl
theorem fZ {p:Prop} (h:p:=by decide):p:=h
theorem f_ {p:Prop} (h:p:=by omega):p:=h
theorem ga {p:Prop} (h:p:=by kernel_rfl):p:=h
theorem gb {p:Prop} (h:p:=by simp):p:=h
end
open Go.ChangeShapes Go.RowKit Go.WideShapes
theorem gg {p:Prop} (h:p):gi p:=h
theorem kx (b o j):(⟨b,o,none⟩:Addr).add j=⟨b,o+j,none⟩:=by
 unfold Addr.add;split
 · subst_vars;rfl
 · rfl
def gl (w:World) (k n:Nat) (v:Value) (xs:List Value):Prop:=
 xs.length=n*k∧(∀ u∈xs,u.oneCell'=true) ∧
 (
  (v =a_ none 0 0∧n=0) ∨
  ∃ b o c,v =a_ (some ⟨b,o,none⟩) n c∧b<w.heap.size∧n≤c∧c≤maxLen ∧ ∀ j u,xs[j]? = some u→w.cell? ⟨b,o+j,none⟩=some u)
theorem gl.nil w (k):gl w k 0 (a_ none 0 0) []:=⟨by simp,by simp,.inl ⟨rfl,rfl⟩⟩
theorem gl.below {w w' k n v xs} (h:gl w k n v xs) (a:Up w w'):gl w' k n v xs:=by
 refine⟨h.1,h.2.1,?_⟩;rcases h.2.2 with h|⟨b,o,c,rfl,d,g,e,f⟩
 · exact .inl h
 · exact .inr ⟨b,o,c,rfl,fN d a.size,g,e,fun j u i=>by rw[a.cell (p:=⟨b,o+j,none⟩) d];exact f j u i⟩
theorem gl.own {w} {base e k n:Nat} {v xs} (h:w.ownsRow base e k v n xs) (h1:∀ u∈xs,u.oneCell'=true):gl w k n v xs:=by
 refine⟨h.1,h1,?_⟩;rcases h.2 with i|⟨g,c,s,rfl,q,a,o,l,r,ht⟩
 · exact .inl i
 · have p:g<w.heap.size:=by
    by_cases d:g<w.heap.size
    · exact d
    · rw[Array.getElem?_eq_none f_] at a;cases a
   refine .inr ⟨g,0,c,rfl,p,o,l,fun j u b=>?_⟩;have m:w.ownsRow base e k (a_ (some ⟨g,0,none⟩) n c) n xs:=h
   have f:j<n*k:=by
    have:=(fR b).1;rw[h.1] at this;exact this
   rw[show 0+j=j from Nat.zero_add j,m.cellAt j f,b]
theorem gl.shape {w k n v xs} (h:gl w k n v xs):∃ a c,v =a_ a n c:=by
 rcases h.2.2 with⟨rfl,rfl⟩|⟨b,o,c,rfl,_⟩
 · exact⟨_,_,rfl⟩
 · exact⟨_,_,rfl⟩
theorem gN {w:World} {base e k n:Nat} {v xs} (h:w.ownsRow base e k v n xs):∃ a c,v =a_ a n c:=by
 rcases h.2 with⟨rfl,rfl⟩|⟨g,c,b,rfl,_⟩
 · exact⟨_,_,rfl⟩
 · exact⟨_,_,rfl⟩
theorem jW {w:World} {base a e k n:Nat} {v xs} (h:w.ownsRow base e k v n xs) (f:a≤base):w.ownsRow a e k v n xs:=by
 refine⟨h.1,?_⟩;rcases h.2 with h|⟨g,c,i,d,b,r⟩
 · exact .inl h
 · exact .inr ⟨g,c,i,d,fO f b,r⟩
theorem kj (w:World) a (u):(w.setCell a u).heap.size=w.heap.size:=by simp[World.setCell]
theorem Gq (w:World) a u (o):((w.setCell a u).alloc o).heap[w.heap.size]? = some o:=by
 have:=heap_alloc_new (w.setCell a u) o
 rwa [kj] at this
theorem BC {w:World} {base e k n b:Nat} {v xs} (h:w.ownsRow base e k v n xs) (a:w.heap.size≤b):v.ownBlock≠some b:=by
 intro e;have:=(h.lt b e).2;omega
theorem lD {B b o a w u} (c:B≤b) (h:Below B a w):Below B a (w.setCell ⟨b,o,none⟩ u):=h.setCell c u
theorem Bq {w:World} {b g} (h:g≠b) o j (u):(w.setCell ⟨b,o,none⟩ u).cell? ⟨g,j,none⟩=w.cell? ⟨g,j,none⟩:=
 World.cell?_of_block (Below.heap_setCell w _ u g h)
theorem Kl {w a row} (h:Up w a):w.grownBy a row:=⟨h.os,h.tape,h.output,h.size,fun k b _=>h.block k b⟩
theorem BA {w a b:World} {C row} (h:w.grownBy a row) (hC:w.heap.size≤C) (h2:Below C a b):w.grownBy b row:=
 ⟨h2.os.trans h.os,h2.tape.trans h.tape,h2.output.trans h.output,fO h.size h2.size,fun k c d=>(h2.block k (fN c hC)).trans (h.block k c d)⟩
theorem J9 {w a:World} {p o u} (h:w.grownBy a (some p)):w.grownBy (a.setCell ⟨p,o,none⟩ u) (some p):=
 ⟨h.os,h.tape,h.output,by rw[kj];exact h.size,fun k c b=>(Below.heap_setCell a _ u k (fun e=>b (by rw[e]))).trans (h.block k c b)⟩
theorem J_ {w a:World} {row b o u} (e:w.heap.size≤b) (h:w.grownBy a row):w.grownBy (a.setCell ⟨b,o,none⟩ u) row:=
 ⟨h.os,h.tape,h.output,by rw[kj];exact h.size,fun k d c=>(Below.heap_setCell a _ u k (by simp only;omega)).trans (h.block k d c)⟩
theorem jL {w:World} {b g o u x} (h:g≠b) (a:w.heap[g]? = x):(w.setCell ⟨b,o,none⟩ u).heap[g]? = x:=(Below.heap_setCell w _ u g h).trans a
theorem sG (w:World) o b (h:b=w.heap.size):(w.alloc o).heap[b]? = some o:=by subst h;exact heap_alloc_new w o
theorem gv {w:World} {b cs} {t:TypeId} (h:w.heap[b]? = some (d_ cs t (0,0))) {j} {u} (a:cs[j]? = some u):w.cell? ⟨b,j,none⟩=some u:=by
 rw[cell_of_row w b j cs t (0,0) h,a]
theorem gC {w:World} {b cs} {t:TypeId} (h:w.heap[b]? = some (d_ cs t (0,0))) (j):w.frozen? ⟨b,j,none⟩=false:=by
 simp[World.frozen?,h]
theorem gn {w:World} {b o} (h:w.heap[b]? = some o):b<w.heap.size:=by
 by_cases a:b<w.heap.size
 · exact a
 · rw[Array.getElem?_eq_none f_] at h;cases h
theorem jb {w:World} {b cs} {t:TypeId} (h:w.heap[b]? = some (d_ cs t (0,0))) (j) (u):(w.setCell ⟨b,j,none⟩ u).heap[b]? = some (d_ (cs.setIfInBounds j u) t (0,0)):=by
 simp[World.setCell,Array.getElem?_modify,h]
theorem gH (w:World) (o):(w.alloc o).heap[w.heap.size]? = some o:=heap_alloc_new w o
theorem iE {B w w' b o} (c:Below B w w') (a:b<B) (h:w.heap[b]? = some o):w'.heap[b]? = some o:=by rw[c.block b a,h]
theorem lJ {B a w} (h:Below B a w) (n):Below B a (w.drewN n):=⟨h.os,h.tape,h.output,h.size,h.block⟩
theorem MM {w w' b k n cs} {t:TypeId} (h:w.heap[b]? = some (d_ cs t (0,0))) (a:cs.size=n*k) (h1:∀ u∈cs.toList,u.oneCell'=true) (e:n≤maxLen) (c:Up w w') :
 gl w' k n (a_ (some ⟨b,0,none⟩) n n) cs.toList:=by
 refine gl.below ?_ c;refine⟨by simpa using a,h1,.inr ⟨b,0,n,rfl,gn h,fL,e,fun j u d=>?_⟩⟩;rw[show 0+j=j from Nat.zero_add j];exact gv h (by simpa using d)
theorem Hd {w w' b k n xs} {t:TypeId} (h:w.heap[b]? = some (d_ xs.toArray t (0,0))) (a:xs.length=n*k) (h1:∀ u∈xs,u.oneCell'=true) (d:n≤maxLen) (c:Up w w') :
 gl w' k n (a_ (some ⟨b,0,none⟩) n n) xs:=by
 have:=MM (k:=k) (n:=n) h (by simpa using a) (by simpa using h1) d c
 simpa using this
theorem jR {W w1} (a:Up W w1):(∀ b o,b<W.heap.size→w1.cell? ⟨b,o,none⟩=W.cell? ⟨b,o,none⟩)∧(∀ b o,b<W.heap.size→w1.frozen? ⟨b,o,none⟩=W.frozen? ⟨b,o,none⟩):=
 ⟨fun b o h=>a.cell (p:=⟨b,o,none⟩) h,fun b o h=>a.frozen (p:=⟨b,o,none⟩) h⟩
theorem iS {a b} (h:Up a b) (o):Up a (b.alloc o):=h.alloc h.size o
theorem gj {a b c} (h:Up a b) (k:Up b c):Up a c:=h.trans (k.mono h.size)
theorem gO {a b p o} (h:Up a b) (c:a.heap.size≤p) (u):Up a (b.setCell ⟨p,o,none⟩ u):=h.setCell c u
theorem iR {a b} (h:Up a b):Up a b.drew:=h.drew
theorem zB {p:Prop} (h:p:=by repeat(first|(with_reducible first|exact Below.refl _ _|refine gO ?_ ?_ _|apply iS|refine gj ?_ (by assumption)|apply iR)|omega)):p:=h
theorem nE {w w'} (h:Below w.drew.heap.size w.drew w'):Up w w':=⟨h.os,h.tape,h.output,h.size,h.block⟩
abbrev tO (w0 w':World):Prop:=(∀ b o,b<w0.heap.size→w'.cell? ⟨b,o,none⟩=w0.cell? ⟨b,o,none⟩)∧Up w0 w'
theorem Lz (w):tO w w.drew:=⟨fun _ _ _=>rfl,fK.drew⟩
theorem AF {w0 w1 w2} (h:tO w0 w1) (k:Up w1 w2):tO w0 w2:=⟨(jR (gj h.2 k)).1,gj h.2 k⟩
theorem Lg {w0 w1} (h:tO w0 w1) (o):tO w0 (w1.alloc o):=⟨(jR (iS h.2 o)).1,iS h.2 o⟩
def gT (c n:Int):Int:=if c<0 then (-(c+1)) % n else c % n
theorem mL c n (h:0<n):0≤gT c n∧gT c n<n:=by
 unfold gT;split
 · exact⟨Int.emod_nonneg _ f_,Int.emod_lt_of_pos _ h⟩
 · exact⟨Int.emod_nonneg _ f_,Int.emod_lt_of_pos _ h⟩
theorem iN {a} (h:(Lit.int .i64 a).wf=true):-9223372036854775808≤a∧a≤9223372036854775807:=by
 simp[Lit.wf,IntKind.min,IntKind.max,IntKind.bits,IntKind.signed] at h;omega
theorem Im c n (h:c<0):-((c+1).tmod n)=gT c n:=by
 rw[show gT c n=(-(c+1)) % n from if_pos h,←Int.neg_tmod];exact Int.tmod_eq_emod_of_nonneg f_
theorem Il c n (h:¬ c<0):c % n=gT c n:=(if_neg h).symm
abbrev iy (a:Int):Prop:=-9223372036854775808≤a∧a≤9223372036854775807
structure Wd (w:World) where
 val:World
 bel:Up w val
instance (w:World):Nonempty (Wd w):=⟨⟨w,fK⟩⟩
theorem kK {P id} {Q:Exit→Act→World→Prop} {a w l} (c:P.follows .mixedOrders=true) (b:Region.lexB .any l.toArray=true)
 (h:wpQuiet P l.toArray (fun w'=>∃ x:Wd w,w'=x.val) (fun a'=>∀ w',(∃ x:Wd w,w'=x.val)→Q .normal a' w') l a):(Code.region id l.toArray true).wp P Q a w:=
 wp_region_quiet (C:=fun w'=>∃ x:Wd w,w'=x.val) c b ⟨⟨_,iR fK⟩,rfl⟩ h
theorem oS {P f args w} {x:Wd w} {v} (h:Calls P f args x.val (fun e w'=>e =fH v∧Below x.val.heap.size x.val w')) :
 Calls P f args x.val (fun e c=>e =fH v ∧ ∃ b:Wd w,c=b.val):=h.mono fun _ w' ⟨he,a⟩=>⟨he,⟨w',gj x.bel a⟩,rfl⟩
theorem oA {P f args w} {x:Wd w} {v} (h:Calls P f args x.val (fun e w'=>e =fH v∧x.val=w')) :
 Calls P f args x.val (fun e c=>e =fH v ∧ ∃ b:Wd w,c=b.val):=h.mono fun _ _ ⟨he,a⟩=>⟨he,x,a.symm⟩
theorem gD {w b o v} (a:b<w.heap.size) (h:w.cell? ⟨b,o,none⟩=some v) (x:Wd w):x.val.cell? ⟨b,o,none⟩=some v:=by
 rw[x.bel.cell (p:=⟨b,o,none⟩) a];exact h
section
section
variable {P:Program} {ops:Array Oper} {md:Region.Mode} {C:World→Prop}
def Ed (P:Program) (md:Region.Mode) (ops:Array Oper) (C:World→Prop) (n:Nat) (L:Array Bool→Act→Prop):Nat→Array Bool→Act→Prop
 | 0,done,a=>L done a
 | f+1,done,a=>Region.ready md ops done≠[] ∧ ∀ i∈Region.ready md ops done,i<n∧qOp P ops C i (Ed P md ops C n L f (done.setIfInBounds i true)) a
theorem Ni {n g} {L:Array Bool→Act→Prop} {Q:Exit→Act→World→Prop} (hL:∀ done a w,C w→L done a→wpAny P md ops Q g done a w) (f) :
 ∀ (done:Array Bool) (a:Act) (w:World),C w→Ed P md ops C n L f done a→wpAny P md ops Q (f+g) done a w:=by
 induction f with
 | zero=>intro done a w b h;rw[Nat.zero_add];exact hL _ _ _ b h
 |
  succ f ih=>
  intro done a w b h;rw[show f+1+g=(f+g)+1 by omega];exact⟨fun e=>absurd e h.1,fun i d=>wpOp_of_qOp b (fun a' w' j c=>ih _ a' w' j c) (h.2 i d).2⟩
theorem L_ {n i o v} {L:Array Bool→Act→Prop} (r:ops[i]? = some o) (t:∀ (j:Nat) (o:Oper) cs b,ops[j]? = some o→o.op ≠ .select cs b)
 (G:Region.sinkB md ops n=true) (K:Region.chainB md ops n=true) (D:n<ops.size) (y:i<n) (I:∀ done a,L done a → ∀ j∈Region.ready md ops done,n≤j) (f) :
 ∀ (done:Array Bool) (a:Act),HeadInv md ops n done →
  (∀ j l,ops[j]? = some l→j≠i→done.getD j true=false→(∀ e∈l.after,Region.binds md e=true→e.on≠i)→o.apart ops l=true) →
  i∈Region.ready md ops done→YieldsIn P ops C o v a →
  Ed P md ops C n L f (done.setIfInBounds i true) (a.put o.dst v)→Ed P md ops C n L (f+1) done a:=by
 have m:∀ {done:Array Bool},HeadInv md ops n done→i∈Region.ready md ops done → ∀ j∈Region.ready md ops done,j<n:=fun {done} g c j d=>
  Nat.lt_of_not_le fun h=>tail_waits G K D g _ i rfl y (mem_ready.1 c).1 j h d
 induction f with
 |
  zero=>
  intro done a g _ c p H;refine⟨fun e=>(by rw[e] at c;cases c),fun j d=>⟨m g c j d,?_⟩⟩;by_cases e:j=i
  · subst e;exact p.qOp r H
  · have:=I _ _ H j (ready_mono d e)
    have:=m g c j d;omega
 |
  succ f ih=>
  intro done a g u c p H;refine⟨fun e=>(by rw[e] at c;cases c),fun j d=>⟨m g c j d,?_⟩⟩;by_cases e:j=i
  · subst e;exact p.qOp r H
  · obtain⟨w,l,q,F⟩:=mem_ready.1 d
    have M:∀ e∈l.after,Region.binds md e=true→e.on≠i:=fun e he E A=>by
     have h1:=F e he E;rw[A,getD_both (mem_ready.1 c).1] at h1;cases h1
    have step:=qOp_put q (u j l q e w M) (fun cs b=>t i o cs b r) (fun cs b=>t j l cs b q) p (H.2 j (ready_mono d e)).2;refine qOp_mono (fun a' h=>?_) step;refine ih (done.setIfInBounds j true) a' (g.set d (m g c j d)) (fun k ok B z s J=>u k ok B z ?_ J) (ready_mono c (Ne.symm e)) h.1 ?_
    · by_cases x:j=k
      · subst x;exact w
      · rw[getD_set_ne true x] at s;exact s
    · rw[Array.setIfInBounds_comm _ _ e];exact h.2
theorem wh {n g} {R:Act→Prop} (u:Region.noSelect ops=true) (x:Region.sinkB md ops n=true) (r:Region.chainB md ops n=true) (s:n<ops.size) (l) :
 ∀ (k:Nat) (done:Array Bool) (a:Act),(∀ j,j<l.length→l[j]? = ops[k+j]?)→k+l.length=n→HeadInv md ops n done→Region.lexHead md ops g l.length k done=true→wpQuiet P ops C R l a →
  Ed P md ops C n (fun i a'=>Region.seqB md ops g n i=true∧R a') l.length done a:=by
 induction l with
 |
  nil=>
  intro k done a _ c _ b h;obtain rfl:k=n:=by simpa using c
  exact⟨by simpa[Region.lexHead] using b,h⟩
 |
  cons o l ih=>
  intro k done a hl c f b h;have h0:ops[k]? = some o:=by simpa using(hl 0 gb).symm
  simp only[List.length_cons,Region.lexHead,Bool.and_eq_true] at b;obtain⟨⟨y,t⟩,w⟩:=b;have d:k<n:=by simp only[List.length_cons] at c;omega
  have e:k∈Region.ready md ops done:=by simpa using y
  have m:qOp P ops C k (wpQuiet P ops C R l) a:=by unfold qOp;simp only[h0];exact h
  obtain⟨v,q,p⟩:=yieldsIn_of_qOp h0 m;refine L_ h0 (Region.noSelect_spec u) x r s d (fun i a' hL=>seqB_ready hL.1) l.length done a f (Region.free_spec h0 t) e q ?_
  refine ih (k+1) _ _ (fun j z=>?_) (by simp only[List.length_cons] at c;omega) (f.set e d) w p;have:=hl (j+1) (by simp;omega)
  simpa[Nat.add_assoc,Nat.add_comm 1 j] using this
end
theorem JD {P} {C:World→Prop} {id} {Q:Exit→Act→World→Prop} {a w} {l:List Oper} n (i:P.follows .mixedOrders=true) (c:Region.lexTailB .any l.toArray n=true)
 (hC:C { w with drawn:=w.drawn+1 }) (h:wpQuiet P l.toArray C (fun a'=>∀ w',C w'→wpList P l.toArray Q (l.drop n) a' w') (l.take n) a):(Code.region id l.toArray true).wp P Q a w:=by
 simp only[Region.lexTailB,Bool.and_eq_true,decide_eq_true_eq] at c;obtain⟨⟨⟨⟨o,d⟩,p⟩,m⟩,q⟩:=c;have s:n<l.length:=by simpa using d
 have ht:(l.take n).length=n:=by simp;omega
 have b:(l.drop n).length=l.toArray.size - n:=by simp
 have k:HeadInv .any l.toArray n (Array.replicate l.toArray.size false):=
  ⟨by simp,fun j u _ hl=>(by rw[getD_replicate_false] at hl;cases hl),fun t _ ht=>getD_in (by simpa using ht) (getD_replicate_false _ _)⟩
 have H:=wh (md:=.any) (g:=l.toArray.size - n) o p m d (l.take n) 0 _ a (fun j e=>by
  have f:j<n:=by rw[ht] at e;exact e
  simp[f]) (by simpa using ht) k (by rw[ht];exact q) h
 refine wp_region_any i ?_
 have T:=Ni (Q:=Q) (g:=l.toArray.size - n) (fun done a' w' r hL=>by
  have:=wpAny_of_seq (md:=.any) (Q':=Q) (l.drop n) n done a' w' (fun j=>by simp[List.getElem?_drop]) (by rw[b];exact hL.1) (hL.2 w' r)
  rwa [b] at this) _ _ _ _ hC H
 rw[ht,show n+(l.toArray.size - n)=l.toArray.size by omega] at T;exact T
theorem ov {P id} {Q:Exit→Act→World→Prop} {a w} {l:List Oper} n (c:P.follows .mixedOrders=true) (b:Region.lexTailB .any l.toArray n=true)
 (h:wpQuiet P l.toArray (fun w'=>∃ x:Wd w,w'=x.val) (fun a'=>∀ w',(∃ x:Wd w,w'=x.val)→wpList P l.toArray Q (l.drop n) a' w') (l.take n) a):(Code.region id l.toArray true).wp P Q a w:=
 JD (C:=fun w'=>∃ x:Wd w,w'=x.val) n c b ⟨⟨_,iR fK⟩,rfl⟩ h
end
section
abbrev oF:=Nat→Option Obj
def qW (S:oF) (b:Nat) (o:Obj):oF:=fun x=>if x=b then some o else S x
def CR (w0:World) (S:oF) (w':World):Prop:=Up w0 w' ∧ ∀ b o,S b=some o→w0.heap.size≤b∧w'.heap[b]? = some o
section
variable {P:Program} {ops:Array Oper} {md:Region.Mode} {w0:World}
def YA (P:Program) (ops:Array Oper) (w0:World) (o:Oper) (v:Value) (a:Act):Prop:=∀ S,YieldsIn P ops (CR w0 S) o v a
def ru (P:Program) (ops:Array Oper) (w0:World) (i:Nat) (K:Act→oF→Prop) (a:Act) (S:oF):Prop:=
 match ops[i]? with
 | none=>K a S
 |
  some o=>(∃ v,YA P ops w0 o v a∧K (a.put o.dst v) S) ∨
  (o.guard=none ∧ ∃ z,(∀ w:World,(execOp a.eval o).run P w = .ok (.value (fG (some ⟨w.heap.size,0,none⟩))) (w.alloc z)) ∧ ∀ b,w0.heap.size≤b→S b=none→K (a.put o.dst (fG (some ⟨b,0,none⟩))) (qW S b z)) ∨
  (o.guard=none ∧ ∃ b cs c t,S b=some (d_ c t (0,0))∧(∀ w:World,w.heap[b]? = some (d_ c t (0,0))→(execOp a.eval o).run P w = .ok .skip (w.setRow b cs))∧K (a.put o.dst undef) (qW S b (d_ cs t (0,0))))
theorem wA {i a S} {K d:Act→oF→Prop} (h:∀ a S,K a S→d a S) (c:ru P ops w0 i K a S):ru P ops w0 i d a S:=by
 unfold ru at *
 split at c
 · exact h _ _ c
 · rcases c with⟨v,h1,h2⟩|⟨g,z,h1,h2⟩|⟨g,b,cs,j,t,h1,h2,h3⟩
   · exact .inl ⟨v,h1,h _ _ h2⟩
   · exact .inr (.inl ⟨g,z,h1,fun b e f=>h _ _ (h2 b e f)⟩)
   · exact .inr (.inr ⟨g,b,cs,j,t,h1,h2,h _ _ h3⟩)
def qi (P:Program) (md:Region.Mode) (ops:Array Oper) (w0:World) (L:Act→oF→Prop):Nat→Array Bool→Act→oF→Prop
 | 0,listed,a,S=>Region.ready md ops listed=[]∧L a S
 | f+1,listed,a,S=>(Region.ready md ops listed=[]→L a S) ∧ ∀ i∈Region.ready md ops listed,ru P ops w0 i (qi P md ops w0 L f (listed.setIfInBounds i true)) a S
theorem Dy {S w b o} (h:CR w0 S w) (a:S b=some o):b<w.heap.size:=gn (h.2 b o a).2
theorem vC {S w} z (h:CR w0 S w):w0.heap.size≤w.heap.size∧S w.heap.size=none∧CR w0 (qW S w.heap.size z) (w.alloc z):=by
 have c:=h.1.size;refine⟨c,?_,h.1.alloc c z,fun b o a=>?_⟩
 · cases e:S w.heap.size with
   | none=>rfl
   | some o=>have:=Dy h e;omega
 · unfold qW at a
   by_cases e:b=w.heap.size
   · rw[if_pos e] at a;injection a with a;subst a e
     exact⟨c,gH w _⟩
   · rw[if_neg e] at a
     have:=h.2 b o a;exact⟨this.1,iE ((Below.refl w.heap.size w).alloc fL z) (gn this.2) this.2⟩
theorem vD {S w b cs g} {t:TypeId} (h:CR w0 S w) (f:S b=some (d_ g t (0,0))):CR w0 (qW S b (d_ cs t (0,0))) (w.setRow b cs):=by
 have c:=h.2 b _ f;refine⟨below_setRow h.1 c.1 _,fun d o a=>?_⟩;unfold qW at a;by_cases e:d=b
 · subst e
   rw[if_pos rfl] at a;injection a with a;subst a
   exact⟨c.1,setRow_heap _ _ _ _ _ _ c.2⟩
 · rw[if_neg e] at a
   have:=h.2 d o a;exact⟨this.1,(setRow_other w b d cs e).trans this.2⟩
theorem K5 {L:Act→oF→Prop} {Q:Exit→Act→World→Prop} (hL:∀ a S w,CR w0 S w→L a S→Q .normal a w):∀ (f:Nat) (d:Array Bool) (a:Act) (S:oF) (w:World),CR w0 S w →
 qi P md ops w0 L f d a S→wpAny P md ops Q f d a w:=by
 intro f
 induction f with
 | zero=>intro d a S w c h;exact⟨h.1,hL _ _ _ c h.2⟩
 |
  succ f ih=>
  intro d a S w c h;refine⟨fun h0=>hL _ _ _ c (h.1 h0),fun i l=>?_⟩;have j:=h.2 i l;unfold ru at j;split at j
  · rename_i e
    unfold wpOp;simp only[e];exact ih _ _ _ _ c j
  · rename_i o e
    rcases j with⟨v,h1,h2⟩|⟨g,z,h1,h2⟩|⟨g,b,cs,p,t,h1,h2,h3⟩
    · exact wpOp_of_qOp (C:=CR w0 S) (K:=fun a'=>qi P md ops w0 L f (d.setIfInBounds i true) a' S) c (fun a' w' n k=>ih _ _ _ _ n k) ((h1 S).qOp e h2)
    · unfold wpOp;simp only[e]
      rw[if_pos (by simp[Region.wanted,g])];obtain⟨c1,m,c3⟩:=vC z c;refine .inl ?_
      unfold Oper.wp;rw[h1 w];exact ih _ _ _ _ c3 (h2 _ c1 m)
    · unfold wpOp;simp only[e]
      rw[if_pos (by simp[Region.wanted,g])];refine .inl ?_
      unfold Oper.wp;rw[h2 w (c.2 b _ h1).2];exact ih _ _ _ _ (vD c h1) h3
theorem zR {j c d v} (s:ops[j]? = some d) (p:c.apart ops d=true)
 (m:∀ cs b,c.op ≠ .select cs b) (k:∀ cs b,d.op ≠ .select cs b) {K:Act→oF→Prop} {a} {S}
 (l:YA P ops w0 c v a) (h:ru P ops w0 j K (a.put c.dst v) S) :
 ru P ops w0 j (fun a' x=>YA P ops w0 c v a'∧K (a'.put c.dst v) x) a S:=by
 obtain⟨h1,h2,h3⟩:=Oper.apart_spec p;have i:∀ u,YA P ops w0 c v (a.put d.dst u):=fun u S=>(l S).of_same (execOp_put c m a d.dst u h3) (wanted_put c a d.dst u h3)
 have he:=execOp_put d k a c.dst v h1;unfold ru at *
 simp only[s] at *
 rcases h with⟨u,f,e⟩|⟨g,z,f,e⟩|⟨g,b,cs,r,t,f,e,k3⟩
 · exact .inl ⟨u,fun S=>(f S).of_same he.symm (wanted_put d a c.dst v h1).symm,i u,by rw[←Act.put_comm a v u h2];exact e⟩
 · exact .inr (.inl ⟨g,z,fun w=>by rw[←he];exact f w,fun b o q=>⟨i _,by rw[←Act.put_comm a v _ h2];exact e b o q⟩⟩)
 · exact .inr (.inr ⟨g,b,cs,r,t,f,fun w n=>by rw[←he];exact e w n,i _,by rw[←Act.put_comm a v _ h2];exact k3⟩)
theorem L4 {L:Act→oF→Prop} {i f v} (z:ops[i]? = some f) (u:∀ (j:Nat) (o:Oper) cs b,ops[j]? = some o→o.op ≠ .select cs b) :
 ∀ (n:Nat) (c:Array Bool) (a:Act) (S:oF),
  (∀ j g,ops[j]? = some g→j≠i→c.getD j true=false→(∀ e∈g.after,Region.binds md e=true→e.on≠i)→f.apart ops g=true) →
  i∈Region.ready md ops c→YA P ops w0 f v a →
  qi P md ops w0 L n (c.setIfInBounds i true) (a.put f.dst v) S→qi P md ops w0 L (n+1) c a S:=by
 intro n
 have s:∀ (K:Act→oF→Prop) (a:Act) (S:oF),YA P ops w0 f v a→K (a.put f.dst v) S→ru P ops w0 i K a S:=fun K a S m h=>by
  unfold ru;simp only[z];exact .inl ⟨v,m,h⟩
 induction n with
 |
  zero=>
  intro c a S _ l m H;refine⟨fun h=>(by rw[h] at l;cases l),fun j p=>?_⟩;by_cases d:j=i
  · subst d;exact s _ _ _ m H
  · have:=ready_mono p d
    rw[H.1] at this;cases this
 |
  succ n ih=>
  intro c a S w l m H;refine⟨fun h=>(by rw[h] at l;cases l),fun j p=>?_⟩;by_cases d:j=i
  · subst d;exact s _ _ _ m H
  · have h1:=H.2 j (ready_mono p d)
    obtain⟨x,g,r,D⟩:=mem_ready.1 p
    have G:∀ e∈g.after,Region.binds md e=true→e.on≠i:=fun e he C J=>by
     have h1:=D e he C;have h0:=(mem_ready.1 l).1;rw[J] at h1;rcases Nat.lt_or_ge i c.size with q|q
     · simp[q] at h0 h1;rw[h0] at h1;cases h1
     · simp[Array.getElem?_eq_none q] at h1
    have h2:=zR r (w j g r d x G) (fun cs b=>u i f cs b z) (fun cs b=>u j g cs b r) m h1
    have I:∀ k ok,ops[k]? = some ok→k≠i→(c.setIfInBounds j true).getD k true=false →
     (∀ e∈ok.after,Region.binds md e=true→e.on≠i)→f.apart ops ok=true:=fun k ok B A t F=>by
     refine w k ok B A ?_ F;by_cases y:j=k
     · subst y;exact x
     · rw[getD_set_ne true y] at t;exact t
    refine wA (fun a' E h3=>ih (c.setIfInBounds j true) a' E I (ready_mono l (Ne.symm d)) h3.1 ?_) h2;rw[Array.setIfInBounds_comm _ _ d];exact h3.2
def CG (P:Program) (ops:Array Oper) (w0:World) (R:Act→Prop):List Oper→Act→Prop
 | [],a=>R a
 | o :: l,a=>∃ v,YA P ops w0 o v a∧CG P ops w0 R l (a.put o.dst v)
def x9:Nat→Nat→Array Bool→Array Bool
 | 0,_,listed=>listed
 | f+1,k,listed=>x9 f (k+1) (listed.setIfInBounds k true)
def zV (md:Region.Mode) (ops:Array Oper):Nat→Nat→Array Bool→Bool
 | 0,_,_=>true
 | f+1,k,listed=>(Region.ready md ops listed).contains k && Region.free md ops listed k && zV md ops f (k+1) (listed.setIfInBounds k true)
theorem wy {L:Act→oF→Prop} {g} {R:Act→Prop} {S} (p:Region.noSelect ops=true) (l):∀ (k:Nat) (b:Array Bool) (a:Act),(∀ j,j<l.length→l[j]? = ops[k+j]?)→zV md ops l.length k b=true →
 (∀ a',R a'→qi P md ops w0 L g (x9 l.length k b) a' S)→CG P ops w0 R l a→qi P md ops w0 L (l.length+g) b a S:=by
 induction l with
 | nil=>intro k b a _ _ c h;simp only[List.length_nil,Nat.zero_add];exact c a h
 |
  cons o l ih=>
  intro k b a hl d c h;have h0:ops[k]? = some o:=by simpa using(hl 0 gb).symm
  simp only[List.length_cons,zV,Bool.and_eq_true] at d;obtain⟨⟨q,i⟩,n⟩:=d;obtain⟨v,f,e⟩:=h;rw[show (o :: l).length+g=(l.length+g)+1 by simp only[List.length_cons];omega];refine L4 h0 (Region.noSelect_spec p) (l.length+g) b a S (Region.free_spec h0 i) (by simpa using q) f ?_
  exact ih (k+1) _ _ (fun j r=>by have:=hl (j+1) (by simp;omega);simpa[Nat.add_assoc,Nat.add_comm 1 j] using this) n (fun a' m=>by simpa[x9] using c a' m) e
theorem xi (a:Act) d b v (h:b≠d):(a.put (some b) v).tmps.getD d undef=a.tmps.getD d undef:=by
 simp[Act.put,Array.getD_eq_getD_getElem?,h]
theorem GW (a:Act) (d:Tmp) v (h:d<a.tmps.size):(a.put (some d) v).tmps.getD d undef=v:=by
 simp[Act.put,Array.getD_eq_getD_getElem?,h]
theorem Ij (a:Act) d (v):(a.put d v).tmps.size=a.tmps.size:=by
 cases d <;> simp[Act.put]
theorem Bo {C:World→Prop} {a'} d (l):∀ (a:Act),wpQuiet P ops C (fun x=>x=a') l a→(∀ o∈l,∀ e,o.dst=some e→e≠d)→a'.tmps.getD d undef=a.tmps.getD d undef:=by
 induction l with
 | nil=>intro a h _;have i:a=a':=h;rw[i]
 |
  cons o l ih=>
  intro a h b
  have g:∀ v,(a.put o.dst v).tmps.getD d undef=a.tmps.getD d undef:=fun v=>by
   cases e:o.dst with
   | none=>rfl
   | some e'=>exact xi a d e' v (b o gb e' e)
  unfold wpQuiet at h;split at h
  · obtain⟨v,_,h2⟩:=h
    rw[ih _ h2 (fun c f=>b c (by simp[f])),g]
  · rw[ih _ h (fun c f=>b c (by simp[f])),g]
def uW (a:Nat):List Oper→Bool
 | []=>true
 | o :: l=>(match o.dst with|none=>false|some d=>decide (d<a) && l.all (fun b=>match b.dst with|none=>false|some e=>decide (e≠d))) && uW a l
theorem Jf (w0):CR w0 (fun _=>none) w0:=⟨fK,fun b o a=>(by cases a)⟩
theorem AL {a'} q (l):∀ (a:Act),a.tmps.size=q→uW q l=true→(∀ S,(∃ w,CR w0 S w)→wpQuiet P ops (CR w0 S) (fun x=>x=a') l a)→CG P ops w0 (fun x=>x=a') l a:=by
 induction l with
 | nil=>intro a _ _ h;exact h (fun _=>none) ⟨w0,Jf w0⟩
 |
  cons o l ih=>
  intro a p c h;unfold uW at c;cases j:o.dst with
  | none=>rw[j] at c;simp at c
  |
   some d=>
   rw[j] at c;simp only[Bool.and_eq_true,decide_eq_true_eq,List.all_eq_true] at c;obtain⟨⟨h1,h2⟩,h3⟩:=c
   have r:∀ n∈l,∀ e,n.dst=some e→e≠d:=fun n t e he=>by
    have:=h2 n t;rw[he] at this
    simpa using this
   have m:∀ (S:oF) (v:Value),wpQuiet P ops (CR w0 S) (fun x=>x=a') l (a.put o.dst v)→v=a'.tmps.getD d undef:=fun S v s=>by
    rw[Bo d l _ s r,j,GW a d v (by rw[p];exact h1)]
   have step:∀ S,(∃ w,CR w0 S w) → ∃ v,YieldsIn P ops (CR w0 S) o v a∧wpQuiet P ops (CR w0 S) (fun x=>x=a') l (a.put o.dst v):=fun S f=>by
    have:=h S f;unfold wpQuiet at this;split at this
    · rename_i i
      obtain⟨v,g,b⟩:=this;exact⟨v,.inl ⟨i,g⟩,b⟩
    · rename_i i
      exact⟨undef,.inr ⟨by simpa using i,rfl⟩,this⟩
   refine⟨a'.tmps.getD d undef,fun S=>?_,?_⟩
   · by_cases f:∃ w,CR w0 S w
     · obtain⟨v,g,b⟩:=step S f
       rw[←m S v b];exact g
     · obtain⟨v,g,b⟩:=step (fun _=>none) ⟨w0,Jf w0⟩
       rw[←m _ v b];rcases g with⟨k,_⟩|k
       · exact .inl ⟨k,fun w i=>absurd ⟨w,i⟩ f⟩
       · exact .inr k
   · refine ih _ (by rw[Ij];exact p) h3 (fun S f=>?_)
     obtain⟨v,g,b⟩:=step S f;rw[←m S v b];exact b
end
structure sM (w0:World) (S:oF) where
 val:World
 ok:CR w0 S val
theorem Jq {w0 S}:(fun w'=>∃ x:sM w0 S,w'=x.val)=CR w0 S:=by
 funext w'
 exact propext ⟨fun ⟨x,a⟩=>a▸x.ok,fun h=>⟨⟨w',h⟩,rfl⟩⟩
theorem Ah {P f args w S} {x:sM w S} {v} (h:Calls P f args x.val (fun e w'=>e =fH v∧Below x.val.heap.size x.val w')) :
 Calls P f args x.val (fun e g=>e =fH v ∧ ∃ d:sM w S,g=d.val):=
 h.mono fun _ w' ⟨he,c⟩=>⟨he,⟨w',gj x.ok.1 c,fun b o a=>⟨(x.ok.2 b o a).1,iE c (gn (x.ok.2 b o a).2) (x.ok.2 b o a).2⟩⟩,rfl⟩
theorem CP {w S b o v} (a:b<w.heap.size) (h:w.cell? ⟨b,o,none⟩=some v) (x:sM w S):x.val.cell? ⟨b,o,none⟩=some v:=by
 rw[x.ok.1.cell (p:=⟨b,o,none⟩) a];exact h
def DK (ops:Array Oper) (n:Nat):Bool:=
 let D:=x9 n 0 (Array.replicate ops.size false)
 Region.noSelect ops && (decide (ops.size=n+4) && (zV .any ops n 0 (Array.replicate ops.size false) && (decide (Region.ready .any ops D=[n,n+1]) && (decide (Region.ready .any ops (D.setIfInBounds n true)=[n+1]) && (decide (Region.ready .any ops (D.setIfInBounds (n+1) true)=[n]) &&
 (decide (Region.ready .any ops ((D.setIfInBounds n true).setIfInBounds (n+1) true)=[n+2]) && (decide (Region.ready .any ops (((D.setIfInBounds n true).setIfInBounds (n+1) true).setIfInBounds (n+2) true)=[n+3]) &&
 decide (Region.ready .any ops ((((D.setIfInBounds n true).setIfInBounds (n+1) true).setIfInBounds (n+2) true).setIfInBounds (n+3) true)=[]))))))))
theorem JZ {P id} {Q:Exit→Act→World→Prop} {a w} {l:List Oper} n (hm:P.follows .mixedOrders=true) (V:DK l.toArray n=true) (hD:uW a.tmps.size (l.take n)=true)
 (G E H C) (h1:l.toArray[n]? = some G) (h2:l.toArray[n+1]? = some E) (h3:l.toArray[n+2]? = some H) (h4:l.toArray[n+3]? = some C)
 (g1:G.guard=none) (U:E.guard=none) (g3:H.guard=none) (g4:C.guard=none) (q p) (e1:G.dst=some q) (N:E.dst=some p) (e3:H.dst=none) (e4:C.dst=none) (ai:q≠p)
 (A t c1 D) (r s)
 (r1:∀ (a:Act) (w:World),(execOp a.eval G).run P w = .ok (.value (fG (some ⟨w.heap.size,0,none⟩))) (w.alloc (d_ A r)))
 (r2:∀ (a:Act) (w:World),(execOp a.eval E).run P w = .ok (.value (fG (some ⟨w.heap.size,0,none⟩))) (w.alloc (d_ t s)))
 (a') (h:∀ S,Nonempty (sM w S)→wpQuiet P l.toArray (fun w'=>∃ x:sM w S,w'=x.val) (fun x=>x=a') (l.take n) a)
 (hst:∀ c f,c≠f→(∀ w':World,w'.heap[c]? = some (d_ A r (0,0))→(execOp ((a'.put (some q) (fG (some ⟨c,0,none⟩))).put (some p) (fG (some ⟨f,0,none⟩))).eval H).run P w' = .ok .skip (w'.setRow c c1)) ∧
  (∀ w':World,w'.heap[f]? = some (d_ t s (0,0))→(execOp ((a'.put (some q) (fG (some ⟨c,0,none⟩))).put (some p) (fG (some ⟨f,0,none⟩))).eval C).run P w' = .ok .skip (w'.setRow f D)))
 (hQ:∀ c f w',w.heap.size≤c→w.heap.size≤f→c≠f→Up w w'→w'.heap[c]? = some (d_ c1 r (0,0))→w'.heap[f]? = some (d_ D s (0,0)) →
  Q .normal ((a'.put (some q) (fG (some ⟨c,0,none⟩))).put (some p) (fG (some ⟨f,0,none⟩))) w'):(Code.region id l.toArray true).wp P Q a w:=by
 simp only[DK,Bool.and_eq_true,decide_eq_true_eq] at V;obtain⟨ae,B,ah,ab,Z,W,X,aa,ak⟩:=V;have F:(l.take n).length=n:=by simp at B ⊢;omega
 refine wp_region_any hm ?_
 have T:∀ (c f:Nat) (S:oF),w.heap.size≤c→w.heap.size≤f→c≠f→S c=some (d_ A r (0,0))→S f=some (d_ t s (0,0)) →
  qi P .any l.toArray w (fun O S=>∃ c f,w.heap.size≤c∧w.heap.size≤f∧c≠f∧O=(a'.put (some q) (fG (some ⟨c,0,none⟩))).put (some p) (fG (some ⟨f,0,none⟩))∧S c=some (d_ c1 r (0,0))∧S f=some (d_ D s (0,0)))
   2 (((x9 n 0 (Array.replicate l.toArray.size false)).setIfInBounds n true).setIfInBounds (n+1) true) ((a'.put (some q) (fG (some ⟨c,0,none⟩))).put (some p) (fG (some ⟨f,0,none⟩))) S:=by
  intro c f S v u m ac aj;obtain⟨k1,k2⟩:=hst c f m;refine⟨fun h0=>(by rw[X] at h0;cases h0),fun i k=>?_⟩;rw[X] at k;obtain rfl:i=n+2:=by simpa using k
  unfold ru;simp only[h3];refine .inr (.inr ⟨g3,c,c1,A,r,ac,k1,?_⟩);rw[e3];refine⟨fun h0=>(by rw[aa] at h0;cases h0),fun i k=>?_⟩;rw[aa] at k;obtain rfl:i=n+3:=by simpa using k
  unfold ru;simp only[h4];refine .inr (.inr ⟨g4,f,D,t,s,by unfold qW;rw[if_neg (Ne.symm m)];exact aj,k2,?_⟩);rw[e4];exact⟨ak,c,f,v,u,m,rfl,by unfold qW;rw[if_neg m,if_pos rfl],by unfold qW;rw[if_pos rfl]⟩
 have K:=wy (md:=.any) (g:=4) (S:=fun _=>none) (R:=fun x=>x=a') ae (l.take n) 0 (Array.replicate l.toArray.size false) a (fun j Y=>by
  have ad:j<n:=by rw[F] at Y;exact Y
  simp[ad]) (by rw[F];exact ah) (fun x hx=>by
  subst hx;rw[F];refine⟨fun h0=>(by rw[ab] at h0;cases h0),fun i k=>?_⟩;rw[ab] at k;have ag:i=n∨i=n+1:=by simpa using k
  rcases ag with rfl|rfl
  · unfold ru;simp only[h1]
    refine .inr (.inl ⟨g1,_,r1 _,fun c v _=>?_⟩);rw[e1];refine⟨fun h0=>(by rw[Z] at h0;cases h0),fun z k=>?_⟩;rw[Z] at k;obtain rfl:z=i+1:=by simpa using k
    unfold ru;simp only[h2];refine .inr (.inl ⟨U,_,r2 _,fun f u I=>?_⟩);rw[N];have m:c≠f:=fun e=>by subst e;unfold qW at I;rw[if_pos rfl] at I;cases I
    exact T c f _ v u m (by unfold qW;rw[if_neg m,if_pos rfl]) (by unfold qW;rw[if_pos rfl])
  · unfold ru;simp only[h2]
    refine .inr (.inl ⟨U,_,r2 _,fun f u _=>?_⟩);rw[N];refine⟨fun h0=>(by rw[W] at h0;cases h0),fun z k=>?_⟩;rw[W] at k;obtain rfl:z=n:=by simpa using k
    unfold ru;simp only[h1];refine .inr (.inl ⟨g1,_,r1 _,fun c v L=>?_⟩);rw[e1];have m:c≠f:=fun e=>by subst e;unfold qW at L;rw[if_pos rfl] at L;cases L
    have:=T c f (qW (qW (fun _=>none) f (d_ t s (0,0))) c (d_ A r (0,0))) v u m (by unfold qW;rw[if_pos rfl]) (by unfold qW;rw[if_neg (Ne.symm m),if_pos rfl]);rw[Array.setIfInBounds_comm _ _ (show z+1≠z by omega)];rw[Act.put_comm x (x:=some p) (y:=some q) _ _ (fun d M=>by injection M with M;subst M;intro e;injection e with e;exact ai e)];exact this) (AL a.tmps.size (l.take n) a rfl hD (fun S hS=>by obtain⟨w1,af⟩:=hS;rw[←Jq];exact h S ⟨⟨w1,af⟩⟩))
 rw[F] at K;rw[B];refine K5 (w0:=w) (fun O S w' J hL=>?_) _ _ _ (fun _=>none) _ ⟨iR fK,fun b o m=>(by cases m)⟩ (by rw[←B];rw[←B] at K;exact K);obtain⟨c,f,q1,q2,q3,rfl,q5,q6⟩:=hL;exact hQ c f w' q1 q2 q3 J.1 (J.2 c _ q5).2 (J.2 f _ q6).2
theorem H8 {P:Program} {o} {a:Act} ty x y (h:o.op = .store ty x y) g (cells:Array Value) (d:a.eval x = fG (some ⟨g,0,none⟩)) (e:a.eval y =e_ cells)
 (t) (b:Array Value) (f:(P.info? ty).map (·.size)=some cells.size) (i:b.size=cells.size) (h1:cells.all (·.oneCell')=true) (w) (c:w.heap[g]? = some (d_ b t (0,0))) :
 (execOp a.eval o).run P w = .ok .skip (w.setRow g cells):=by
 unfold execOp;simp only[h,d,e,Instr.storeAt,Instr.sureAddr,Sem.run_bind,Sem.run_pure,Result.andThen_ok,run_storeVar_row w g t ty b cells c f i h1]
end
section
theorem mI {a b c} (h:Up a b) (k:Up b c):Up a c:=gj h k
abbrev QF:Exit→Act→World→Prop:=fun _ _ _=>False
def QN (K:Act→World→Prop):Exit→Act→World→Prop
 | .normal,a,w=>K a w
 | _,_,_=>False
section
variable {P:Program} {ops:Array Oper} {md:Region.Mode} {C:World→Prop}
theorem CH {o:Oper} {a w} {K:Act→World→Prop} {Q:Exit→Act→World→Prop} (b:o.wp P a w K QF):o.wp P a w K Q:=by
 unfold Oper.wp at *
 generalize (execOp a.eval o).run P w=r at *
 cases r with
 |
  ok n w'=>
  cases n <;> simp only[Oper.upon] at b ⊢ <;>
   first
    | exact b
    | exact Calls.mono b (fun e c he=>by cases e <;> first|exact he|exact he.elim|exact(he.elim fun _ h=>h.elim fun _ h=>h.elim))
 | halt x w'=>cases x <;> simp only[Oper.upon] at b ⊢ <;> first|exact b|exact b.elim
theorem Iq {i a w} {K:Act→World→Prop} {Q:Exit→Act→World→Prop} (b:wpOp P ops QF i K a w):wpOp P ops Q i K a w:=by
 unfold wpOp at *
 split
 · simpa[*] using b
 · rename_i o d
   simp only[d] at b;split
   · rename_i c
     simp only[c,if_true] at b;rcases b with b|⟨_,h⟩
     · exact .inl (CH b)
     · exact h.elim fun _ h=>h.elim fun _ h=>h.elim
   · rename_i c;simp only[c] at b;exact b
theorem Hz {j} {l g:Oper} {v} {Y:Act→Prop} (s:ops[j]? = some g) (q:l.apart ops g=true) (o:∀ cs b,g.op ≠ .select cs b)
 (i:∀ (a:Act) (u:Value),Y a→Y (a.put g.dst u)) (t:∀ (a:Act) d,Y a→Y { a with defers:=d :: a.defers }) {K:Act→World→Prop} {a} {w}
 (k:Y a) (h:wpOp P ops QF j K (a.put l.dst v) w):wpOp P ops QF j (fun a' w'=>Y a'∧K (a'.put l.dst v) w') a w:=by
 obtain⟨h1,h2,h3⟩:=Oper.apart_spec q;unfold wpOp at *
 simp only[s] at *
 rw[wanted_put g a l.dst v h1] at h;split
 · rename_i m
   simp only[m,if_true] at h;rcases h with h|⟨_,h⟩
   case inr=>exact h.elim fun _ h=>h.elim fun _ h=>h.elim
   refine .inl ?_
   unfold Oper.wp at *
   rw[execOp_put g o a l.dst v h1] at h;generalize (execOp a.eval g).run P w=r at *
   cases r with
   |
    ok n w'=>
    cases n <;> simp only[Oper.upon] at h ⊢
    case value u=>exact⟨i a u k,by rw[←Act.put_comm a v u h2];exact h⟩
    case skip=>exact⟨i a _ k,by rw[←Act.put_comm a v undef h2];exact h⟩
    case defer d=>
     refine⟨i _ _ (t _ d k),?_⟩;rw[←Act.put_comm _ v undef h2,←Act.put_defers];exact h
    case enter f args=>
     refine Calls.mono h fun e p he=>?_
     cases e with
     | returned u=>exact⟨i a u k,by rw[←Act.put_comm a v u h2];exact he⟩
     | panicked c=>exact he.elim
     | outgrown=>exact he
    case row row args=>exact Rows.mono h fun u p he=>⟨i a u k,by rw[←Act.put_comm a v u h2];exact he⟩
   |
    halt x w'=>
    cases x <;> simp only[Oper.upon] at h ⊢
    case panic u=>exact h.elim
 · rename_i m
   simp only[m] at h;exact⟨i a _ k,by rw[←Act.put_comm a v undef h2];exact h⟩
def YU (P:Program) (ops:Array Oper) (C:World→Prop) (o:Oper) (v:Value) (a:Act):Prop:=∀ w0,C w0→YieldsIn P ops (Up w0) o v a
def kN (P:Program) (md:Region.Mode) (ops:Array Oper) (C:World→Prop) (Q:Exit→Act→World→Prop):Nat→Array Bool→Act→World→Prop
 | 0,listed,a,w=>Region.ready md ops listed=[] ∧ ∀ w1,Up w w1→C w1→Q .normal a w1
 | f+1,listed,a,w=>∀ w1,Up w w1→C w1→(Region.ready md ops listed=[]→Q .normal a w1) ∧
  ∀ i∈Region.ready md ops listed,wpOp P ops QF i (fun a' w'=>C w'∧kN P md ops C Q f (listed.setIfInBounds i true) a' w') a w1
variable {Q:Exit→Act→World→Prop}
theorem zc {f c a w w'} (h:kN P md ops C Q f c a w) (d:Up w w'):kN P md ops C Q f c a w':=by
 cases f with
 | zero=>exact⟨h.1,fun w1 h1 b=>h.2 w1 (mI d h1) b⟩
 | succ f=>exact fun w1 h1 b=>h w1 (mI d h1) b
theorem IT:∀ (f:Nat) (c:Array Bool) (a:Act) (w:World),C w→kN P md ops C Q f c a w→wpAny P md ops Q f c a w
 | 0,_,_,_,hc,h=>⟨h.1,h.2 _ fK hc⟩
 | f+1,_,_,_,hc,h=>⟨(h _ fK hc).1,fun i d=>wpOp_mono (fun a' w' b=>IT f _ a' w' b.1 b.2) (Iq ((h _ fK hc).2 i d))⟩
theorem If {i b v a w} {K:Act→World→Prop} (d:ops[i]? = some b) (c:YieldsIn P ops (Up w) b v a) (h:∀ w',Up w w'→K (a.put b.dst v) w'):wpOp P ops QF i K a w:=
 wpOp_of_qOp (C:=Up w) (K:=fun a'=>a'=a.put b.dst v) fK (fun a' w' f e=>by subst e;exact h w' f) (c.qOp d rfl)
theorem LK (T:∀ w w',C w→Up w w'→C w') {i g v} (I:ops[i]? = some g) (A:∀ (j:Nat) (o:Oper) cs b,ops[j]? = some o→o.op ≠ .select cs b) :
 ∀ (r:Nat) (c:Array Bool) (a:Act) (w:World),
  (∀ j m,ops[j]? = some m→j≠i→c.getD j true=false→(∀ e∈m.after,Region.binds md e=true→e.on≠i)→g.apart ops m=true) →
  i∈Region.ready md ops c→YU P ops C g v a →
  kN P md ops C Q r (c.setIfInBounds i true) (a.put g.dst v) w→kN P md ops C Q (r+1) c a w:=by
 intro r
 have y:∀ (f:Nat) (c:Array Bool) (a:Act) (w w1:World),Up w w1→C w1→YU P ops C g v a→kN P md ops C Q f (c.setIfInBounds i true) (a.put g.dst v) w →
  wpOp P ops QF i (fun a' w'=>C w'∧kN P md ops C Q f (c.setIfInBounds i true) a' w') a w1:=fun f c a w w1 h1 q l H=>
  If I (l w1 q) fun w' D=>⟨T _ _ q D,zc H (mI h1 D)⟩
 induction r with
 |
  zero=>
  intro c a w _ p l H w1 h1 q;refine⟨fun h=>(by rw[h] at p;cases p),fun j s=>?_⟩;by_cases n:j=i
  · subst n;exact y _ _ _ _ _ h1 q l H
  · have:=ready_mono s n
    rw[H.1] at this;cases this
 |
  succ r ih=>
  intro c a w E p l H w1 h1 q;refine⟨fun h=>(by rw[h] at p;cases p),fun j s=>?_⟩;by_cases n:j=i
  · subst n;exact y _ _ _ _ _ h1 q l H
  · have h2:=(H w1 h1 q).2 j (ready_mono s n)
    obtain⟨F,m,x,M⟩:=mem_ready.1 s
    have O:∀ e∈m.after,Region.binds md e=true→e.on≠i:=fun e he L U=>by
     have h1:=M e he L;have h0:=(mem_ready.1 p).1;rw[U] at h1;rcases Nat.lt_or_ge i c.size with t|t
     · simp[t] at h0 h1;rw[h0] at h1;cases h1
     · simp[Array.getElem?_eq_none t] at h1
    have B:=E j m x n F O;obtain⟨_,_,h3⟩:=Oper.apart_spec B;have S:∀ cs b,g.op ≠ .select cs b:=fun cs b=>A i g cs b I
    have h4:=Hz (Y:=YU P ops C g v) x B (fun cs b=>A j m cs b x) (fun a u l w0 h0=>(l w0 h0).of_same (execOp_put g S a m.dst u h3) (wanted_put g a m.dst u h3)) (fun a d l w0 h0=>(l w0 h0).of_same rfl rfl) l h2
    have R:∀ k ok,ops[k]? = some ok→k≠i→(c.setIfInBounds j true).getD k true=false →
     (∀ e∈ok.after,Region.binds md e=true→e.on≠i)→g.apart ops ok=true:=fun k ok K J z N=>by
     refine E k ok K J ?_ N;by_cases G:j=k
     · subst G;exact F
     · rw[getD_set_ne true G] at z;exact z
    refine wpOp_mono (fun a' w' h5=>⟨h5.2.1,ih (c.setIfInBounds j true) a' w' R (ready_mono p (Ne.symm n)) h5.1 ?_⟩) h4;rw[Array.setIfInBounds_comm _ _ n];exact h5.2.2
def AN (P:Program) (ops:Array Oper) (C:World→Prop) (R:Act→Prop):List Oper→Act→Prop
 | [],a=>R a
 | o :: l,a=>∃ v,YU P ops C o v a∧AN P ops C R l (a.put o.dst v)
def ni:List Nat→Array Bool→Array Bool
 | [],listed=>listed
 | k :: rs,listed=>ni rs (listed.setIfInBounds k true)
def nf (md:Region.Mode) (ops:Array Oper):List Nat→Array Bool→Bool
 | [],_=>true
 | k :: rs,listed=>(Region.ready md ops listed).contains k && Region.free md ops listed k && nf md ops rs (listed.setIfInBounds k true)
def tL (ops:Array Oper) (a:List Nat):List Oper:=a.filterMap fun k=>ops[k]?
theorem IS (m:∀ w w',C w→Up w w'→C w') {g} {R:Act→Prop} {w} (r:Region.noSelect ops=true) (b):∀ (c:Array Bool) (a:Act),(∀ k∈b,k<ops.size)→nf md ops b c=true →
 (∀ a',R a'→kN P md ops C Q g (ni b c) a' w)→AN P ops C R (tL ops b) a→kN P md ops C Q (b.length+g) c a w:=by
 induction b with
 | nil=>intro c a _ _ d h;simp only[List.length_nil,Nat.zero_add];exact d a h
 |
  cons k b ih=>
  intro c a hl e d h;have l:k<ops.size:=hl k gb;have h0:ops[k]? = some ops[k]:=by simp[l]
  simp only[nf,Bool.and_eq_true] at e;obtain⟨⟨s,n⟩,p⟩:=e;unfold tL at h;rw[List.filterMap_cons_some h0] at h;obtain⟨v,i,f⟩:=h;rw[show (k :: b).length+g=(b.length+g)+1 by simp only[List.length_cons];omega];refine LK m h0 (Region.noSelect_spec r) (b.length+g) c a w (Region.free_spec h0 n) (by simpa using s) i ?_
  exact ih _ _ (fun j q=>hl j (by simp[q])) p (fun a' o=>by simpa[ni] using d a' o) f
theorem ER {a'} p (u:C p) n (l):∀ (a:Act),a.tmps.size=n→uW n l=true→(∀ w0,C w0→wpQuiet P ops (Up w0) (fun x=>x=a') l a)→AN P ops C (fun x=>x=a') l a:=by
 induction l with
 | nil=>intro a _ _ h;exact h p u
 |
  cons o l ih=>
  intro a m c h;unfold uW at c;cases g:o.dst with
  | none=>rw[g] at c;simp at c
  |
   some d=>
   rw[g] at c;simp only[Bool.and_eq_true,decide_eq_true_eq,List.all_eq_true] at c;obtain⟨⟨h1,h2⟩,h3⟩:=c
   have q:∀ j∈l,∀ e,j.dst=some e→e≠d:=fun j t e he=>by
    have:=h2 j t;rw[he] at this
    simpa using this
   have k:∀ (w0:World) (v:Value),wpQuiet P ops (Up w0) (fun x=>x=a') l (a.put o.dst v)→v=a'.tmps.getD d undef:=fun w0 v r=>by
    rw[Bo d l _ r q,g,GW a d v (by rw[m];exact h1)]
   have step:∀ w0,C w0 → ∃ v,YieldsIn P ops (Up w0) o v a∧wpQuiet P ops (Up w0) (fun x=>x=a') l (a.put o.dst v):=fun w0 s=>by
    have:=h w0 s;unfold wpQuiet at this;split at this
    · rename_i i
      obtain⟨v,f,b⟩:=this;exact⟨v,.inl ⟨i,f⟩,b⟩
    · rename_i i
      exact⟨undef,.inr ⟨by simpa using i,rfl⟩,this⟩
   refine⟨a'.tmps.getD d undef,fun w0 h0=>?_,?_⟩
   · obtain⟨v,f,b⟩:=step w0 h0
     rw[←k w0 v b];exact f
   · refine ih _ (by rw[Ij];exact m) h3 (fun w0 h0=>?_)
     obtain⟨v,f,b⟩:=step w0 h0;rw[←k w0 v b];exact b
theorem zg (w0):(fun w'=>∃ x:Wd w0,w'=x.val)=Up w0:=by
 funext w'
 exact propext ⟨fun ⟨x,a⟩=>a▸x.bel,fun h=>⟨⟨w',h⟩,rfl⟩⟩
theorem js {f i o d a w} (g:Region.ready md ops d=[i]) (m:ops[i]? = some o)
 (h:∀ w1,Up w w1→C w1→wpList P ops (QN fun a' w'=>C w'∧kN P md ops C Q f (d.setIfInBounds i true) a' w') [o] a w1):kN P md ops C Q (f+1) d a w:=by
 intro w1 h1 l;refine⟨fun h=>(by rw[g] at h;cases h),fun j k=>?_⟩;rw[g] at k;obtain rfl:j=i:=by simpa using k
 have b:=h w1 h1 l;unfold wpOp;simp only[m];unfold wpList at b;split at b
 · rename_i c
   rw[if_pos c];rcases b with b|⟨_,b⟩
   · refine .inl ?_
     unfold Oper.wp at *
     generalize (execOp a.eval o).run P w1=r at *
     cases r with
     |
      ok n w'=>
      cases n <;> simp only[Oper.upon] at b ⊢ <;>
       first
        | exact b
        | exact Calls.mono b (fun e p he=>by cases e <;> first|exact he|exact he.elim|exact(he.elim fun _ h=>h.elim fun _ h=>h.elim))
     | halt x w'=>cases x <;> simp only[Oper.upon] at b ⊢ <;> first|exact b|exact b.elim
   · exact b.elim fun _ h=>h.elim fun _ h=>h.elim
 · rename_i c
   rw[if_neg c];exact b
theorem kZ {i o a w1} {K:Act→World→Prop} (d:ops[i]? = some o) (b:wpList P ops (QN K) [o] a w1):wpOp P ops QF i K a w1:=by
 unfold wpOp;simp only[d];unfold wpList at b;split at b
 · rename_i c
   rw[if_pos c];rcases b with b|⟨_,b⟩
   · refine .inl ?_
     unfold Oper.wp at *
     generalize (execOp a.eval o).run P w1=r at *
     cases r with
     |
      ok n w'=>
      cases n <;> simp only[Oper.upon] at b ⊢ <;>
       first
        | exact b
        | exact Calls.mono b (fun e f he=>by cases e <;> first|exact he|exact he.elim|exact(he.elim fun _ h=>h.elim fun _ h=>h.elim))
     | halt x w'=>cases x <;> simp only[Oper.upon] at b ⊢ <;> first|exact b|exact b.elim
   · exact b.elim fun _ h=>h.elim fun _ h=>h.elim
 · rename_i c
   rw[if_neg c];exact b
theorem EC {f i k g ok b a w} (l:Region.ready md ops b=[i,k]) (m:ops[i]? = some g) (o:ops[k]? = some ok)
 (h1:∀ w1,Up w w1→C w1→wpList P ops (QN fun a' w'=>C w'∧kN P md ops C Q f (b.setIfInBounds i true) a' w') [g] a w1)
 (h2:∀ w1,Up w w1→C w1→wpList P ops (QN fun a' w'=>C w'∧kN P md ops C Q f (b.setIfInBounds k true) a' w') [ok] a w1):kN P md ops C Q (f+1) b a w:=by
 intro w1 d c;refine⟨fun h=>(by rw[l] at h;cases h),fun j e=>?_⟩;rw[l] at e;have n:j=i∨j=k:=by simpa using e
 rcases n with rfl|rfl
 · exact kZ m (h1 w1 d c)
 · exact kZ o (h2 w1 d c)
theorem od {f c a w} (b:Region.ready md ops c=[]) (h:∀ w1,Up w w1→C w1→Q .normal a w1):kN P md ops C Q f c a w:=by
 cases f with
 | zero=>exact⟨b,h⟩
 | succ f=>exact fun w1 h1 e=>⟨fun _=>h w1 h1 e,fun i d=>by rw[b] at d;cases d⟩
end
def jd {α:Type}:List Bool→List α→List α
 | true :: m,o :: l=>o :: jd m l
 | false :: m,_ :: l=>jd m l
 | _,_=>[]
def iT:List Bool→Nat→List Nat
 | true :: m,k=>k :: iT m (k+1)
 | false :: m,k=>iT m (k+1)
 | [],_=>[]
theorem EB (m):∀ (a l:List Oper),m.length≤l.length→tL (a ++ l).toArray (iT m a.length)=jd m l:=by
 induction m with
 | nil=>intro a l _;cases l <;> rfl
 |
  cons b m ih=>
  intro a l h;cases l with
  | nil=>simp at h
  |
   cons o l=>
   have c:=ih (a ++ [o]) l (by simp at h;omega);simp only[List.append_assoc,List.cons_append,List.nil_append,List.length_append,List.length_cons,List.length_nil] at c;cases b with
   | false=>simp only[iT,jd];exact c
   |
    true=>
    simp only[iT,jd];unfold tL at c ⊢
    rw[List.filterMap_cons_some (b:=o) gb];rw[c]
theorem GJ {P id} {Q:Exit→Act→World→Prop} {a w l} C (b) (n:P.follows .mixedOrders=true)
 (c:(Region.noSelect l.toArray && ((iT b 0).all (fun k=>decide (k<l.toArray.size)) && (decide (b.length≤l.length) && (decide ((iT b 0).length≤l.toArray.size) && nf .any l.toArray (iT b 0) (Array.replicate l.toArray.size false)))))=true) (o:uW a.tmps.size (jd b l)=true)
 (d:∀ w w',C w→Up w w'→C w') (hC:C w) (a')
 (h:∀ w0,C w0→wpQuiet P l.toArray (fun w'=>∃ x:Wd w0,w'=x.val) (fun x=>x=a') (jd b l) a)
 (ht:kN P .any l.toArray C Q (l.toArray.size - (iT b 0).length) (ni (iT b 0) (Array.replicate l.toArray.size false)) a' w.drew):(Code.region id l.toArray true).wp P Q a w:=by
 simp only[Bool.and_eq_true,decide_eq_true_eq,List.all_eq_true] at c;obtain⟨p,i,m,r,q⟩:=c;have e:tL l.toArray (iT b 0)=jd b l:=EB b [] l m;generalize iT b 0=rs at *
 have j:C w.drew:=d _ _ hC (iR fK);refine wp_region_any n (IT (C:=C) _ _ _ _ j ?_);have:=IS (P:=P) (md:=.any) (Q:=Q) d (g:=l.toArray.size - rs.length) (w:=w.drew) (R:=fun x=>x=a') p rs (Array.replicate l.toArray.size false) a i q (fun x f=>by subst f;exact ht) (ER w hC a.tmps.size (tL l.toArray rs) a rfl (by rw[e];exact o) (fun w0 h0=>by rw[←zg,e];exact h w0 h0))
 rwa [show rs.length+(l.toArray.size - rs.length)=l.toArray.size by omega] at this
theorem fX {P id} {Q:Exit→Act→World→Prop} {a w l} C b (d:∀ w w',C w→Up w w'→C w') (hC:C w) (a')
 (h:∀ w0,C w0→wpQuiet P l.toArray (fun w'=>∃ x:Wd w0,w'=x.val) (fun x=>x=a') (jd b l) a)
 (ht:kN P .any l.toArray C Q (l.toArray.size - (iT b 0).length) (ni (iT b 0) (Array.replicate l.toArray.size false)) a' w.drew)
 (n:P.follows .mixedOrders=true:=by kernel_rfl)
 (c:(Region.noSelect l.toArray && ((iT b 0).all (fun k=>decide (k<l.toArray.size)) && (decide (b.length≤l.length) && (decide ((iT b 0).length≤l.toArray.size) && nf .any l.toArray (iT b 0) (Array.replicate l.toArray.size false)))))=true:=by kernel_rfl) (o:uW a.tmps.size (jd b l)=true:=by kernel_rfl):(Code.region id l.toArray true).wp P Q a w:=GJ C b n c o d hC a' h ht
section
variable {P:Program} {ops:Array Oper} {md:Region.Mode} {C:World→Prop}
def kD (P:Program) (md:Region.Mode) (ops:Array Oper) (C:World→Prop) (n:Nat) (L:Array Bool→Act→World→Prop):Nat→Array Bool→Act→World→Prop
 | 0,listed,a,w=>∀ w1,Up w w1→C w1→L listed a w1
 | f+1,listed,a,w=>∀ w1,Up w w1→C w1→Region.ready md ops listed≠[] ∧
  ∀ i∈Region.ready md ops listed,i<n∧wpOp P ops QF i (fun a' w'=>C w'∧kD P md ops C n L f (listed.setIfInBounds i true) a' w') a w1
theorem v_ {n f} {L:Array Bool→Act→World→Prop} {c a w w'} (h:kD P md ops C n L f c a w) (d:Up w w'):kD P md ops C n L f c a w':=by
 cases f with
 | zero=>exact fun w1 h1 b=>h w1 (mI d h1) b
 | succ f=>exact fun w1 h1 b=>h w1 (mI d h1) b
theorem Nj {n g} {L:Array Bool→Act→World→Prop} {Q:Exit→Act→World→Prop} (hL:∀ b a w,L b a w→wpAny P md ops Q g b a w) (f) :
 ∀ (b:Array Bool) (a:Act) (w:World),C w→kD P md ops C n L f b a w→wpAny P md ops Q (f+g) b a w:=by
 induction f with
 | zero=>intro b a w c h;rw[Nat.zero_add];exact hL _ _ _ (h _ fK c)
 |
  succ f ih=>
  intro b a w c h;rw[show f+1+g=(f+g)+1 by omega];obtain⟨h1,h2⟩:=h _ fK c;exact⟨fun e=>absurd e h1,fun i j=>wpOp_mono (fun a' w' d=>ih _ a' w' d.1 d.2) (Iq (h2 i j).2)⟩
theorem KP (ac:∀ w w',C w→Up w w'→C w') {n i l v} {L:Array Bool→Act→World→Prop} (M:ops[i]? = some l) (E:∀ (j:Nat) (o:Oper) cs b,ops[j]? = some o→o.op ≠ .select cs b)
 (V:Region.sinkB md ops n=true) (y:Region.chainB md ops n=true) (S:n<ops.size) (N:i<n) (aa:∀ c a w,L c a w → ∀ j∈Region.ready md ops c,n≤j) (f) :
 ∀ (c:Array Bool) (a:Act) (w:World),HeadInv md ops n c →
  (∀ j q,ops[j]? = some q→j≠i→c.getD j true=false→(∀ e∈q.after,Region.binds md e=true→e.on≠i)→l.apart ops q=true) →
  i∈Region.ready md ops c→YU P ops C l v a →
  kD P md ops C n L f (c.setIfInBounds i true) (a.put l.dst v) w→kD P md ops C n L (f+1) c a w:=by
 have x:∀ {c:Array Bool},HeadInv md ops n c→i∈Region.ready md ops c → ∀ j∈Region.ready md ops c,j<n:=fun {c} r g j m=>
  Nat.lt_of_not_le fun h=>tail_waits V y S r _ i rfl N (mem_ready.1 g).1 j h m
 have B:∀ (f:Nat) (c:Array Bool) (a:Act) (w w1:World),Up w w1→C w1→YU P ops C l v a→kD P md ops C n L f (c.setIfInBounds i true) (a.put l.dst v) w →
  wpOp P ops QF i (fun a' w'=>C w'∧kD P md ops C n L f (c.setIfInBounds i true) a' w') a w1:=fun f c a w w1 h1 y p H=>
  If M (p w1 y) fun w' G=>⟨ac _ _ y G,v_ H (mI h1 G)⟩
 induction f with
 |
  zero=>
  intro c a w r _ g p H w1 h1 s;refine⟨fun e=>(by rw[e] at g;cases g),fun j m=>⟨x r g j m,?_⟩⟩;by_cases e:j=i
  · subst e;exact B _ _ _ _ _ h1 s p H
  · have z:∃ w2,L (c.setIfInBounds i true) (a.put l.dst v) w2:=⟨w1,H w1 h1 s⟩
    obtain⟨w2,z⟩:=z;have:=aa _ _ _ z j (ready_mono m e);have:=x r g j m;omega
 |
  succ f ih=>
  intro c a w r I g p H w1 h1 s;refine⟨fun e=>(by rw[e] at g;cases g),fun j m=>⟨x r g j m,?_⟩⟩;by_cases t:j=i
  · subst t;exact B _ _ _ _ _ h1 s p H
  · have h2:=((H w1 h1 s).2 j (ready_mono m t)).2
    obtain⟨J,q,A,U⟩:=mem_ready.1 m
    have X:∀ e∈q.after,Region.binds md e=true→e.on≠i:=fun e he T Q=>by
     have h1:=U e he T;rw[Q,getD_both (mem_ready.1 g).1] at h1;cases h1
    have F:=I j q A t J X;obtain⟨_,_,h3⟩:=Oper.apart_spec F;have ab:∀ cs b,l.op ≠ .select cs b:=fun cs b=>E i l cs b M
    have h4:=Hz (Y:=YU P ops C l v) A F (fun cs b=>E j q cs b A) (fun a u p w0 h0=>(p w0 h0).of_same (execOp_put l ab a q.dst u h3) (wanted_put l a q.dst u h3)) (fun a d p w0 h0=>(p w0 h0).of_same rfl rfl) p h2
    have Z:∀ k ok,ops[k]? = some ok→k≠i→(c.setIfInBounds j true).getD k true=false →
     (∀ e∈ok.after,Region.binds md e=true→e.on≠i)→l.apart ops ok=true:=fun k ok R O D W=>by
     refine I k ok R O ?_ W;by_cases K:j=k
     · subst K;exact J
     · rw[getD_set_ne true K] at D;exact D
    refine wpOp_mono (fun a' w' h5=>⟨h5.2.1,ih (c.setIfInBounds j true) a' w' (r.set m (x r g j m)) Z (ready_mono g (Ne.symm t)) h5.1 ?_⟩) h4;rw[Array.setIfInBounds_comm _ _ t];exact h5.2.2
theorem Jm (s:∀ w w',C w→Up w w'→C w') {n g} {L:Array Bool→Act→World→Prop} {R:Act→Prop} {w} (z:Region.noSelect ops=true) (B:Region.sinkB md ops n=true) (r:Region.chainB md ops n=true) (t:n<ops.size)
 (m:∀ b a w,L b a w → ∀ j∈Region.ready md ops b,n≤j) (c):∀ (b:Array Bool) (a:Act),HeadInv md ops n b→(∀ k∈c,k<n)→nf md ops c b=true →
 (∀ a',R a'→kD P md ops C n L g (ni c b) a' w)→AN P ops C R (tL ops c) a→kD P md ops C n L (c.length+g) b a w:=by
 induction c with
 | nil=>intro b a _ _ _ d h;simp only[List.length_nil,Nat.zero_add];exact d a h
 |
  cons k c ih=>
  intro b a i hl e d h;have l:k<n:=hl k gb;have q:k<ops.size:=by omega
  have h0:ops[k]? = some ops[k]:=by simp[q]
  simp only[nf,Bool.and_eq_true] at e;obtain⟨⟨D,u⟩,y⟩:=e;have f:k∈Region.ready md ops b:=by simpa using D
  unfold tL at h;rw[List.filterMap_cons_some h0] at h;obtain⟨v,p,o⟩:=h;rw[show (k :: c).length+g=(c.length+g)+1 by simp only[List.length_cons];omega];refine KP s h0 (Region.noSelect_spec z) B r t l m (c.length+g) b a w i (Region.free_spec h0 u) f p ?_
  exact ih _ _ (i.set f l) (fun j A=>hl j (by simp[A])) y (fun a' x=>by simpa[ni] using d a' x) o
def oG (P:Program) (md:Region.Mode) (ops:Array Oper) (Q:Exit→Act→World→Prop) (n:Nat) (t:List Oper) (b:Array Bool) (a:Act) (w:World):Prop:=
 Region.seqB md ops (ops.size - n) n b=true∧wpList P ops Q t a w
variable {n:Nat} {t:List Oper} {Q:Exit→Act→World→Prop}
theorem lR {b a w} (d:Region.seqB md ops (ops.size - n) n b=true) (h:∀ w1,Up w w1→C w1→wpList P ops Q t a w1):kD P md ops C n (oG P md ops Q n t) 0 b a w:=
 fun w1 h1 c=>⟨d,h w1 h1 c⟩
theorem jQ {f i o b a w} {L:Array Bool→Act→World→Prop} (d:Region.ready md ops b=[i]) (e:i<n) (k:ops[i]? = some o)
 (h:∀ w1,Up w w1→C w1→wpList P ops (QN fun a' w'=>C w'∧kD P md ops C n L f (b.setIfInBounds i true) a' w') [o] a w1):kD P md ops C n L (f+1) b a w:=by
 intro w1 h1 g;refine⟨fun h=>(by rw[d] at h;cases h),fun j c=>?_⟩;rw[d] at c;obtain rfl:j=i:=by simpa using c
 exact⟨e,kZ k (h w1 h1 g)⟩
theorem C8 {f i k l ok b a w} {L:Array Bool→Act→World→Prop} (d:Region.ready md ops b=[i,k]) (o:i<n) (m:k<n) (p:ops[i]? = some l) (r:ops[k]? = some ok)
 (h1:∀ w1,Up w w1→C w1→wpList P ops (QN fun a' w'=>C w'∧kD P md ops C n L f (b.setIfInBounds i true) a' w') [l] a w1)
 (h2:∀ w1,Up w w1→C w1→wpList P ops (QN fun a' w'=>C w'∧kD P md ops C n L f (b.setIfInBounds k true) a' w') [ok] a w1):kD P md ops C n L (f+1) b a w:=by
 intro w1 e c;refine⟨fun h=>(by rw[d] at h;cases h),fun j g=>?_⟩;rw[d] at g;have q:j=i∨j=k:=by simpa using g
 rcases q with rfl|rfl
 · exact⟨o,kZ p (h1 w1 e c)⟩
 · exact⟨m,kZ r (h2 w1 e c)⟩
end
theorem Jt {P id} {Q:Exit→Act→World→Prop} {a w l} C n (b) (B:P.follows .mixedOrders=true)
 (e:(Region.noSelect l.toArray && ((iT b 0).all (fun k=>decide (k<n)) && (decide (b.length≤l.length) && (decide ((iT b 0).length≤n) && (decide (n<l.toArray.size) && (Region.sinkB .any l.toArray n && (Region.chainB .any l.toArray n &&
  nf .any l.toArray (iT b 0) (Array.replicate l.toArray.size false))))))))=true) (p:uW a.tmps.size (jd b l)=true)
 (f:∀ w w',C w→Up w w'→C w') (hC:C w) (a')
 (h:∀ w0,C w0→wpQuiet P l.toArray (fun w'=>∃ x:Wd w0,w'=x.val) (fun x=>x=a') (jd b l) a)
 (ht:kD P .any l.toArray C n (oG P .any l.toArray Q n (l.drop n)) (n - (iT b 0).length) (ni (iT b 0) (Array.replicate l.toArray.size false)) a' w.drew):(Code.region id l.toArray true).wp P Q a w:=by
 simp only[Bool.and_eq_true,decide_eq_true_eq,List.all_eq_true] at e;obtain⟨s,m,A,E,r,z,u,v⟩:=e;have i:tL l.toArray (iT b 0)=jd b l:=EB b [] l A;generalize iT b 0=rs at *
 have o:C w.drew:=f _ _ hC (iR fK);have d:(l.drop n).length=l.toArray.size - n:=by simp
 have q:HeadInv .any l.toArray n (Array.replicate l.toArray.size false):=
  ⟨by simp,fun j D _ hl=>(by rw[getD_replicate_false] at hl;cases hl),fun t _ ht=>getD_in (by simpa using ht) (getD_replicate_false _ _)⟩
 have K:=Jm (P:=P) (md:=.any) f (g:=n - rs.length) (w:=w.drew) (L:=oG P .any l.toArray Q n (l.drop n)) (R:=fun x=>x=a') s z u r (fun c a w hL=>seqB_ready hL.1) rs (Array.replicate l.toArray.size false) a q m v (fun x y=>by subst y;exact ht)
  (ER w hC a.tmps.size (tL l.toArray rs) a rfl (by rw[i];exact p) (fun w0 h0=>by rw[←zg,i];exact h w0 h0))
 rw[show rs.length+(n - rs.length)=n by omega] at K;refine wp_region_any B ?_
 have T:=Nj (Q:=Q) (g:=l.toArray.size - n) (fun c a w hL=>by
  have:=wpAny_of_seq (md:=.any) (Q':=Q) (l.drop n) n c a w (fun j=>by simp[List.getElem?_drop]) (by rw[d];exact hL.1) hL.2
  rwa [d] at this) _ _ _ _ o K
 rwa [show n+(l.toArray.size - n)=l.toArray.size by omega] at T
theorem fY {P id} {Q:Exit→Act→World→Prop} {a w l} C n b (f:∀ w w',C w→Up w w'→C w') (hC:C w) (a')
 (h:∀ w0,C w0→wpQuiet P l.toArray (fun w'=>∃ x:Wd w0,w'=x.val) (fun x=>x=a') (jd b l) a)
 (ht:kD P .any l.toArray C n (oG P .any l.toArray Q n (l.drop n)) (n - (iT b 0).length) (ni (iT b 0) (Array.replicate l.toArray.size false)) a' w.drew)
 (B:P.follows .mixedOrders=true:=by kernel_rfl)
 (e:(Region.noSelect l.toArray && ((iT b 0).all (fun k=>decide (k<n)) && (decide (b.length≤l.length) && (decide ((iT b 0).length≤n) && (decide (n<l.toArray.size) && (Region.sinkB .any l.toArray n && (Region.chainB .any l.toArray n &&
  nf .any l.toArray (iT b 0) (Array.replicate l.toArray.size false))))))))=true:=by kernel_rfl) (p:uW a.tmps.size (jd b l)=true:=by kernel_rfl):(Code.region id l.toArray true).wp P Q a w:=Jt C n b B e p f hC a' h ht
end
theorem GN {P} {Q:Exit→Act→World→Prop} {C:World→Prop} {l c a w f} b (g) (q:f=(iT b 0).length+g)
 (d:(Region.noSelect l.toArray && ((iT b 0).all (fun k=>decide (k<l.toArray.size)) && (decide (b.length≤l.length) && nf .any l.toArray (iT b 0) c)))=true) (n:uW a.tmps.size (jd b l)=true)
 (o:∀ w w',C w→Up w w'→C w') (hC:C w) (a')
 (h:∀ w0,C w0→wpQuiet P l.toArray (fun w'=>∃ x:Wd w0,w'=x.val) (fun x=>x=a') (jd b l) a)
 (ht:kN P .any l.toArray C Q g (ni (iT b 0) c) a' w):kN P .any l.toArray C Q f c a w:=by
 subst q;simp only[Bool.and_eq_true,decide_eq_true_eq,List.all_eq_true] at d;obtain⟨p,j,m,r⟩:=d;have e:tL l.toArray (iT b 0)=jd b l:=EB b [] l m;generalize iT b 0=rs at *
 exact IS (P:=P) (md:=.any) (Q:=Q) o (g:=g) (w:=w) (R:=fun x=>x=a') p rs c a j r (fun x i=>by subst i;exact ht) (ER w hC a.tmps.size (tL l.toArray rs) a rfl (by rw[e];exact n) (fun w0 h0=>by rw[←zg,e];exact h w0 h0))
section
section
variable {P:Program} {ops:Array Oper} {md:Region.Mode} {C:World→Prop} {Q:Exit→Act→World→Prop}
theorem vq {I:Nat→Array Bool→Act→World→Prop} (k:∀ f b a w w1,I f b a w→C w1→Up w w1→I f b a w1)
 (j:∀ b a w,I 0 b a w→C w→Region.ready md ops b=[]∧Q .normal a w)
 (l:∀ f b a w,I (f+1) b a w→Region.ready md ops b≠[])
 (m:∀ f b a w,I (f+1) b a w→C w → ∀ i∈Region.ready md ops b,wpOp P ops QF i (fun a' w'=>C w'∧I f (b.setIfInBounds i true) a' w') a w) :
 ∀ (f:Nat) (b:Array Bool) (a:Act) (w:World),C w→I f b a w→kN P md ops C Q f b a w:=by
 intro f
 induction f with
 | zero=>exact fun b a w c h=>⟨(j _ _ _ h c).1,fun w1 g c=>(j _ _ _ (k _ _ _ _ _ h c g) c).2⟩
 |
  succ f ih=>
  intro b a w _ h w1 g c;have h1:=k _ _ _ _ _ h c g;exact⟨fun e=>absurd e (l _ _ _ _ h1),fun i n=>wpOp_mono (fun a' w' d=>⟨d.1,ih _ _ _ d.1 d.2⟩) (m _ _ _ _ h1 c i n)⟩
def A8 (a:List Bool):Nat:=(a.filter (!·)).length
theorem wF (a):∀ (i:Nat) (f:Nat),a[i]? = some false→A8 a=f+1→A8 (a.set i true)=f:=by
 unfold A8
 induction a with
 | nil=>intro i f h;simp at h
 |
  cons b a ih=>
  intro i f h c;cases i with
  | zero=>simp at h;subst h;simpa using c
  |
   succ i=>
   simp only[List.getElem?_cons_succ] at h;cases b
   · simp only[List.set_cons_succ,Bool.not_false,List.filter_cons_of_pos,List.length_cons] at c ⊢
     cases f with
     |
      zero=>
      exfalso
      have:false∈a.filter (!·):=List.mem_filter.2 ⟨List.mem_of_getElem? h,rfl⟩;have:=List.length_pos_of_mem this;omega
     | succ f=>rw[ih i f h f_]
   · simp only[List.set_cons_succ,Bool.not_true,Bool.false_eq_true,not_false_eq_true,List.filter_cons_of_neg] at c ⊢
     exact ih i f h c
theorem MF a (h:A8 a=0):a.all id=true:=by
 rw[List.all_eq_true];intro b c;cases b
 · exfalso
   have:false∈a.filter (!·):=List.mem_filter.2 ⟨c,rfl⟩;have:=List.length_pos_of_mem this;unfold A8 at h;omega
 · rfl
theorem MG a f (h:A8 a=f+1):a.all id=false:=by
 cases c:a.all id
 · rfl
 · exfalso
   rw[List.all_eq_true] at c
   have:a.filter (!·)=[]:=by
    rw[List.filter_eq_nil_iff];intro b d;have:=c b d;simp only[id_eq] at this;rw[this];decide
   unfold A8 at h;rw[this] at h;cases h
theorem Ek {a0 n w0} (g:List (List Bool)) (p:List Bool→Nat→Bool) (k) (r) (I:Act→List Bool→Act→World→Prop)
 (m:(g.all fun b=>((Region.ready md ops b.toArray).isEmpty == b.all id) && (Region.ready md ops b.toArray).all fun i=>p b i && (b[i]? == some false) && g.contains (b.set i true))=true)
 (h0:(g.contains k && (A8 k == n))=true) (hl:r=k.toArray) (hC:C w0) (x:I a0 k a0 w0)
 (t:∀ b a w w1,I a0 b a w→Up w w1→I a0 b a w1)
 (s:∀ b a w,b.all id=true→b∈g→I a0 b a w→C w→Q .normal a w)
 (u:∀ b a w i,b∈g→I a0 b a w→C w→p b i=true→b[i]? = some false→wpOp P ops QF i (fun a' w'=>C w'∧I a0 (b.set i true) a' w') a w) :
 kN P md ops C Q n r a0 w0:=by
 simp only[Bool.and_eq_true,List.contains_iff_mem,beq_iff_eq] at h0;subst hl;refine vq (I:=fun f j a w=>∃ b,j=b.toArray∧b∈g∧A8 b=f∧I a0 b a w) ?_ ?_ ?_ ?_ n _ a0 w0 hC ⟨k,rfl,h0.1,h0.2,x⟩
 · rintro f j a w w1 ⟨b,e,c,d,h⟩ _ v
   exact⟨b,e,c,d,t b a w w1 h v⟩
 · rintro j a w ⟨b,rfl,c,d,h⟩ o
   have l:=MF b d;have:=List.all_eq_true.1 m b c;simp only[Bool.and_eq_true,beq_iff_eq,l,List.isEmpty_iff] at this;exact⟨this.1,s b a w l c h o⟩
 · rintro f j a w ⟨b,rfl,c,d,h⟩
   have l:=MG b f d;have:=List.all_eq_true.1 m b c;simp only[Bool.and_eq_true,beq_iff_eq,l,List.isEmpty_eq_false_iff] at this;exact this.1
 · rintro f j a w ⟨b,rfl,c,d,h⟩ o i y
   have:=List.all_eq_true.1 m b c;simp only[Bool.and_eq_true] at this;have h2:=List.all_eq_true.1 this.2 i y;simp only[Bool.and_eq_true,beq_iff_eq,List.contains_iff_mem] at h2;refine wpOp_mono (fun a' w' q=>⟨q.1,b.set i true,by simp,h2.2,wF b i f h2.1.2 d,q.2⟩) (u b a w i c h o h2.1.1 h2.1.2)
end
end
section
def jM {α:Type} (k:Nat) (cells:α→List Value) (w:World) (v:Value) (l:List α):Prop:=
 ∃ a c,v =a_ a l.length c∧l.length≤c∧c≤maxLen ∧
  (l=[] ∨ ∃ b o,a=some ⟨b,o,none⟩∧b<w.heap.size ∧ ∀ i r,l[i]? = some r → ∀ j u,(cells r)[j]? = some u→w.cell? ⟨b,o+i*k+j,none⟩=some u)
theorem jM.below {α:Type} {k cells w w' v} {l:List α} (h:jM k cells w v l) (d:Up w w'):jM k cells w' v l:=by
 obtain⟨a,c,f,h1,h2,h3⟩:=h;refine⟨a,c,f,h1,h2,?_⟩;rcases h3 with h3|⟨b,o,g,e,m⟩
 · exact .inl h3
 · exact .inr ⟨b,o,g,fN e d.size,fun i r q j u n=>by rw[d.cell (p:=⟨b,_,none⟩) e];exact m i r q j u n⟩
theorem th {cs} (h:∀ i,i<cs.length → ∃ a,cs[i]? = some (b_ c_ a)∧(Lit.int .i64 a).wf=true) :
 ∃ l:List Int,cs=l.map (b_ c_) ∧ ∀ a∈l,(Lit.int .i64 a).wf=true:=by
 induction cs with
 | nil=>exact⟨[],rfl,by simp⟩
 |
  cons c cs ih=>
  obtain⟨l,hl,d⟩:=ih (fun i f=>by simpa using h (i+1) (by simpa using f));obtain⟨a,b,e⟩:=h 0 gb;simp at b;subst b hl;exact⟨a :: l,rfl,by simpa using⟨e,d⟩⟩
theorem p9 {α:Type} {l:List α} {x i} (h:(l.drop i).take 1=[x]):l[i]? = some x:=by
 have:=congrArg (fun l=>l[0]?) h
 simpa using this
section
variable {H:Type} {enc:TypeId×Value→H} {P:Program} {w:World} {base:Nat} {spare:Nat→Bool} {held:Bool}
theorem Iy {t e:TypeId} {n} (ht:P.underlying t=some (.array n e)) (he:P.underlying e=some (.int .i64)) (f:P.cellsOf e=1) (k:P.cellsOf t=n) {d} {cs} {x}
 (h:DataW.trod enc P w base spare held d t cs=some x):∃ l:List Int,l.length=n∧cs=l.map (b_ c_) ∧ ∀ a∈l,(Lit.int .i64 a).wf=true:=by
 obtain⟨xs,m,rfl,rfl,hl,o,j⟩:=DataW.trod_array ht h;rw[k] at hl
 obtain⟨l,h1,h2⟩:=th (cs:=cs) (fun i p=>by
  have c:i<n:=by omega
  have b:=j i c;rw[f,Nat.mul_one,fQ f_] at b;obtain⟨a,h,_,g⟩:=DataW.trod_int he b;exact⟨a,p9 h,g⟩)
 refine⟨l,?_,h1,h2⟩;rw[←hl,h1,List.length_map]
abbrev c1 (n:Int):List Value:=[b_ c_ n]
abbrev c3 (r:Int×Int×Int):List Value:=[b_ c_ r.1,b_ c_ r.2.1,b_ c_ r.2.2]
abbrev c4 (r:Int×Int×Int×Int):List Value:=[b_ c_ r.1,b_ c_ r.2.1,b_ c_ r.2.2.1,b_ c_ r.2.2.2]
abbrev CZ (r:Int×Int×Int):Prop:=iy r.1∧iy r.2.1∧iy r.2.2
abbrev C6 (r:Int×Int×Int×Int):Prop:=iy r.1∧iy r.2.1∧iy r.2.2.1∧iy r.2.2.2
theorem nT {t e:TypeId} (ht:P.underlying t=some (.array 3 e)) (he:P.underlying e=some (.int .i64)) (f:P.cellsOf e=1) (i:P.cellsOf t=3) {g} {cs} {x}
 (h:DataW.trod enc P w base spare held g t cs=some x):∃ r:Int×Int×Int,cs=c3 r∧CZ r:=by
 obtain⟨l,hl,h1,d⟩:=Iy ht he f i h
 match l,hl,h1,d with
 | [a,b,c],_,h1,d=>exact⟨(a,b,c),h1,iN (d a gb),iN (d b gb),iN (d c gb)⟩
theorem ui {t e:TypeId} (ht:P.underlying t=some (.array 4 e)) (he:P.underlying e=some (.int .i64)) (g:P.cellsOf e=1) (j:P.cellsOf t=4) {i} {cs} {x}
 (h:DataW.trod enc P w base spare held i t cs=some x):∃ r:Int×Int×Int×Int,cs=c4 r∧C6 r:=by
 obtain⟨l,hl,h1,f⟩:=Iy ht he g j h
 match l,hl,h1,f with
 | [a,b,c,d],_,h1,f=>exact⟨(a,b,c,d),h1,iN (f a gb),iN (f b gb),iN (f c gb),iN (f d gb)⟩
theorem M_ {w:World} {a v} (h:w.cell? a=some v):a.spot=none∧a.block<w.heap.size:=by
 unfold World.cell? at h;split at h
 · rename_i c _ _ b
   refine⟨?_,?_⟩
   · cases e:a.spot with
     | none=>rfl
     | some x=>simp[e] at h
   · by_cases d:a.block<w.heap.size
     · exact d
     · rw[Array.getElem?_eq_none f_] at b;cases b
 · cases h
theorem Lp {α:Type} [Inhabited α] cells k (ok:α→Prop) {t e:TypeId} (ht:P.underlying t=some (.slice e)) (I:P.cellsOf e=k) (F:0<k)
 (C:∀ f cs x,DataW.trod enc P w base spare held f e cs=some x → ∃ r:α,cs=cells r∧ok r) {f} {cs} {x}
 (h:DataW.trod enc P w base spare held f t cs=some x):∃ (v:Value) (l:List α),cs=[v]∧jM k cells w v l ∧ ∀ r∈l,ok r:=by
 rcases Deep.open_slice ht h with⟨h0,_⟩|⟨a,len,E,m,n,D,W,rfl,V,hl,N,M,rfl,L⟩
 · exact⟨_,[],h0,⟨none,0,rfl,by simp,by simp,.inl rfl⟩,by simp⟩
 · have U:len≤m:=by rw[M];split <;> omega
   obtain⟨R,g⟩:=Deep.choose_lt (α:=α) (n:=len) (p:=fun i r=>w.cells? base (a.add (i*k)) k=some (cells r)∧ok r) (fun i c=>by
    obtain⟨cs',h1,h2⟩:=L i f_;obtain⟨r,d,K⟩:=C _ _ _ h2;rw[I,d] at h1;exact⟨r,h1,K⟩)
   refine⟨_,(List.range len).map R,rfl,⟨some a,E,by simp,by simpa using hl,N,?_⟩,?_⟩
   · by_cases h0:len=0
     · left;simp[h0]
     · right
       obtain⟨h1,_⟩:=g 0 f_;obtain⟨_,O,q⟩:=World.cells?_some h1;have A:=q 0 F;rw[fQ f_] at A;obtain⟨J,S⟩:=M_ A;obtain⟨b,o,s⟩:=a
       have Q:s=none:=by
        cases s with
        | none=>rfl
        |
         some y=>
         exfalso
         by_cases c:0*k=0 <;> simp[Addr.add] at J
       subst Q;refine⟨b,o,rfl,by simpa[Addr.add] using S,?_⟩;intro i r c j u B
       have z:i<len:=by
        have:=(fR c).1
        simpa using this
       have T:r=R i:=by simpa[z] using c.symm
       subst T;obtain⟨h1,_⟩:=g i z;obtain⟨_,O,q⟩:=World.cells?_some h1
       have G:j<k:=by
        have:=(fR B).1;omega
       have:=q j G;rw[B,kx,kx] at this;exact this
   · intro r d
     obtain⟨i,c,rfl⟩:=List.mem_map.1 d;exact(g i (by simpa using c)).2
theorem jN {α:Type} [Inhabited α] cells k (ok:α→Prop) {t e:TypeId} (ht:P.underlying t=some (.slice e)) (i:P.cellsOf e=k) (o:0<k)
 (f:∀ b cs x,DataW.trod enc P w base spare held b e cs=some x → ∃ r:α,cs=cells r∧ok r) {r} {j} {w0} {v} {d} {n}
 (g:Value.okWide P w0 r j t v) (h:DataW.Trod enc P w base spare held t v d n):∃ l:List α,jM k cells w v l ∧ ∀ r∈l,ok r:=by
 obtain⟨a,len,p,rfl⟩:=okWide_slice ht g;obtain⟨b,m⟩:=h;obtain⟨q,l,c,h1,h2⟩:=Lp cells k ok ht i o f m;simp[Value.cells] at c;subst c;exact⟨l,h1,h2⟩
theorem pg {n} {e t:TypeId} (ht:P.underlying t=some (.array n e)) {r} {a} {w0} {v} (h:Value.okWide P w0 r a t v):∃ cs,v =e_ cs:=by
 unfold Value.okWide at h;rw[ht] at h;obtain⟨cs,h,_⟩:=h;exact⟨cs,h⟩
end
end
section
section
variable {P:Program}
theorem Ke {w k m d a} {e g:TypeId} (f:P.underlying e=some (.slice g)) (h:gl w k m d a):Src P k e d m a w:=by
 obtain⟨h1,h2,h3⟩:=h;rcases h3 with⟨rfl,rfl⟩|⟨b,o,c,rfl,q,p,n,i⟩
 · have:a=[]:=fT (by simpa using h1)
   subst this;exact Src.ofNil w f 0
 · exact Src.ofSlice w f ⟨b,o,none⟩ m c a h1 (fun j u l=>by rw[kx];exact i j u l) h2
theorem KA {w k n m dst f xs g} {t d ty e y:TypeId} {i:TypeInfo} {z} (ht:P.underlying t=some (.slice e)) (N:P.underlying d=some (.slice y))
 (x:P.info? e=some i) (H:i.zero=some z) (r:i.size=k) (F:gl w k n dst xs) (B:∃ b o,dst =a_ (some ⟨b,o,none⟩) n n) (l:gl w k m f g)
 (C:n+m≤1000000) (M:i.bytes≤1000) :
 ∃ v w',(Builtin.append_ #[t,d] ty #[dst,f]).run P w = .ok v w'∧gl w' k (n+m) v (xs ++ g)∧Up w w':=by
 obtain⟨b,o,rfl⟩:=B;have s:Src P i.size d f m g w:=by rw[r];exact Ke N l
 obtain⟨h1,h2,h3⟩:=F;rcases h3 with⟨h,_⟩|⟨R,Q,O,E,L,J,I,q⟩
 · cases h
 injection E with e1 _ e2
 injection e1 with e1
 injection e1 with e3 e4
 subst e2 e3 e4;by_cases G:m=0
 · subst G
   have:g=[]:=fT (by simpa using l.1);subst this;have p:=run_append_room_src w t d ty e i ht x b o n n f 0 [] s f_ (fun j a=>by simp at a) (fun j a=>by simp at a);refine⟨_,_,p,?_,?_⟩
   · simp only[Nat.add_zero,List.append_nil]
     exact⟨h1,h2,.inr ⟨b,o,n,rfl,L,J,I,q⟩⟩
   · exact Below.refl _ _
 · have p:=run_append_grow_src w t d ty e i z ht x H (some ⟨b,o,none⟩) n n xs (run_firstCells_some w.drew i.size n ⟨b,o,none⟩ n n xs (by rw[r];exact h1) (fun j u a=>by rw[kx];exact q j u a)) f m g s f_ f_
    (growslice_fits f_ (fO (Nat.mul_le_mul C M) fZ))
   refine⟨_,_,p,?_,fK.drew.alloc fL _⟩;have D:=grownCap_ge w (n+m) n e;have K:=grownCap_le_maxLen w (n+m) n e (by unfold maxLen;omega);refine⟨by rw[List.length_append,h1,l.1,Nat.add_mul],fun u c=>?_,.inr ⟨w.heap.size,0,_,rfl,by simp,D,K,fun j u a=>?_⟩⟩
   · rcases List.mem_append.1 c with c|c
     · exact h2 u c
     · exact l.2.1 u c
   · rw[show 0+j=j from Nat.zero_add j]
     refine gv (gH w.drew _) ?_
     have A:=(fR a).1;rw[Array.getElem?_append_left (by simpa using A)]
     simpa using a
theorem Ft {w c rest o a} {Q:Exit→Act→World→Prop} (k:o.guard=none) (s x) (t f)
 (m:o.op = .call { callee:=.builtin .append,args:=#[s,x],argTypes:=#[t,f] }) (e b d) (w') (l:a.eval s=e) (g:a.eval x=b)
 (i:(Builtin.append_ #[t,f] o.type #[e,b]).run P w = .ok d w') (h:wpList P c Q rest (a.put o.dst d) w'):wpList P c Q (o :: rest) a w:=
 wpList_plain k fun K j=>by
  unfold Oper.wp;simp[execOp,m,resolve,invoke,builtin,l,g,i,Result.andThen];exact j _ _ h
end
end
