/- What the walks of this statement lean on: shown. -/
import Derived.Test.YtdobddiibgfeaaaGreatZb
import Derived.RangeFuncNested
import Derived.RangeFuncBound
import Derived.Shelf.RegionOpen
import Derived.OwnWalkIn
import Derived.LoopNIn
import Derived.LoopIn
set_option linter.all false
set_option maxRecDepth 100000
set_option maxHeartbeats 16000000
namespace Go.Proofs.YtdobddiibgfeaaaGreat
open Value renaming slice→a_,int→b_,agg→e_,pointer→fG,tuple→fI,bool→fJ
open IntKind renaming i64→c_
open Obj renaming cells→d_
open Ending renaming returned→fH
open Go.Proofs.Tryz renaming prog→gd
section
open Go.RowKit
structure kS where
 words:List Int
 pend:List (List (Int×Int))
 res:List Int
deriving DecidableEq
def lY:kS:=⟨[],[],[]⟩
def mX (h n:Nat):kS:=⟨List.replicate n 0,List.replicate h [],List.replicate h (-1)⟩
def m6 (m:kS) (h:Int):Bool:=decide (0≤h) && (decide (h<m.pend.length) && decide (h<m.res.length))
def jm (m:kS) (h a:Int):Bool:=m6 m h && (decide (0≤a) && decide (a<m.words.length))
def iA (m:kS) (h:Int):List (Int×Int):=m.pend.getD h.toNat []
def kQ (m:kS) (a:Int):Int:=m.words.getD a.toNat 0
def pO (m:kS) (h:Int):Int:=m.res.getD h.toNat 0
def nG:List (Int×Int)→Int→Int→Int
 | [],_,d=>d
 | x :: l,a,d=>nG l a (if x.1=a then x.2 else d)
def nQ (m:kS) (h a:Int):Int:=nG (iA m h) a (kQ m a)
def CT (m:kS) (h a:Int):Int×Int:=if jm m h a then (nQ m h a,0) else (0,1)
def AZ (m:kS) (h:Int) (l:List (Int×Int)):kS:=⟨m.words,m.pend.set h.toNat l,m.res⟩
def tH (m:kS) (h:Int) (a:Int):kS:=⟨m.words,m.pend,m.res.set h.toNat a⟩
def A2 (m:kS) (h a n:Int):kS×Int:=
 if jm m h a then (if 8≤(iA m h).length then (lY,90) else (AZ m h (iA m h ++ [(a,wrap32 n)]),0)) else (lY,1)
def rD (h a:Int):Nat→List Int→List Int
 | _,[]=>[]
 | i,r :: l=>(if (i:Int)≠h∧r=a then -1 else r) :: rD h a (i+1) l
def km (m:kS) (h a n:Int):kS:=⟨m.words.set a.toNat n,m.pend,rD h a 0 m.res⟩
def vk (m:kS) (h:Int) (k:Nat):kS:=
 AZ (km m h ((iA m h).getD k (0,0)).1 ((iA m h).getD k (0,0)).2) h ((iA m h).eraseIdx k)
def Er (l:List (Int×Int)) (k:Nat):Bool:=(l.take k).any fun x=>decide (x.1=(l.getD k (0,0)).1)
def mV (m:kS) (h k:Int):kS×Int:=
 if m6 m h && (decide (0≤k) && decide (k<(iA m h).length)) then
  (if jm m h ((iA m h).getD k.toNat (0,0)).1 then (if Er (iA m h) k.toNat then (lY,91) else (vk m h k.toNat,0)) else (lY,1))
 else (lY,1)
def lu (m:kS) (h a:Int):Int:=if jm m h a then (if (iA m h).length=0 then 0 else 92) else 1
def ow (m:kS) (h a:Int):Int×kS×Int:=if lu m h a=0 then (kQ m a,tH m h a,0) else (0,lY,lu m h a)
def mM (m:kS) (h a n:Int):Bool×kS×Int:=
 if lu m h a=0 then
  (if pO m h=a then (true,tH (km m h a (wrap32 n)) h (-1),0) else (false,tH m h (-1),0))
 else (false,lY,lu m h a)
def sJ (op w n:Int):Int:=if op=0 then wrap32 n else gY op w n
def rq (m:kS) (h a op:Int):Int:=if op≠0∧yG op=0 then 1 else lu m h a
def ml (m:kS) (h a op n:Int):Int×kS×Int:=
 if rq m h a op=0 then (kQ m a,km m h a (sJ op (kQ m a) n),0) else (0,lY,rq m h a op)
structure jC (m:kS):Prop where
 words:m.words.length≤100000
 pend:m.pend.length≤1000
 res:m.res.length≤1000
 each:∀ l∈m.pend,l.length≤1000
theorem yN h a (l):∀ i,(rD h a i l).length=l.length:=by
 induction l with
 | nil=>intro i;rfl
 | cons r l ih=>intro i;simp[rD,ih]
theorem No h a (l):∀ i k,(rD h a i l)[k]? = l[k]?.map fun r=>if ((i+k:Nat):Int)≠h∧r=a then -1 else r:=by
 induction l with
 | nil=>intro i k;rfl
 |
  cons r l ih=>
  intro i k;cases k with
  | zero=>rfl
  |
   succ k=>
   simp only[rD,List.getElem?_cons_succ];rw[ih];rw[show i+1+k=i+(k+1) by omega]
def kJ (h a:Int) (k:Nat) (l:List Int):List Int:=rD h a 0 (l.take k) ++ l.drop k
theorem qF h a k (l):(kJ h a k l).length=l.length:=by
 unfold kJ;rw[List.length_append,yN,←List.length_append,List.take_append_drop]
theorem qE h a (l):kJ h a l.length l=rD h a 0 l:=by simp[kJ]
theorem Np h a (l l'):∀ i,rD h a i (l ++ l')=rD h a i l ++ rD h a (i+l.length) l':=by
 induction l with
 | nil=>intro i;simp[rD]
 | cons r l ih=>intro i;simp only[List.cons_append,rD,List.length_cons];rw[ih,show i+1+l.length=i+(l.length+1) by omega]
theorem tp h a k l (b:k<l.length):(kJ h a k l)[k]? = some l[k]:=by
 unfold kJ;have:(rD h a 0 (l.take k)).length=k:=by rw[yN];simp;omega
 rw[List.getElem?_append_right f_,this];simp[b]
theorem Ja h a k l (b:k<l.length):kJ h a (k+1) l=(kJ h a k l).set k (if (k:Int)≠h∧l[k]=a then -1 else l[k]):=by
 unfold kJ;have e:(rD h a 0 (l.take k)).length=k:=by rw[yN];simp;omega
 rw[fP b,Np,List.drop_eq_getElem_cons b];have c:0+(l.take k).length=k:=by simp;omega
 rw[c,List.append_assoc];rw[List.set_append_right _ _ f_,e,Nat.sub_self]
 rfl
theorem qN {α:Type} (l:List α) k x (h:l[k]? = some x):l.set k x=l:=by
 obtain⟨a,rfl⟩:=fR h;exact List.set_getElem_self a
theorem I_ l l' (a):∀ d,nG (l ++ l') a d=nG l' a (nG l a d):=by
 induction l with
 | nil=>intro d;rfl
 | cons x l ih=>intro d;exact ih _
theorem Hg l a (h:∀ x∈l,x.1≠a):∀ d,nG l a d=d:=by
 induction l with
 | nil=>intro d;rfl
 |
  cons x l ih=>
  intro d;simp only[nG];rw[if_neg (h x gb),ih (fun y b=>h y (by simp[b]))]
theorem KZ l a d k x (c:l[k]? = some x) (h1:x.1=a) (h:∀ y∈l.drop (k+1),y.1≠a):nG l a d=x.2:=by
 obtain⟨b,rfl⟩:=fR c
 have e:l.take k ++ (l[k] :: l.drop (k+1))=l:=by
  rw[←List.drop_eq_getElem_cons b,List.take_append_drop]
 have:nG (l.take k ++ (l[k] :: l.drop (k+1))) a d=l[k].2:=by
  rw[I_];simp only[nG];rw[if_pos h1,Hg _ _ h]
 rwa [e] at this
section
def gz (l:List Int):List Value:=l.map (b_ c_)
def gW:List (Int×Int)→List Value
 | []=>[]
 | x :: l=>b_ c_ x.1 :: b_ c_ x.2 :: gW l
theorem IE (l):(gz l).length=l.length:=by simp[gz]
theorem Di (l):∀ u∈gz l,u.oneCell'=true:=by simp[gz,Value.oneCell']
theorem En l k (a:k<l.length):(gz l)[k]? = some (b_ c_ l[k]):=by simp[gz,a]
theorem AV (l):(gW l).length=l.length*2:=by
 induction l with
 | nil=>rfl
 | cons x l ih=>simp only[gW,List.length_cons,ih];omega
theorem tI (l):∀ u∈gW l,u.oneCell'=true:=by
 induction l with
 | nil=>simp[gW]
 |
  cons x l ih=>
  intro u a;simp only[gW,List.mem_cons] at a;rcases a with rfl|rfl|a
  · rfl
  · rfl
  · exact ih u a
theorem Fc (l l'):gW (l ++ l')=gW l ++ gW l':=by
 induction l with
 | nil=>rfl
 | cons x l ih=>simp[gW,ih]
theorem Eg (l):∀ (k:Nat) (x:Int×Int),l[k]? = some x→(gW l)[k*2]? = some (b_ c_ x.1)∧(gW l)[k*2+1]? = some (b_ c_ x.2):=by
 induction l with
 | nil=>intro k x h;simp at h
 |
  cons y l ih=>
  intro k x h;cases k with
  | zero=>simp at h;subst h;exact⟨rfl,rfl⟩
  |
   succ k=>
   have:=ih k x (by simpa using h);rw[show (k+1)*2=k*2+2 by omega]
   simpa[gW] using this
theorem Nv (l):∀ k,gW (l.take k)=(gW l).take (k*2):=by
 induction l with
 | nil=>intro k;simp[gW]
 |
  cons x l ih=>
  intro k;cases k with
  | zero=>rfl
  | succ k=>rw[show (k+1)*2=k*2+1+1 by omega];simp[gW,ih]
theorem Nw (l):∀ k,gW (l.drop k)=(gW l).drop (k*2):=by
 induction l with
 | nil=>intro k;simp[gW]
 |
  cons x l ih=>
  intro k;cases k with
  | zero=>rfl
  | succ k=>rw[show (k+1)*2=k*2+1+1 by omega];simp[gW,ih]
theorem lH {w w':World} {base e k n:Nat} {v xs} (h:w.ownsRow base e k v n xs) (a:∀ g,v.ownBlock=some g→w'.heap[g]? = w.heap[g]?):w'.ownsRow base e k v n xs:=by
 refine⟨h.1,?_⟩;rcases h.2 with h|⟨g,b,f,rfl,d,c,rest⟩
 · exact .inl h
 · exact .inr ⟨g,b,f,rfl,d,by rw[a g rfl];exact c,rest⟩
theorem gy {w w'} {base e k n:Nat} {v xs} (h:w.ownsRow base e k v n xs) (b:Up w w'):w'.ownsRow base e k v n xs:=
 lH h fun g a=>b.block g (h.lt g a).2
theorem pE {w:World} {base e k n:Nat} {v xs} (h:w.ownsRow base e k v n xs) {g} (a:v.ownBlock=some g):∃ b,w.heap[g]? = some (d_ b e (0,0)):=by
 rcases h.2 with⟨rfl,_⟩|⟨f,d,b,rfl,_,c,_⟩
 · simp[Value.ownBlock] at a
 · simp[Value.ownBlock] at a
   subst a;exact⟨b,c⟩
theorem ku {w:World} {base i e a k r n m:Nat} {v b xs q} (h:w.ownsRow base e k v n xs) (o:w.ownsRow i a r b m q) (l:e≠a) {g} (f:v.ownBlock=some g):b.ownBlock≠some g:=by
 intro j;obtain⟨c,p⟩:=pE h f;obtain⟨s,d⟩:=pE o j;rw[p] at d;injection d with e1
 injection e1 with _ e2
 exact l e2
theorem gS {w:World} {base e d k n b:Nat} {v xs cs} (h:w.ownsRow base e k v n xs) (i:w.heap[b]? = some (d_ cs d (0,0))) (g:e≠d):v.ownBlock≠some b:=by
 intro f;obtain⟨c,a⟩:=pE h f;rw[i] at a;injection a with e1
 injection e1 with _ e2
 exact g e2.symm
theorem kf {w:World} {base e k n:Nat} {v xs} (h:w.ownsRow base e k v n xs):v.oneCell'=true:=by
 obtain⟨a,c,rfl⟩:=gN h
 rfl
theorem pB {w:World} {base e k n:Nat} {v xs} (h:w.ownsRow base e k v n xs) (f:0<n):∃ g c,v =a_ (some ⟨g,0,none⟩) n c∧n≤c∧c≤maxLen:=by
 rcases h.2 with⟨_,h0⟩|⟨g,c,i,a,_,_,d,b,_⟩
 · omega
 · exact⟨g,c,a,d,b⟩
def lw (w:World) (a:List Value) (pend:List (List (Int×Int))):Prop:=
 a.length=pend.length ∧ ∀ (i:Nat) (r:Value) (l:List (Int×Int)),a[i]? = some r→pend[i]? = some l→w.ownsRow 0 127 2 r l.length (gW l)
def gM (w:World) (v:Value) (m:kS):Prop:=∃ d a c b,v =e_ #[d,a,c]∧w.ownsRow 0 3 1 d m.words.length (gz m.words)∧w.ownsRow 0 57 1 a m.pend.length b∧w.ownsRow 0 3 1 c m.res.length (gz m.res)∧lw w b m.pend
theorem lw.below {w w' a pend} (h:lw w a pend) (b:Up w w'):lw w' a pend:=⟨h.1,fun i r l c hl=>gy (h.2 i r l c hl) b⟩
theorem gM.below {w w' v m} (h:gM w v m) (a:Up w w'):gM w' v m:=by
 obtain⟨c,d,e,b,rfl,h1,h2,h3,h4⟩:=h;exact⟨c,d,e,b,rfl,gy h1 a,gy h2 a,gy h3 a,h4.below a⟩
theorem lX (w):gM w (e_ #[a_ none 0 0,a_ none 0 0,a_ none 0 0]) lY:=
 ⟨_,_,_,[],rfl,World.ownsRow_nil _ _ _ _,World.ownsRow_nil _ _ _ _,World.ownsRow_nil _ _ _ _,rfl,fun i r l a _=>by simp at a⟩
structure gE (w:World) (B p T:Nat) (m:kS) (wv pv rv:Value) (rows:List Value):Prop where
 at_:w.heap[p]? = some (d_ #[wv,pv,rv] T (0,0))
 base:B≤p
 words:w.ownsRow B 3 1 wv m.words.length (gz m.words)
 pend:w.ownsRow B 57 1 pv m.pend.length rows
 res:w.ownsRow B 3 1 rv m.res.length (gz m.res)
 len:rows.length=m.pend.length
 each:∀ (i:Nat) (r:Value) (l:List (Int×Int)),rows[i]? = some r→m.pend[i]? = some l→w.ownsRow B 127 2 r l.length (gW l)
 apart:∀ g,wv.ownBlock=some g→rv.ownBlock≠some g
 rowsApart:∀ (i j:Nat) (r s:Value) (g:Nat),rows[i]? = some r→rows[j]? = some s→i≠j→r.ownBlock=some g→s.ownBlock≠some g
section
variable {w w':World} {B p T:Nat} {m:kS} {wv pv rv:Value} {rows:List Value}
theorem gE.rowOf (h:gE w B p T m wv pv rv rows) {i:Nat} {r} (a:rows[i]? = some r):∃ l,m.pend[i]? = some l∧w.ownsRow B 127 2 r l.length (gW l):=by
 have hl:=h.len;have c:=(fR a).1;have b:i<m.pend.length:=by omega
 exact⟨m.pend[i],by simp[b],h.each i r _ a (by simp[b])⟩
theorem gE.kept (h:gE w B p T m wv pv rv rows) (a:∀ b,b<w.heap.size→w'.heap[b]? = w.heap[b]?):gE w' B p T m wv pv rv rows where
 at_:=by rw[a p (gn h.at_)];exact h.at_
 base:=h.base
 words:=lH h.words fun g e=>a g (h.words.lt g e).2
 pend:=lH h.pend fun g e=>a g (h.pend.lt g e).2
 res:=lH h.res fun g e=>a g (h.res.lt g e).2
 len:=h.len
 each:=fun i r l c hl=>lH (h.each i r l c hl) fun g e=>a g ((h.each i r l c hl).lt g e).2
 apart:=h.apart
 rowsApart:=h.rowsApart
theorem gE.below (h:gE w B p T m wv pv rv rows) (a:Up w w'):gE w' B p T m wv pv rv rows:=h.kept fun b c=>a.block b c
theorem nj {w:World} {base e k n:Nat} {v xs} (h:w.ownsRow base e k v n xs):w.ownsRow 0 e k v n xs:=jW h fM
theorem gE.isMem (h:gE w B p T m wv pv rv rows):gM w (e_ #[wv,pv,rv]) m:=
 ⟨wv,pv,rv,rows,rfl,nj h.words,nj h.pend,nj h.res,h.len,fun i r l a hl=>nj (h.each i r l a hl)⟩
theorem gE.move (h:gE w B p T m wv pv rv rows) {a b} (h1:w'.heap[a]? = some (d_ #[wv,pv,rv] b (0,0))) (d:B≤a) (c:Up w w'):gE w' B a b m wv pv rv rows:=
 let k:=h.below c
 ⟨h1,d,k.words,k.pend,k.res,k.len,k.each,k.apart,k.rowsApart⟩
theorem iY {w:World} {b g o u} (h:g≠b):(w.setCell ⟨b,o,none⟩ u).heap[g]? = w.heap[g]?:=Below.heap_setCell w _ u g h
theorem gE.setWord (h:gE w B p T m wv pv rv rows) (t:T≠3) {g n c} (q:wv =a_ (some ⟨g,0,none⟩) n c) (k) (x):gE (w.setCell ⟨g,k,none⟩ (b_ c_ x)) B p T ⟨m.words.set k x,m.pend,m.res⟩ wv pv rv rows:=by
 have j:wv.ownBlock=some g:=by rw[q];rfl
 have f:p≠g:=fun e=>gS h.words h.at_ (Ne.symm t) (by rw[e];exact j)
 refine⟨by rw[iY f];exact h.at_,h.base,?_,?_,?_,h.len,?_,h.apart,h.rowsApart⟩
 · have d:=h.words
   rw[q] at d ⊢
   have:=(World.ownsRow.stored (n:=m.words.length) (by obtain⟨a,u,e⟩:=gN d;injection e with f e2 e3;subst f e2 e3;exact d) k (b_ c_ x)).1;obtain⟨a,u,e⟩:=gN d;injection e with f e2 e3
   subst f e2 e3;simp only[List.length_set];rw[show gz (m.words.set k x)=(gz m.words).set k (b_ c_ x) by simp[gz]];exact this
 · refine lH h.pend fun o e=>iY (fun b=>?_)
   subst b;exact ku h.pend h.words fZ e j
 · refine lH h.res fun o e=>iY (fun b=>?_)
   subst b;exact h.apart o j e
 · intro i r l s hl
   refine lH (h.each i r l s hl) fun o e=>iY (fun b=>?_)
   subst b;exact ku (h.each i r l s hl) h.words fZ e j
theorem gE.setResv (h:gE w B p T m wv pv rv rows) (t:T≠3) {g n c} (q:rv =a_ (some ⟨g,0,none⟩) n c) (k) (x):gE (w.setCell ⟨g,k,none⟩ (b_ c_ x)) B p T ⟨m.words,m.pend,m.res.set k x⟩ wv pv rv rows:=by
 have d:rv.ownBlock=some g:=by rw[q];rfl
 have o:p≠g:=fun e=>gS h.res h.at_ (Ne.symm t) (by rw[e];exact d)
 refine⟨by rw[iY o];exact h.at_,h.base,?_,?_,?_,h.len,?_,h.apart,h.rowsApart⟩
 · refine lH h.words fun f e=>iY (fun b=>?_)
   subst b;exact h.apart f e d
 · refine lH h.pend fun f e=>iY (fun b=>?_)
   subst b;exact ku h.pend h.res fZ e d
 · have j:=h.res
   rw[q] at j ⊢
   obtain⟨a,u,e⟩:=gN j;injection e with o e2 e3
   subst o e2 e3;have:=(World.ownsRow.stored (n:=m.res.length) j k (b_ c_ x)).1;simp only[List.length_set];rw[show gz (m.res.set k x)=(gz m.res).set k (b_ c_ x) by simp[gz]];exact this
 · intro i r l s hl
   refine lH (h.each i r l s hl) fun f e=>iY (fun b=>?_)
   subst b;exact ku (h.each i r l s hl) h.res fZ e d
theorem gE.setRow (h:gE w B p T m wv pv rv rows) (N:T≠127) (R:T≠57) {i b r r' l'} (A:rows[i]? = some r) (u:r.ownBlock=some b)
 (y:∀ g,g<w.heap.size→g≠b→w'.heap[g]? = w.heap[g]?) (H:r'.ownBlock=some b) (P:w'.ownsRow B 127 2 r' l'.length (gW l')) {g n c} (L:pv =a_ (some ⟨g,0,none⟩) n c) :
 gE (w'.setCell ⟨g,i,none⟩ r') B p T ⟨m.words,m.pend.set i l',m.res⟩ wv pv rv (rows.set i r'):=by
 have q:pv.ownBlock=some g:=by rw[L];rfl
 obtain⟨U,V,C⟩:=h.rowOf A;have D:=(fR A).1;have Q:=(h.pend.lt g q).2;have M:g≠b:=fun e=>ku h.pend C fZ q (by rw[e];exact u)
 have K:p≠g:=fun e=>gS h.pend h.at_ (Ne.symm R) (by rw[e];exact q)
 have E:p≠b:=fun e=>gS C h.at_ (Ne.symm N) (by rw[e];exact u)
 refine⟨?_,h.base,?_,?_,?_,by simp[h.len],?_,h.apart,?_⟩
 · rw[iY K,y p (gn h.at_) E];exact h.at_
 · refine lH h.words fun d e=>?_
   have x:d≠g:=fun o=>ku h.words h.pend fZ e (by rw[o];exact q)
   have z:d≠b:=fun o=>ku h.words C fZ e (by rw[o];exact u)
   rw[iY x,y d (h.words.lt d e).2 z]
 · have J:w'.ownsRow B 57 1 pv m.pend.length rows:=lH h.pend fun d e=>by
    rw[q] at e;injection e with e;subst e
    exact y g Q M
   rw[L] at J ⊢
   obtain⟨a,S,e⟩:=gN J;injection e with K E e3
   subst K E e3;have:=(World.ownsRow.stored (n:=m.pend.length) J i r').1;simp only[List.length_set];exact this
 · refine lH h.res fun d e=>?_
   have x:d≠g:=fun o=>ku h.res h.pend fZ e (by rw[o];exact q)
   have z:d≠b:=fun o=>ku h.res C fZ e (by rw[o];exact u)
   rw[iY x,y d (h.res.lt d e).2 z]
 · intro j s l f hl
   by_cases G:i=j
   · subst G
     simp only[List.getElem?_set_self D] at f;have O:i<m.pend.length:=by rw[←h.len];exact D
     simp only[List.getElem?_set_self O] at hl;injection f with f;injection hl with hl
     subst f hl;refine lH P fun d e=>iY (fun o=>?_)
     subst o;rw[H] at e;injection e with e
     exact M e.symm
   · simp only[List.getElem?_set_ne G] at f hl
     have F:=h.each j s l f hl;refine lH F fun d e=>?_
     have x:d≠g:=fun o=>ku F h.pend fZ e (by rw[o];exact q)
     have z:d≠b:=fun o=>h.rowsApart i j r s b A f G u (by rw[←o];exact e)
     rw[iY x,y d (F.lt d e).2 z]
 · intro j k s t d f ht I v
   by_cases h1:i=j
   · subst h1
     rw[List.getElem?_set_self D] at f;injection f with f;subst f
     rw[List.getElem?_set_ne I] at ht;rw[H] at v;injection v with v;subst v
     exact h.rowsApart i k r t b A ht I u
   · rw[List.getElem?_set_ne h1] at f
     by_cases h2:i=k
     · subst h2
       rw[List.getElem?_set_self D] at ht;injection ht with ht;subst ht
       rw[H];intro e;injection e with e;subst e
       exact h.rowsApart j i s r b f A (Ne.symm h1) v u
     · rw[List.getElem?_set_ne h2] at ht
       exact h.rowsApart j k s t d f ht I v
theorem gE.push {w1 w2} (h:gE w B p T m wv pv rv rows) (A:T≠57) (C:T≠3) (D:T≠127) {r pv' l} (M:Up w w1) (q:w1.ownsRow w.heap.size 127 2 r l.length (gW l))
 (I:w2.ownsRow B 57 1 pv' (m.pend.length+1) (rows ++ [r])) (J:w1.grownBy w2 pv.ownBlock) (P:B≤w.heap.size) :
 gE (w2.setCell ⟨p,1,none⟩ pv') B p T ⟨m.words,m.pend ++ [l],m.res⟩ wv pv' rv (rows ++ [r]):=by
 have k:=h.below M;have F:∀ g,g<w1.heap.size→pv.ownBlock≠some g→w2.heap[g]? = w1.heap[g]?:=fun g K u=>J.block g K (fun e=>u e.symm)
 have Q:pv.ownBlock≠some p:=gS k.pend k.at_ (Ne.symm A);have H:w2.heap[p]? = some (d_ #[wv,pv,rv] T (0,0)):=by rw[F p (gn k.at_) Q];exact k.at_
 have d:∀ {e G n:Nat} {v:Value} {xs:List Value},w1.ownsRow B e G v n xs→e≠57→e≠T→(w2.setCell ⟨p,1,none⟩ pv').ownsRow B e G v n xs:=fun b u O=>
  lH b fun g e=>by
   have N:g≠p:=fun c=>gS b k.at_ O (by rw[←c];exact e)
   rw[iY N,F g (b.lt g e).2 (fun c=>ku b k.pend u e c)]
 have R:pv'.ownBlock≠some p:=gS I H (Ne.symm A);have E:rows.length=m.pend.length:=h.len;refine⟨?_,h.base,d k.words fZ (Ne.symm C),?_,d k.res fZ (Ne.symm C),by simp[E],?_,h.apart,?_⟩
 · have:=jb H 1 pv'
   simpa using this
 · simp only[List.length_append,List.length_nil]
   exact lH I fun g e=>iY (fun c=>R (by rw[←c];exact e))
 · intro i s l' a hl
   by_cases y:i<rows.length
   · rw[List.getElem?_append_left y] at a
     rw[List.getElem?_append_left f_] at hl;exact d (k.each i s l' a hl) fZ (Ne.symm D)
   · have x:=(fR a).1
     have:i=rows.length:=by simp at x;omega
     subst this;simp at a;rw[E] at hl;simp at hl;subst a hl;exact d (jW q P) fZ (Ne.symm D)
 · intro i j s t g a ht L o
   by_cases y:i<rows.length
   · rw[List.getElem?_append_left y] at a
     by_cases z:j<rows.length
     · rw[List.getElem?_append_left z] at ht
       exact h.rowsApart i j s t g a ht L o
     · have f:=(fR ht).1
       have:j=rows.length:=by simp at f;omega
       subst this;simp at ht;subst ht;intro e;have h1:=(q.lt g e).1;obtain⟨S,_,b⟩:=h.rowOf a;have h2:=(b.lt g o).2;omega
   · have x:=(fR a).1
     have:i=rows.length:=by simp at x;omega
     subst this;simp at a;subst a;have f:=(fR ht).1;have z:j<rows.length:=by simp at f;omega
     rw[List.getElem?_append_left z] at ht;intro e;have h1:=(q.lt g o).1;obtain⟨S,_,b⟩:=h.rowOf ht;have h2:=(b.lt g e).2;omega
theorem gE.stored {w1} (h:gE w B p T m wv pv rv rows) (G:T≠127) (R:T≠57) {i r r' l'} (y:rows[i]? = some r)
 (F:w.grownBy w1 r.ownBlock) (C:w1.ownsRow B 127 2 r' l'.length (gW l')) {g n c} (z:pv =a_ (some ⟨g,0,none⟩) n c) :
 (w1.setCell ⟨g,i,none⟩ r').heap[p]? = some (d_ #[wv,pv,rv] T (0,0))∧gM (w1.setCell ⟨g,i,none⟩ r') (e_ #[wv,pv,rv]) ⟨m.words,m.pend.set i l',m.res⟩:=by
 have o:pv.ownBlock=some g:=by rw[z];rfl
 obtain⟨U,V,u⟩:=h.rowOf y;have D:=(fR y).1;have J:i<m.pend.length:=by rw[←h.len];exact D
 have q:∀ b,b<w.heap.size→r.ownBlock≠some b→w1.heap[b]? = w.heap[b]?:=fun b I L=>F.block b I (fun e=>L e.symm)
 have M:r.ownBlock≠some p:=gS u h.at_ (Ne.symm G);have P:r.ownBlock≠some g:=fun e=>ku h.pend u fZ o e
 have t:p≠g:=fun e=>gS h.pend h.at_ (Ne.symm R) (by rw[e];exact o)
 have O:(w1.setCell ⟨g,i,none⟩ r').ownsRow B 3 1 wv m.words.length (gz m.words):=lH h.words fun b e=>by
  rw[iY (fun d=>ku h.words h.pend fZ e (by rw[d];exact o)),q b (h.words.lt b e).2 (fun d=>ku h.words u fZ e d)]
 have H:(w1.setCell ⟨g,i,none⟩ r').ownsRow B 3 1 rv m.res.length (gz m.res):=lH h.res fun b e=>by
  rw[iY (fun d=>ku h.res h.pend fZ e (by rw[d];exact o)),q b (h.res.lt b e).2 (fun d=>ku h.res u fZ e d)]
 have E:(w1.setCell ⟨g,i,none⟩ r').ownsRow B 57 1 pv (m.pend.set i l').length (rows.set i r'):=by
  have A:w1.ownsRow B 57 1 pv m.pend.length rows:=lH h.pend fun k e=>by
   rw[o] at e;injection e with e;subst e
   exact q g (h.pend.lt g o).2 P
  rw[z] at A ⊢
  obtain⟨a,S,e⟩:=gN A;injection e with t e2 e3
  subst t e2 e3;have:=(World.ownsRow.stored (n:=m.pend.length) A i r').1;simp only[List.length_set];exact this
 have K:∀ (j:Nat) (s:Value) (l:List (Int×Int)),(rows.set i r')[j]? = some s→(m.pend.set i l')[j]? = some l→(w1.setCell ⟨g,i,none⟩ r').ownsRow B 127 2 s l.length (gW l):=by
  intro j s l f hl;by_cases x:i=j
  · subst x
    simp only[List.getElem?_set_self D] at f;simp only[List.getElem?_set_self J] at hl;injection f with f;injection hl with hl
    subst f hl;refine lH C fun k e=>iY (fun d=>?_)
    subst d;have N:=pE E (g:=k) (by rw[z];rfl);obtain⟨c1,hc1⟩:=N;obtain⟨Q,hc2⟩:=pE C e;have:(w1.setCell ⟨k,i,none⟩ r').heap[k]? = some (d_ (Q.setIfInBounds i r') 127 (0,0)):=jb hc2 i r';rw[hc1] at this;injection this with t
    injection t with _ e2
    exact absurd e2 fZ
  · simp only[List.getElem?_set_ne x] at f hl
    have v:=h.each j s l f hl;refine lH v fun k e=>?_
    rw[iY (fun d=>ku v h.pend fZ e (by rw[d];exact o)),q k (v.lt k e).2 (fun d=>h.rowsApart j i s r k f y (Ne.symm x) e d)]
 refine⟨?_,wv,pv,rv,rows.set i r',rfl,nj O,nj E,nj H,by simp[h.len],fun j s l f hl=>nj (K j s l f hl)⟩;rw[iY t,q p (gn h.at_) M];exact h.at_
theorem gM.setVar {b j u v cs} (h:gM w v m) (c:w.heap[b]? = some (d_ cs T (0,0))) (d:T≠3) (k:T≠127) (n:T≠57):gM (w.setCell ⟨b,j,none⟩ u) v m:=by
 obtain⟨wv,pv,rv,rows,rfl,h1,h2,h3,h4,h5⟩:=h
 exact⟨wv,pv,rv,rows,rfl,lH h1 fun g e=>iY (fun a=>gS h1 c (Ne.symm d) (by rw[←a];exact e)),lH h2 fun g e=>iY (fun a=>gS h2 c (Ne.symm n) (by rw[←a];exact e)),
  lH h3 fun g e=>iY (fun a=>gS h3 c (Ne.symm d) (by rw[←a];exact e)),h4,fun i r l f hl=>lH (h5 i r l f hl) fun g e=>iY (fun a=>gS (h5 i r l f hl) c (Ne.symm k) (by rw[←a];exact e))⟩
end
end
theorem gM.parts {w v m} (h:gM w v m):∃ a1 c1 a2 b a3 c3 a,v =e_ #[a_ a1 m.words.length c1,a_ a2 m.pend.length b,a_ a3 m.res.length c3]∧gl w 1 m.words.length (a_ a1 m.words.length c1) (gz m.words) ∧
 gl w 1 m.pend.length (a_ a2 m.pend.length b) a∧gl w 1 m.res.length (a_ a3 m.res.length c3) (gz m.res)∧lw w a m.pend:=by
 obtain⟨g,j,f,a,rfl,h1,h2,h3,h4⟩:=h;obtain⟨a1,c1,rfl⟩:=gN h1;obtain⟨a2,b,rfl⟩:=gN h2;obtain⟨a3,c3,rfl⟩:=gN h3;refine⟨a1,c1,a2,b,a3,c3,a,rfl,gl.own h1 (Di _),gl.own h2 (fun u d=>?_),gl.own h3 (Di _),h4⟩;obtain⟨i,e,rfl⟩:=List.mem_iff_getElem.1 d;have c:i<m.pend.length:=by rw[←h4.1];exact e
 exact kf (h4.2 i a[i] m.pend[i] gb (by simp[c]))
theorem gr w (o):Up w (w.alloc o):=fK.alloc fL _
theorem AS v m h r w (g:gM w v m) (i:m6 m h=r) :
 Calls gd 118 #[v,b_ c_ h] w fun e w'=>e =fH (fJ r)∧Up w w':=by
 obtain⟨a1,c1,a2,k,a3,c3,j,rfl,_,_,_,_⟩:=g.parts;subst i;unfold m6;generalize m.pend.length=b;generalize m.res.length=f;by_cases h0:0≤h
 · have c:decide (0≤h)=true:=decide_eq_true h0
   rw[c];by_cases h1:h<b
   · by_cases h2:h<f
     · have a:decide (h<(b:Int))=true:=decide_eq_true h1
       have d:decide (h<(f:Int))=true:=decide_eq_true h2;rw[a,d];go_in;go_wp2
       all_goals first|omega|(go_ret;exact⟨gt (iO (by first|rfl|(apply decide_eq_false;omega)|(apply decide_eq_true;omega))),gr _ _⟩)
     · have a:decide (h<(b:Int))=true:=decide_eq_true h1
       have d:decide (h<(f:Int))=false:=decide_eq_false h2;rw[a,d];go_in;go_wp2
       all_goals first|omega|(go_ret;exact⟨gt (iO (by first|rfl|(apply decide_eq_false;omega)|(apply decide_eq_true;omega))),gr _ _⟩)
   · have a:decide (h<(b:Int))=false:=decide_eq_false h1
     rw[a];go_in;go_wp2
     all_goals first|omega|(go_ret;exact⟨gt (iO (by first|rfl|(apply decide_eq_false;omega)|(apply decide_eq_true;omega))),gr _ _⟩)
 · have c:decide (0≤h)=false:=decide_eq_false h0
   rw[c];go_in;go_wp2;go_ret;exact⟨gt (iO rfl),gr _ _⟩
theorem yB v m h a r w (g:gM w v m) (k:jm m h a=r) :
 Calls gd 119 #[v,b_ c_ h,b_ c_ a] w fun e w'=>e =fH (fJ r)∧Up w w':=by
 subst k;have i:=gg g;obtain⟨a1,c1,a2,n,a3,c3,l,rfl,_,_,_,_⟩:=g.parts;clear g;unfold jm;cases c:m6 m h
 · have d:=gg c;clear c
   go_in
   go_wp2_with (go_at_call 118;((with_reducible refine(AS _ m h false _ (i.o.below (gr _ _)) d.o).mono ?_);rintro e w1 ⟨rfl,b⟩))
   go_ret;exact⟨gt (iO rfl),gj (gr _ _) b⟩
 · have d:=gg c;clear c
   by_cases h0:0≤a
   · have f:decide (0≤a)=true:=decide_eq_true h0
     rw[f]
     all_goals
      go_in
      go_wp2_with (go_at_call 118;((with_reducible refine(AS _ m h true _ (i.o.below (gr _ _)) d.o).mono ?_);rintro e w1 ⟨rfl,b⟩;obtain⟨c1,f1⟩:=jR b))
      go_ret;exact⟨gt (iO rfl),gj (gr _ _) b⟩
   · have f:decide (0≤a)=false:=decide_eq_false h0
     rw[f];go_in
     go_wp2_with (go_at_call 118;((with_reducible refine(AS _ m h true _ (i.o.below (gr _ _)) d.o).mono ?_);rintro e w1 ⟨rfl,b⟩))
     go_ret;exact⟨gt (iO rfl),gj (gr _ _) b⟩
theorem uN {m h a} (b:jm m h a=true):0≤h∧h<m.pend.length∧h<m.res.length∧0≤a∧a<m.words.length:=by
 simp only[jm,m6,Bool.and_eq_true,decide_eq_true_eq] at b;omega
theorem yS {m h} (h1:h<m.pend.length) (h0:0≤h):m.pend[h.toNat]? = some (iA m h):=by
 unfold iA;have:h.toNat<m.pend.length:=by omega
 simp[this]
theorem lw.at' {w b m} (f:lw w b m.pend) {h} (h1:h<m.pend.length) (h0:0≤h):∃ a c,b[h.toNat]? = some (a_ a (iA m h).length c)∧gl w 2 (iA m h).length (a_ a (iA m h).length c) (gW (iA m h)):=by
 have hl:h.toNat<b.length:=by rw[f.1];omega
 have d:=gl.own (f.2 h.toNat b[h.toNat] _ (by simp[hl]) (yS h1 h0)) (tI _);obtain⟨a,c,e⟩:=d.shape;exact⟨a,c,by rw[←e];simp[hl],by rw[←e];exact d⟩
theorem gl.some {w k n v xs} (h:gl w k n v xs) (a:0<n) :
 ∃ b o c,v =a_ (some ⟨b,o,none⟩) n c∧b<w.heap.size∧n≤c∧c≤maxLen ∧ ∀ j u,xs[j]? = some u→w.cell? ⟨b,o+j,none⟩=some u:=by
 rcases h.2.2 with⟨_,h0⟩|h
 · omega
 · exact h
def iQ (w:World) (k n:Nat) (v:Value) (xs:List Value):Prop:=xs.length=n*k∧(∀ u∈xs,u.oneCell'=true)∧(∃ a c,v =a_ a n c)∧(0<n→gl w k n v xs)
theorem gl.e {w k n v xs} (h:gl w k n v xs):iQ w k n v xs:=⟨h.1,h.2.1,h.shape,fun _=>h⟩
theorem iQ.below {w w' k n v xs} (h:iQ w k n v xs) (a:Up w w'):iQ w' k n v xs:=⟨h.1,h.2.1,h.2.2.1,fun g=>(h.2.2.2 g).below a⟩
theorem iQ.shape {w k n v xs} (h:iQ w k n v xs):∃ a c,v =a_ a n c:=h.2.2.1
theorem iQ.some {w k n v xs} (h:iQ w k n v xs) (a:0<n) :
 ∃ b o c,v =a_ (some ⟨b,o,none⟩) n c∧b<w.heap.size∧n≤c∧c≤maxLen ∧ ∀ j u,xs[j]? = some u→w.cell? ⟨b,o+j,none⟩=some u:=(h.2.2.2 a).some a
theorem gM.row {w a1 a2 a3 k d t c1 f c3 m} (u:gM w (e_ #[a_ a1 k c1,a_ a2 d f,a_ a3 t c3]) m) {h:Int} (h1:h<m.pend.length) (h0:0≤h) :
 ∃ b o a c,a2=some ⟨b,o,none⟩∧d=m.pend.length∧f≤9223372036854775807∧d≤f∧b<w.heap.size∧w.cell? ⟨b,o+h.toNat,none⟩=some (a_ a (iA m h).length c)∧gl w 2 (iA m h).length (a_ a (iA m h).length c) (gW (iA m h)):=by
 obtain⟨A,E,r,n,D,C,B,e,r1,r2,r3,q⟩:=u.parts;injection e with e
 have j:(a_ r m.pend.length n:Value) =a_ a2 d f:=by
  have:=congrArg (fun x=>x[1]?) e
  simpa using this.symm
 rw[j] at r2;obtain⟨b,o,c,z,y,v,s,l⟩:=r2.some f_;injection z with e4 e5 e6
 subst e4 e5 e6;obtain⟨a,i,p,g⟩:=q.at' h1 h0;unfold maxLen at s;exact⟨b,o,a,i,rfl,rfl,by omega,v,y,l _ _ p,g⟩
theorem AT v m h a r w (f:gM w v m) (k:lu m h a=r) :
 Calls gd 189 #[v,b_ c_ h,b_ c_ a] w fun e w'=>e =fH (b_ c_ r)∧Up w w':=by
 subst k;have i:=gg f;obtain⟨a1,c1,a2,E,a3,c3,u,rfl,_,_,_,_⟩:=f.parts;unfold lu;cases d:jm m h a
 · have g:=gg d;clear d f
   go_in
   go_wp2_with (go_at_call 119;((with_reducible refine(yB _ m h a false _ (i.o.below (gr _ _)) g.o).mono ?_);rintro e w1 ⟨rfl,c⟩))
   go_ret;exact⟨gt rfl,gj (gr _ _) c⟩
 · obtain⟨j,n,B,x,D⟩:=uN d
   obtain⟨b,o,a',q,rfl,A,s,C,p,y,_⟩:=f.row n j;have g:=gg d;clear d f
   generalize (iA m h).length=n4 at *
   by_cases hL:n4=0
   · subst hL
     go_in
     go_wp2_with (go_at_call 119;((with_reducible refine(yB _ m h a true _ (i.o.below (gr _ _)) g.o).mono ?_);rintro e w1 ⟨rfl,c⟩;obtain⟨c1,f1⟩:=jR c))
     go_ret;exact⟨gt rfl,gj (gr _ _) c⟩
   · have t:0<n4:=by omega
     have l:=gg hL;clear hL;go_in
     go_wp2_with (go_at_call 119;((with_reducible refine(yB _ m h a true _ (i.o.below (gr _ _)) g.o).mono ?_);rintro e w1 ⟨rfl,c⟩;obtain⟨c1,f1⟩:=jR c))
     go_ret;exact⟨gt (by first|rfl|(rw[if_pos rfl,if_neg l.o];rfl)),gj (gr _ _) c⟩
theorem BN:(gd.info? 127).map (fun i=>(i.zero,i.size,i.bytes))=some (some (e_ #[b_ c_ 0,b_ c_ 0]),2,16):=by kernel_rfl
theorem Ej:(gd.info? 57).map (fun i=>(i.zero,i.size,i.bytes))=some (some (a_ none 0 0),1,24):=by kernel_rfl
theorem Hj v n xs w (h:gl w 2 n v xs) (x:n*16≤140737488355328) :
 Calls gd 85 #[v] w fun e w'=>∃ a,e =fH a∧w'.ownsRow w.heap.size 127 2 a n xs∧Up w w':=by
 obtain⟨hl,h1,h2⟩:=h;obtain⟨m,G,F,E,r⟩:=info_parts BN;rcases h2 with⟨rfl,rfl⟩|⟨b,o,c,rfl,H,J,K,d⟩
 · have q:=fun w:World=>Lib.run_eql_slice_nil (P:=gd) w 57 127 none 0 0 0 0 Tryz.underlying57
   have i:xs=[]:=fT (by simpa using hl);have C:=gg i;go_wp2;go_ret;exact⟨_,rfl,by rw[C.o];exact World.ownsRow_nil _ _ _ _,fK⟩
 · have q:=fun w:World=>Lib.run_eql_slice_nil (P:=gd) w 57 127 (some ⟨b,o,none⟩) n c 0 0 Tryz.underlying57
   have f:(w.alloc (d_ #[] 127)).ownsRow w.heap.size 127 2 (a_ (some ⟨w.heap.size,0,none⟩) 0 0) 0 []:=World.ownsRow_made w #[] 0 fL gb gb
   have g:∀ j u,xs[j]? = some u→(w.alloc (d_ #[] 127)).cell? ((⟨b,o,none⟩:Addr).add j)=some u:=fun j u I=>by
    rw[←d j u I];rw[kx];exact Below.cell (p:=⟨b,o+j,none⟩) (fK.alloc fL (d_ #[] 127)) H
   have z:=gg f;have y:=gg g;have D:=gg hl;have l:=gg h1;have A:0+n≤maxLen:=by omega
   go_in
   go_wp2_with (at_builtin;refine wpList_append_own _ rfl _ _ 57 rfl w.heap.size 127 m (e_ #[b_ c_ 0,b_ c_ 0]) 2 16 Tryz.underlying57 G F E r rfl fZ _ 0 [] rfl z.o ⟨b,o,none⟩ n c xs rfl D.o y.o l.o A f_ gb ?_;intro a w1 t B _)
   go_ret;refine⟨_,rfl,by simpa using t,?_⟩;exact(fK.alloc fL _).grown B gb (fun k s=>by cases s;exact fL)
theorem gk {w w'} {b:Nat} {o} (a:Up w w') (h:w.heap[b]? = some o):w'.heap[b]? = some o:=iE a (gn h) h
theorem iv {w:World} {b x y z} {t:TypeId} (h:w.heap[b]? = some (d_ #[x,y,z] t (0,0))):w.cell? ⟨b,0,none⟩=some x∧w.cell? ⟨b,1,none⟩=some y∧w.cell? ⟨b,2,none⟩=some z:=
 ⟨gv h rfl,gv h rfl,gv h rfl⟩
theorem yY {a w w' row} (h:Up a w) (b:w.grownBy w' row) (c:∀ g,row=some g→a.heap.size≤g):Up a w':=h.grown b h.size (fun k d=>c k d)
theorem jT {w:World} {q T:Nat} {d c b x y z} (e:w.heap[q]? = some (d_ #[d,c,b] T (0,0))) :
 (((w.setCell ⟨q,0,none⟩ x).setCell ⟨q,1,none⟩ y).setCell ⟨q,2,none⟩ z).heap[q]? = some (d_ #[x,y,z] T (0,0)) ∧ ∀ g,g≠q→(((w.setCell ⟨q,0,none⟩ x).setCell ⟨q,1,none⟩ y).setCell ⟨q,2,none⟩ z).heap[g]? = w.heap[g]?:=by
 refine⟨?_,fun g a=>by rw[iY a,iY a,iY a]⟩;have h0:=jb e 0 x;have h1:=jb h0 1 y;have h2:=jb h1 2 z
 simpa using h2
theorem sI {w:World} {q T B e k n:Nat} {h j c v xs} x y z (b:w.ownsRow B e k v n xs) (a:w.heap[q]? = some (d_ #[h,j,c] T (0,0))) (i:e≠T):(((w.setCell ⟨q,0,none⟩ x).setCell ⟨q,1,none⟩ y).setCell ⟨q,2,none⟩ z).ownsRow B e k v n xs:=
 lH b fun g f=>(jT a).2 g (fun d=>gS b a i (by rw[←d];exact f))
theorem kt {a w q x y z} (h:Up a w) (b:a.heap.size≤q):Up a (((w.setCell ⟨q,0,none⟩ x).setCell ⟨q,1,none⟩ y).setCell ⟨q,2,none⟩ z):=gO (gO (gO h b _) b _) b _
theorem D5 {w B q T b a words res h f} (d:w.heap[q]? = some (d_ #[b,a_ none 0 0,a] T (0,0))) (e:B≤q) (h1:w.ownsRow B 3 1 b h (gz words)) (h3:w.ownsRow B 3 1 a f (gz res))
 (k:∀ g,b.ownBlock=some g→a.ownBlock≠some g):gE w B q T ⟨words,[],res⟩ b (a_ none 0 0) a [] where
 at_:=d
 base:=e
 words:=by have:=h1.1;rw[IE,Nat.mul_one] at this;simpa[this] using h1
 pend:=World.ownsRow_nil _ _ _ _
 res:=by have:=h3.1;rw[IE,Nat.mul_one] at this;simpa[this] using h3
 len:=rfl
 each:=fun i r l c _=>by simp at c
 apart:=k
 rowsApart:=fun i j r s g c _ _ _=>by simp at c
theorem Bv {w1 w2:World} {d b m k o i l n:Nat} {a c f j} (h1:w1.ownsRow d m o a l f) (h2:w2.ownsRow b k i c n j) (p:w1.heap.size≤b):∀ g,a.ownBlock=some g→c.ownBlock≠some g:=by
 intro g e h;have:=(h1.lt g e).2;have:=(h2.lt g h).1;omega
theorem CS v m w (hm:gM w v m) (hs:jC m) :
 Calls gd 122 #[v] w fun e w'=>∃ p wv pv rv aK,e =fH (fG (some ⟨p,0,none⟩))∧gE w' w.heap.size p 187 m wv pv rv aK∧Up w w':=by
 obtain⟨a1,c1,a2,c2,a3,c3,aK,rfl,h1,h2,h3,h4⟩:=hm.parts;have s1:=hs.words;have s2:=hs.pend;have s3:=hs.res;have H1:=gg h1;have H2:=gg h2;have H3:=gg h3;have H4:=gg h4;have HS:=gg hs.each;clear hm h1 h2 h3 h4 hs;obtain⟨s,a4⟩:∃ n,m.words.length=n:=⟨_,rfl⟩;obtain⟨n2,a5⟩:∃ n,m.pend.length=n:=⟨_,rfl⟩;obtain⟨f,aW⟩:∃ n,m.res.length=n:=⟨_,rfl⟩;rw[a4] at H1 s1;rw[a5] at H2 s2;rw[aW] at H3 s3;rw[a4,a5,aW];have b0:=gg a4;have bw:=gg a5;have bS:=gg aW;clear a4 a5 aW;obtain⟨i0,hi,bI,bM,bH⟩:=info_parts Ej;go_in;go_upto_region 1 with(fail)
 go_cut [3] (fun s3 wx=>∃ q wv rv,s3 = fG (some ⟨q,0,none⟩)∧gE wx w.heap.size q 33 ⟨m.words,[],m.res⟩ wv (a_ none 0 0) rv []∧wx.heap[w.heap.size]? = some (d_ #[a_ a1 s c1,a_ a2 n2 c2,a_ a3 f c3] 33 (0,0))∧Up w wx)
 case first=>
  refine fX (fun w'=>w.heap.size<w'.heap.size∧w'.heap[w.heap.size]? = some (d_ #[a_ a1 s c1,a_ a2 n2 c2,a_ a3 f c3] 33 (0,0))) [true,true,false,true,true] (fun w1 w2 h hu=>⟨fN h.1 hu.size,iE hu h.1 h.2⟩) ⟨by simp,gH w _⟩ ?a' ?h ?ht
  case h=>
   intro w0 ⟨aG,aP⟩;obtain⟨k0,k1,k2⟩:=iv aP;have x0:=fun x=>gD aG k0 x
   have x2:=fun x=>gD aG k2 x
   clear k0 k1 k2 aP;simp only[jd];repeat(go_big_quiet_step (fail))
   refine wpQuiet_nil ?_
   rfl
  case ht=>
   change kN _ _ _ _ _ 5 _ _ _;have a6:gi (Up w (w.alloc (d_ #[a_ a1 s c1,a_ a2 n2 c2,a_ a3 f c3] 33)).drew):=gg (iR (gr _ _));refine EC (i:=2) (k:=7) ga rfl rfl ?_ ?_
   · intro w1 a7 ⟨ar,aH⟩
     have aI:=gg (gj a6.o a7);clear a6
     go_wp2_with fail
     refine(pD (a_ a1 s c1) s _ _ (H1.o.below aI.o) f_).mono ?_
     rintro e v1 ⟨r1,rfl,ah,a0⟩;obtain⟨D,I,rfl⟩:=gN ah;have aS:=gg ah;have bE:=a0.size;have ax:=gg (gj aI.o a0);clear aI;have O1:=gg (jW ah (fO (Nat.le_of_lt ar) fL));clear ah;have S1:gi (v1.heap.size≤v1.heap.size):=gg fL
     go_wp2
     refine⟨⟨fN ar a0.size,gk a0 aH⟩,?_⟩;refine EC (i:=5) (k:=7) ga rfl rfl ?_ ?_
     · intro w2 ae ⟨Q,ai⟩
       have ag:=gg (gj ax.o ae);clear ax;have aN:=gg (gy O1.o ae);clear O1;have aJ:=gg (fO S1.o (ae).size);clear S1
       go_wp2_with fail
       refine(pD (a_ a3 f c3) f _ _ (H3.o.below ag.o) f_).mono ?_
       rintro e v2 ⟨r3,rfl,M,H⟩;obtain⟨F,E,rfl⟩:=gN M;have aF:=gg M;have bo:=H.size;have br:=(aJ).o;have ad:=gg (gj ag.o H);clear ag;have aE:=gg (gy aN.o H);clear aN;have ao:=gg (fO aJ.o (H).size);clear aJ;have O3:=gg (jW M (fO (Nat.le_of_lt Q) fL));clear M
       go_wp2
       refine⟨⟨fN Q H.size,gk H ai⟩,?_⟩;refine EC (i:=6) (k:=7) ga rfl rfl ?_ ?_
       · intro B l ⟨P,af⟩
         have N:=gg (gj ad.o l);clear ad;have ac:=gg (gy aE.o l);clear aE;have O:=gg (fO ao.o (l).size);clear ao;have aM:=gg (gy O3.o l);clear O3
         go_wp2
         refine⟨⟨P,af⟩,?_⟩;refine js (i:=7) ga rfl ?_
         intro G d ⟨R,T⟩;have ab:=gg (gj N.o d);clear N;have U:=gg (gy ac.o d);clear ac;have Z:=gg (fO O.o (d).size);clear O;have X:=gg (gy aM.o d);clear aM
         go_wp2
         have bA:=gg (gj ab.o (gr G (d_ #[a_ none 0 0,a_ none 0 0,a_ none 0 0] 33)));clear ab;have bu:=gg (gy U.o (gr G (d_ #[a_ none 0 0,a_ none 0 0,a_ none 0 0] 33)));clear U;have bp:=gg (fO Z.o ((gr G (d_ #[a_ none 0 0,a_ none 0 0,a_ none 0 0] 33))).size);clear Z;have bk:=gg (gy X.o (gr G (d_ #[a_ none 0 0,a_ none 0 0,a_ none 0 0] 33)));clear X;have HQ:=gg (gH G (d_ #[a_ none 0 0,a_ none 0 0,a_ none 0 0] 33));have aa:gi (w.heap.size≤G.heap.size):=gg (Nat.le_of_lt R);have ap:w.heap.size<G.heap.size:=R;refine⟨⟨fN R (gr G (d_ #[a_ none 0 0,a_ none 0 0,a_ none 0 0] 33)).size,gk (gr G (d_ #[a_ none 0 0,a_ none 0 0,a_ none 0 0] 33)) T⟩,?_⟩;refine js (i:=8) ga rfl ?_
         intro w5 t ⟨aq,av⟩;have aw:=gg (gj bA.o t);clear bA;have aB:=gg (gy bu.o t);clear bu;have bb:=gg (fO bp.o (t).size);clear bp;have au:=gg (gy bk.o t);clear bk;have a:=gg (gk t HQ.o);clear HQ;have C:=gg (aa.o);clear aa;obtain⟨q0,q1,q2⟩:=iv a.o;have g0:=gC a.o 0;have g1:=gC a.o 1;have g2:=gC a.o 2
         go_wp2
         have Y:=gg (sI (a_ D s I) (a_ none 0 0) (a_ F f E) aB.o a.o fZ);have V:=gg (sI (a_ D s I) (a_ none 0 0) (a_ F f E) au.o a.o fZ);have S:=gg (kt (x:=a_ D s I) (y:=a_ none 0 0) (z:=a_ F f E) aw.o C.o);have K:=gg (jT (x:=a_ D s I) (y:=a_ none 0 0) (z:=a_ F f E) a.o);refine⟨⟨by simp only[kj];exact aq,((K.o).2 w.heap.size (by have:=C.o;have:=ap;omega)).trans av⟩,?_⟩;have W:=gg (K.o).1;clear q0 q1 q2 g0 g1 g2 K;refine od ga ?_
         intro w6 A hc;have aC:=gg (gj S.o A);clear S;have ay:=gg (gy Y.o A);clear Y;have az:=gg (gy V.o A);clear V;have aA:=gg (gk A W.o);clear W;have aD:=gg (C.o);clear C
         go_wp2
         go_meet
         case rel=>exact⟨_,_,_,rfl,D5 aA.o (aD.o) ay.o az.o (Bv aS.o aF.o f_),hc.2,aC.o⟩
       · intro B l ⟨P,af⟩
         have N:=gg (gj ad.o l);clear ad;have ac:=gg (gy aE.o l);clear aE;have O:=gg (fO ao.o (l).size);clear ao;have aM:=gg (gy O3.o l);clear O3
         go_wp2
         have am:=gg (gj N.o (gr B (d_ #[a_ none 0 0,a_ none 0 0,a_ none 0 0] 33)));clear N;have al:=gg (gy ac.o (gr B (d_ #[a_ none 0 0,a_ none 0 0,a_ none 0 0] 33)));clear ac;have aj:=gg (fO O.o ((gr B (d_ #[a_ none 0 0,a_ none 0 0,a_ none 0 0] 33))).size);clear O;have bi:=gg (gy aM.o (gr B (d_ #[a_ none 0 0,a_ none 0 0,a_ none 0 0] 33)));clear aM;have HQ:=gg (gH B (d_ #[a_ none 0 0,a_ none 0 0,a_ none 0 0] 33));have aa:gi (w.heap.size≤B.heap.size):=gg (Nat.le_of_lt P);have ap:w.heap.size<B.heap.size:=P;refine⟨⟨fN P (gr B (d_ #[a_ none 0 0,a_ none 0 0,a_ none 0 0] 33)).size,gk (gr B (d_ #[a_ none 0 0,a_ none 0 0,a_ none 0 0] 33)) af⟩,?_⟩;refine js (i:=6) ga rfl ?_
         intro G d ⟨R,T⟩;have ab:=gg (gj am.o d);clear am;have U:=gg (gy al.o d);clear al;have Z:=gg (fO aj.o (d).size);clear aj;have X:=gg (gy bi.o d);clear bi;have ak:=gg (gk d HQ.o);clear HQ;have an:=gg (aa.o);clear aa
         go_wp2
         refine⟨⟨R,T⟩,?_⟩;refine js (i:=8) ga rfl ?_
         intro w5 t ⟨aq,av⟩;have aw:=gg (gj ab.o t);clear ab;have aB:=gg (gy U.o t);clear U;have bb:=gg (fO Z.o (t).size);clear Z;have au:=gg (gy X.o t);clear X;have a:=gg (gk t ak.o);clear ak;have C:=gg (an.o);clear an;obtain⟨q0,q1,q2⟩:=iv a.o;have g0:=gC a.o 0;have g1:=gC a.o 1;have g2:=gC a.o 2
         go_wp2
         have Y:=gg (sI (a_ D s I) (a_ none 0 0) (a_ F f E) aB.o a.o fZ);have V:=gg (sI (a_ D s I) (a_ none 0 0) (a_ F f E) au.o a.o fZ);have S:=gg (kt (x:=a_ D s I) (y:=a_ none 0 0) (z:=a_ F f E) aw.o C.o);have K:=gg (jT (x:=a_ D s I) (y:=a_ none 0 0) (z:=a_ F f E) a.o);refine⟨⟨by simp only[kj];exact aq,((K.o).2 w.heap.size (by have:=C.o;have:=ap;omega)).trans av⟩,?_⟩;have W:=gg (K.o).1;clear q0 q1 q2 g0 g1 g2 K;refine od ga ?_
         intro w6 A hc;have aC:=gg (gj S.o A);clear S;have ay:=gg (gy Y.o A);clear Y;have az:=gg (gy V.o A);clear V;have aA:=gg (gk A W.o);clear W;have aD:=gg (C.o);clear C
         go_wp2
         go_meet
         case rel=>exact⟨_,_,_,rfl,D5 aA.o (aD.o) ay.o az.o (Bv aS.o aF.o f_),hc.2,aC.o⟩
     · intro w2 ae ⟨Q,ai⟩
       have ag:=gg (gj ax.o ae);clear ax;have aN:=gg (gy O1.o ae);clear O1;have aJ:=gg (fO S1.o (ae).size);clear S1
       go_wp2
       have ad:=gg (gj ag.o (gr w2 (d_ #[a_ none 0 0,a_ none 0 0,a_ none 0 0] 33)));clear ag;have aE:=gg (gy aN.o (gr w2 (d_ #[a_ none 0 0,a_ none 0 0,a_ none 0 0] 33)));clear aN;have ao:=gg (fO aJ.o ((gr w2 (d_ #[a_ none 0 0,a_ none 0 0,a_ none 0 0] 33))).size);clear aJ;have HQ:=gg (gH w2 (d_ #[a_ none 0 0,a_ none 0 0,a_ none 0 0] 33));have aa:gi (w.heap.size≤w2.heap.size):=gg (Nat.le_of_lt Q);have ap:w.heap.size<w2.heap.size:=Q;refine⟨⟨fN Q (gr w2 (d_ #[a_ none 0 0,a_ none 0 0,a_ none 0 0] 33)).size,gk (gr w2 (d_ #[a_ none 0 0,a_ none 0 0,a_ none 0 0] 33)) ai⟩,?_⟩;refine js (i:=5) ga rfl ?_
       intro B l ⟨P,af⟩;have N:=gg (gj ad.o l);clear ad;have ac:=gg (gy aE.o l);clear aE;have O:=gg (fO ao.o (l).size);clear ao;have aQ:=gg (gk l HQ.o);clear HQ;have aT:=gg (aa.o);clear aa
       go_wp2_with fail
       refine(pD (a_ a3 f c3) f _ _ (H3.o.below N.o) f_).mono ?_
       rintro e v3 ⟨r3,rfl,M,J⟩;obtain⟨F,E,rfl⟩:=gN M;have aF:=gg M;have bo:=J.size;have br:=(O).o;have am:=gg (gj N.o J);clear N;have al:=gg (gy ac.o J);clear ac;have aj:=gg (fO O.o (J).size);clear O;have aL:=gg (gk J aQ.o);clear aQ;have aO:=gg (aT.o);clear aT;have O3:=gg (jW M (fO (Nat.le_of_lt P) fL));clear M
       go_wp2
       refine⟨⟨fN P J.size,gk J af⟩,?_⟩;refine js (i:=6) ga rfl ?_
       intro G d ⟨R,T⟩;have ab:=gg (gj am.o d);clear am;have U:=gg (gy al.o d);clear al;have Z:=gg (fO aj.o (d).size);clear aj;have ak:=gg (gk d aL.o);clear aL;have an:=gg (aO.o);clear aO;have X:=gg (gy O3.o d);clear O3
       go_wp2
       refine⟨⟨R,T⟩,?_⟩;refine js (i:=8) ga rfl ?_
       intro w5 t ⟨aq,av⟩;have aw:=gg (gj ab.o t);clear ab;have aB:=gg (gy U.o t);clear U;have bb:=gg (fO Z.o (t).size);clear Z;have a:=gg (gk t ak.o);clear ak;have C:=gg (an.o);clear an;have au:=gg (gy X.o t);clear X;obtain⟨q0,q1,q2⟩:=iv a.o;have g0:=gC a.o 0;have g1:=gC a.o 1;have g2:=gC a.o 2
       go_wp2
       have Y:=gg (sI (a_ D s I) (a_ none 0 0) (a_ F f E) aB.o a.o fZ);have V:=gg (sI (a_ D s I) (a_ none 0 0) (a_ F f E) au.o a.o fZ);have S:=gg (kt (x:=a_ D s I) (y:=a_ none 0 0) (z:=a_ F f E) aw.o C.o);have K:=gg (jT (x:=a_ D s I) (y:=a_ none 0 0) (z:=a_ F f E) a.o);refine⟨⟨by simp only[kj];exact aq,((K.o).2 w.heap.size (by have:=C.o;have:=ap;omega)).trans av⟩,?_⟩;have W:=gg (K.o).1;clear q0 q1 q2 g0 g1 g2 K;refine od ga ?_
       intro w6 A hc;have aC:=gg (gj S.o A);clear S;have ay:=gg (gy Y.o A);clear Y;have aA:=gg (gk A W.o);clear W;have aD:=gg (C.o);clear C;have az:=gg (gy V.o A);clear V
       go_wp2
       go_meet
       case rel=>exact⟨_,_,_,rfl,D5 aA.o (aD.o) ay.o az.o (Bv aS.o aF.o f_),hc.2,aC.o⟩
   · intro w1 a7 ⟨ar,aH⟩
     have aI:=gg (gj a6.o a7);clear a6
     go_wp2
     have ax:=gg (gj aI.o (gr w1 (d_ #[a_ none 0 0,a_ none 0 0,a_ none 0 0] 33)));clear aI;have HQ:=gg (gH w1 (d_ #[a_ none 0 0,a_ none 0 0,a_ none 0 0] 33));have aa:gi (w.heap.size≤w1.heap.size):=gg (Nat.le_of_lt ar);have ap:w.heap.size<w1.heap.size:=ar;refine⟨⟨fN ar (gr w1 (d_ #[a_ none 0 0,a_ none 0 0,a_ none 0 0] 33)).size,gk (gr w1 (d_ #[a_ none 0 0,a_ none 0 0,a_ none 0 0] 33)) aH⟩,?_⟩;refine js (i:=2) ga rfl ?_
     intro w2 ae ⟨Q,ai⟩;have ag:=gg (gj ax.o ae);clear ax;have bs:=gg (gk ae HQ.o);clear HQ;have bl:=gg (aa.o);clear aa
     go_wp2_with fail
     refine(pD (a_ a1 s c1) s _ _ (H1.o.below ag.o) f_).mono ?_
     rintro e v2 ⟨r1,rfl,ah,H⟩;obtain⟨D,I,rfl⟩:=gN ah;have aS:=gg ah;have bE:=H.size;have ad:=gg (gj ag.o H);clear ag;have bm:=gg (gk H bs.o);clear bs;have bn:=gg (bl.o);clear bl;have O1:=gg (jW ah (fO (Nat.le_of_lt Q) fL));clear ah;have S1:gi (v2.heap.size≤v2.heap.size):=gg fL
     go_wp2
     refine⟨⟨fN Q H.size,gk H ai⟩,?_⟩;refine js (i:=5) ga rfl ?_
     intro B l ⟨P,af⟩;have N:=gg (gj ad.o l);clear ad;have aQ:=gg (gk l bm.o);clear bm;have aT:=gg (bn.o);clear bn;have ac:=gg (gy O1.o l);clear O1;have O:=gg (fO S1.o (l).size);clear S1
     go_wp2_with fail
     refine(pD (a_ a3 f c3) f _ _ (H3.o.below N.o) f_).mono ?_
     rintro e v3 ⟨r3,rfl,M,J⟩;obtain⟨F,E,rfl⟩:=gN M;have aF:=gg M;have bo:=J.size;have br:=(O).o;have am:=gg (gj N.o J);clear N;have aL:=gg (gk J aQ.o);clear aQ;have aO:=gg (aT.o);clear aT;have al:=gg (gy ac.o J);clear ac;have aj:=gg (fO O.o (J).size);clear O;have O3:=gg (jW M (fO (Nat.le_of_lt P) fL));clear M
     go_wp2
     refine⟨⟨fN P J.size,gk J af⟩,?_⟩;refine js (i:=6) ga rfl ?_
     intro G d ⟨R,T⟩;have ab:=gg (gj am.o d);clear am;have ak:=gg (gk d aL.o);clear aL;have an:=gg (aO.o);clear aO;have U:=gg (gy al.o d);clear al;have Z:=gg (fO aj.o (d).size);clear aj;have X:=gg (gy O3.o d);clear O3
     go_wp2
     refine⟨⟨R,T⟩,?_⟩;refine js (i:=8) ga rfl ?_
     intro w5 t ⟨aq,av⟩;have aw:=gg (gj ab.o t);clear ab;have a:=gg (gk t ak.o);clear ak;have C:=gg (an.o);clear an;have aB:=gg (gy U.o t);clear U;have bb:=gg (fO Z.o (t).size);clear Z;have au:=gg (gy X.o t);clear X;obtain⟨q0,q1,q2⟩:=iv a.o;have g0:=gC a.o 0;have g1:=gC a.o 1;have g2:=gC a.o 2
     go_wp2
     have Y:=gg (sI (a_ D s I) (a_ none 0 0) (a_ F f E) aB.o a.o fZ);have V:=gg (sI (a_ D s I) (a_ none 0 0) (a_ F f E) au.o a.o fZ);have S:=gg (kt (x:=a_ D s I) (y:=a_ none 0 0) (z:=a_ F f E) aw.o C.o);have K:=gg (jT (x:=a_ D s I) (y:=a_ none 0 0) (z:=a_ F f E) a.o);refine⟨⟨by simp only[kj];exact aq,((K.o).2 w.heap.size (by have:=C.o;have:=ap;omega)).trans av⟩,?_⟩;have W:=gg (K.o).1;clear q0 q1 q2 g0 g1 g2 K;refine od ga ?_
     intro w6 A hc;have aC:=gg (gj S.o A);clear S;have aA:=gg (gk A W.o);clear W;have aD:=gg (C.o);clear C;have ay:=gg (gy Y.o A);clear Y;have az:=gg (gy V.o A);clear V
     go_wp2
     go_meet
     case rel=>exact⟨_,_,_,rfl,D5 aA.o (aD.o) ay.o az.o (Bv aS.o aF.o f_),hc.2,aC.o⟩
 case rest=>
  obtain⟨q,wv,rv,rfl,aR,bd,hB⟩:=hcut;obtain⟨k0,k1,k2⟩:=iv bd;have HO:=gg aR;have HP:=gg bd;have HB:=gg hB;clear aR bd hB
  go_wp2
  go_loopw [16] (fun i wr=>∃ (k:Nat) (pv:Value) (rs:List Value),k≤n2∧i =b_ c_ k∧gE wr w.heap.size q 33 ⟨m.words,m.pend.take k,m.res⟩ wv pv rv rs∧Up w wr) (fun i _=>n2 - (intOf i).toNat)
  case atStart=>exact⟨0,_,_,fM,rfl,by simpa using HO.o,HB.o⟩
  case round=>
   obtain⟨k,pv,rs,hk,rfl,aR,bq⟩:=hrel;have aZ:=gg aR;have aU:=gg bq;clear aR bq;by_cases aG:k<n2
   · obtain⟨b,o,c,e2,H,hc2,bG,bv⟩:=(H2.o.below aU.o).some f_
     injection e2 with e3 e4 e5
     subst e3 e5;have bj:k<m.pend.length:=by rw[bw.o];exact aG
     have bT:k<aK.length:=by rw[H4.o.1];exact bj
     have aY:=(H4.o.2 k aK[k] m.pend[k] gb gb);obtain⟨ra,rc,bz⟩:=gN aY;have bO:=bv k aK[k] gb;rw[bz] at bO aY;have HR:=gg (gl.own aY (tI _));have b2:=HS.o m.pend[k] gb;unfold maxLen at bG;clear bv bz aY;have bD:gi (m.pend.take (k+1)=m.pend.take k ++ [m.pend[k]]):=gg (fP bj);have bt:gi ((m.pend.take k).length=k):=gg (by simp;omega);generalize m.pend[k]=L at *
     go_wp2
     refine fY (fun w'=>q<w'.heap.size∧w'.heap[q]? = some (d_ #[wv,pv,rv] 33 (0,0))) 6 [true,true,true] (fun w1 w2 h hu=>⟨fN h.1 hu.size,iE hu h.1 h.2⟩) ⟨gn aZ.o.at_,aZ.o.at_⟩ ?a2 ?h2 ?ht2
     case h2=>
      intro w0 ⟨aG,aP⟩;obtain⟨k0,k1,k2⟩:=iv aP;have D:=fun x=>gD aG k1 x
      clear k0 k1 k2 aP;simp only[jd];repeat(go_big_quiet_step (fail))
      refine wpQuiet_nil ?_
      rfl
     case ht2=>
      change kD _ _ _ _ _ _ 3 _ _ _;refine jQ (i:=3) ga fZ rfl ?_
      intro w1 a7 ⟨ar,aH⟩;have bf:Up wr w1:=zB;have O1:=gg (aZ.o.below bf);have B1:gi (Up w w1):=gg (gj aU.o bf);clear bf
      go_wp2_with fail
      refine(Hj _ _ _ _ (HR.o.below B1.o) f_).mono ?_
      rintro e w2 ⟨r,rfl,a9,H⟩;obtain⟨xr,yr,rfl⟩:=gN a9;have bJ:=gg a9;clear a9;have ai:=gk H aH;have Q:=gn ai;have B2:=gg H;clear H
      go_wp2
      refine⟨⟨Q,ai⟩,?_⟩;refine jQ (i:=4) ga fZ rfl ?_
      intro B l ⟨P,af⟩;have B3:=gg (gj B2.o l);have bB:=gg (gy bJ.o l);clear l Q ai
      go_wp2
      refine⟨⟨by simp;omega,gk (gr B _) af⟩,?_⟩;refine jQ (i:=5) ga fZ rfl ?_
      intro G d ⟨R,T⟩;have bh:G.cell? ⟨B.heap.size,0,none⟩=some (a_ xr L.length yr):=gv (gk d (gH B _)) rfl;have bc:Up B G:=gj (gr B _) d;have B4:=gg (gj B3.o bc);have bK:=gg (gy bB.o bc);have O4:=gg (O1.o.below B4.o)
      have bN:gi (∀ j u,[a_ xr L.length yr][j]? = some u→G.cell? ((⟨B.heap.size,0,none⟩:Addr).add j)=some u):=gg (fun j u hj=>by
       have:j=0:=by
        have:=(fR hj).1;simp at this;exact this
       subst this;simp at hj;subst hj;rw[kx];exact bh)
      have bL:w.heap.size≤G.heap.size:=(gj B1.o B4.o).size;clear d bc bh;have aV:gi (G.ownsRow w.heap.size 57 1 pv k rs):=gg (by have:=O4.o.pend;simp only at this;rwa [bt.o] at this);obtain⟨xp,yp,rfl⟩:=gN aV.o;have bP:(k+1)*24≤140737488355328:=by omega
      have bC:k+1≤maxLen:=by unfold maxLen;omega
      refine wpList_append_own _ rfl _ _ 31 rfl w.heap.size 57 i0 (a_ none 0 0) 1 24 Tryz.underlying31 hi bI bM bH rfl fZ _ _ _ rfl aV.o ⟨B.heap.size,0,none⟩ 1 1 [a_ xr L.length yr] rfl rfl bN.o (by simp[Value.oneCell']) bC bP bL ?_
      intro v' w5 be bx _;obtain⟨xv,yv,rfl⟩:=gN be;have bQ:=gg be;have a8:=gg bx;clear be bx
      have bg:w5.heap[q]? = some (d_ #[wv,a_ xp k yp,rv] 33 (0,0)):=by
       rw[a8.o.block q R (fun e=>gS aV.o T fZ e.symm)];exact T
      go_wp2
      refine⟨⟨gn bg,bg⟩,?_⟩;refine lR ga ?_
      intro w6 A ⟨bR,aX⟩;obtain⟨k0,k1,k2⟩:=iv aX;have f1:=gC aX 1;have ba:=gg A;have bW:=gg aX;clear A aX bg k0 k2 aH af T;have P6:=gg (O1.o.push fZ fZ fZ B4.o bK.o (pv':=a_ xv (k+1) yv) (w2:=w6) (by have:=gy bQ.o ba.o;simpa[bt.o] using this) (BA a8.o a8.o.size ba.o) B1.o.size);simp only[List.drop_succ_cons,List.drop_zero]
      go_wp2
      go_roundw
      case rel=>exact⟨k+1,_,_,by omega,by go_num,by rw[bD.o];exact P6.o,(gO (gj (yY (gj B1.o B4.o) a8.o (by intro g e;exact(aV.o.lt g e).1)) ba.o) HO.o.base _)⟩
      case measure=>simp[intOf];omega
   · have bF:k=n2:=by omega
     subst bF
     have O7:gi (gE wr w.heap.size q 33 m wv pv rv rs):=gg (by
      have:=aZ.o;rw[←bw.o,List.take_length] at this;exact this)
     obtain⟨bV,bY,rfl⟩:=gN O7.o.words;obtain⟨b1,bZ,rfl⟩:=gN O7.o.pend;obtain⟨bU,bX,rfl⟩:=gN O7.o.res;obtain⟨k0,k1,k2⟩:=iv O7.o.at_
     go_wp2
     go_ret;exact⟨_,_,_,_,_,rfl,O7.o.move (gH wr _) aU.o.size (gr wr _),iS aU.o _⟩
theorem tD {w:World} {B e n g c:Nat} {xs} (h:w.ownsRow B e 1 (a_ (some ⟨g,0,none⟩) n c) n xs) {k} {u} (a:xs[k]? = some u):w.cell? ⟨g,k,none⟩=some u∧w.frozen? ⟨g,k,none⟩=false:=by
 have d:k<n*1:=by
  have:=(fR a).1;rw[h.1] at this;exact this
 refine⟨by rw[h.cellAt k d,a],?_⟩;obtain⟨f,b⟩:=pE h (g:=g) rfl;exact gC b k
theorem EQ B p m H P N j (h a n:Int) w (f:gE w B p 187 m H P N j) (I:jC m) (Y:0≤a∧a<m.words.length) :
 Calls gd 168 #[fG (some ⟨p,0,none⟩),b_ c_ h,b_ c_ a,b_ c_ n] w fun e w'=>e =fH (fI #[])∧gE w' B p 187 (km m h a n) H P N j∧Below B w w':=by
 obtain⟨s,t,rfl⟩:=gN f.pend;obtain⟨E,l,rfl⟩:=gN f.res;obtain⟨g,c,rfl,hc1,hc2⟩:=pB f.words f_;have Q:B≤g:=(f.words.lt g rfl).1;obtain⟨b,ad,U⟩:∃ k:Nat,a=k∧k<m.words.length:=⟨a.toNat,by omega,by omega⟩;subst ad;have sw:=I.words;have sr:=I.res;unfold maxLen at hc2;obtain⟨q1,q2⟩:=tD f.words (En m.words b U);obtain⟨p0,p1,p2⟩:=iv f.at_;have L:=gg (f.setWord fZ rfl b n);have Z:gi (Below B w (w.setCell ⟨g,b,none⟩ (b_ c_ n))):=gg (lD Q fK);obtain⟨r0,r1,r2⟩:=iv L.o.at_;clear f Y;generalize m.words[b]=was at *
 generalize S:m.words.length=n1 at *
 generalize W:m.pend.length=n2 at *
 generalize O:m.res.length=n3 at *
 have A:=gg O;clear S W O;go_in
 go_wp2
 go_loopw [24,8,9] (fun i _ _ wr=>∃ k:Nat,k≤n3∧i =b_ c_ k∧gE wr B p 187 ⟨m.words.set b n,m.pend,kJ h b k m.res⟩ (a_ (some ⟨g,0,none⟩) n1 c) (a_ s n2 t) (a_ E n3 l) j∧Below B w wr) (fun i _ _ _=>n3 - (intOf i).toNat)
 case atStart=>exact⟨0,fM,rfl,L.o,Z.o⟩
 case round=>
  obtain⟨k,d,rfl,f,v⟩:=hrel;have q:=gg f;have z:=gg v;clear f v;obtain⟨t0,t1,t2⟩:=iv q.o.at_;by_cases ac:k<n3
  · have M:k<m.res.length:=by rw[A.o];exact ac
    have F:=tp h b k m.res M;have T:gi ((kJ h b k m.res).length=n3):=gg (by rw[qF];exact A.o);have D:gi (wr.ownsRow B 3 1 (a_ E n3 l) n3 (gz (kJ h b k m.res))):=gg (by have:=q.o.res;simp only at this;rwa [T.o] at this);obtain⟨o,c3,V,ae,R⟩:=pB D.o f_;injection V with e4 _ e5
    subst e4 e5;have aa:B≤o:=(D.o.lt o rfl).1;unfold maxLen at R;obtain⟨u1,u2⟩:=tD D.o (k:=k) (u:=b_ c_ m.res[k]) (by simp[gz,F]);have C:=gg (Ja h b k m.res M);have K:=gg (qN (kJ h b k m.res) k m.res[k] F);have J:=fun x=>q.o.setResv fZ (g:=o) (n:=n3) (c:=l) rfl k x
    have ab:=gg J;clear J F;generalize m.res[k]=r at *
    by_cases d:(k:Int)=h
    · have e:gi (gE wr B p 187 ⟨m.words.set b n,m.pend,kJ h b (k+1) m.res⟩ (a_ (some ⟨g,0,none⟩) n1 c) (a_ s n2 t) (a_ (some ⟨o,0,none⟩) n3 l) j):=gg (by
       rw[C.o,if_neg (by simp[d]),K.o];exact q.o)
      have G:=gg d;clear d
      go_wp2
      go_roundw
      case rel=>exact⟨k+1,by omega,by go_num,e.o,z.o⟩
      case measure=>simp[intOf];omega
    · have v:((k:Int) != h)=true:=by simp[d]
      cases y:(r == (b:Int))
      · have e:gi (gE wr B p 187 ⟨m.words.set b n,m.pend,kJ h b (k+1) m.res⟩ (a_ (some ⟨g,0,none⟩) n1 c) (a_ s n2 t) (a_ (some ⟨o,0,none⟩) n3 l) j):=gg (by
         rw[C.o,if_neg (by simp at y;simp[y]),K.o];exact q.o)
        have G:=gg d;clear d
        go_wp2
        go_roundw
        case rel=>exact⟨k+1,by omega,by go_num,e.o,z.o⟩
        case measure=>simp[intOf];omega
      · have e:gi (gE (wr.setCell ⟨o,k,none⟩ (b_ c_ (-1))) B p 187 ⟨m.words.set b n,m.pend,kJ h b (k+1) m.res⟩ (a_ (some ⟨g,0,none⟩) n1 c) (a_ s n2 t) (a_ (some ⟨o,0,none⟩) n3 l) j):=gg (by
         rw[C.o,if_pos (by simp at y;simp[y,d])];exact ab.o (-1))
        have G:=gg d;clear d
        go_wp2
        go_roundw
        case rel=>exact⟨k+1,by omega,by go_num,e.o,lD aa z.o⟩
        case measure=>simp[intOf];omega
  · have X:k=n3:=by omega
    subst X
    have e:gi (gE wr B p 187 (km m h b n) (a_ (some ⟨g,0,none⟩) n1 c) (a_ s n2 t) (a_ E k l) j):=gg (by
     have:=q.o;rw[←A.o,qE] at this;exact(by rw[←A.o];exact this))
    go_wp2
    go_end0
    exact⟨rfl,e.o,z.o⟩
theorem Mk l (k):gW (l.eraseIdx k)=(gW l).take (k*2) ++ (gW l).drop ((k+1)*2):=by
 rw[List.eraseIdx_eq_take_drop_succ,Fc,Nv,Nw]
theorem Hk b o c ty w e a (h:w.cell? ⟨b,o,none⟩=some e) (g:w.frozen? ⟨b,o,none⟩=false) (i:w.cell? ⟨b,o+1,none⟩=some a) (d:w.frozen? ⟨b,o+1,none⟩=false) :
 (Builtin.clear_ #[57] ty #[a_ (some ⟨b,o,none⟩) 1 c]).run gd w = .ok (fI #[]) ((w.setCell ⟨b,o,none⟩ (b_ c_ 0)).setCell ⟨b,o+1,none⟩ (b_ c_ 0)):=by
 obtain⟨k,j,f,l,m⟩:=info_parts BN;simp[Builtin.clear_,run_underlying Tryz.underlying57,zeroValue,typeInfo,j,f,Builtin.zeroCells,storeCells,Value.cells,kx,go_sem,h,g,i,d]
theorem xc {w:World} {B e s n g c:Nat} {xs} (h:w.ownsRow B e s (a_ (some ⟨g,0,none⟩) n c) n xs):∃ a:Array Value,w.heap[g]? = some (d_ a e (0,0))∧B≤g∧n≤c∧c≤maxLen∧a.size=c*s∧a.toList.take (n*s)=xs:=by
 rcases h.2 with⟨b,_⟩|⟨m,o,a,b,l,d,j,i,f,k⟩
 · simp at b
 · simp only[a_.injEq,Option.some.injEq,Addr.mk.injEq,and_true,true_and] at b
   obtain⟨rfl,rfl⟩:=b;exact⟨a,d,l,j,i,f,k⟩
def nD (a:Array Value) (l:List (Int×Int)) (k:Nat):Array Value:=(a.toList.take (k*2) ++ (gW l).drop ((k+1)*2) ++ a.toList.drop (k*2+((gW l).drop ((k+1)*2)).length)).toArray
theorem Gf {a l k m c} (hl:l.length=k+1+m) (d:a.size=c*2) (b:k+1+m≤c):(nD a l k).size=c*2:=by
 unfold nD;simp only[List.size_toArray,List.length_append,List.length_take,List.length_drop,AV,Array.length_toList];omega
theorem vG {a l k m c} (hl:l.length=k+1+m) (e:a.size=c*2) (d:k+1+m≤c) (b:a.toList.take ((k+1+m)*2)=gW l):(nD a l k).toList.take ((k+m)*2)=gW (l.eraseIdx k):=by
 have h1:a.toList.take (k*2)=(gW l).take (k*2):=by
  rw[←b,List.take_take];congr 1;omega
 unfold nD;rw[List.take_append_of_le_length (by simp only[List.length_append,List.length_take,List.length_drop,AV,Array.length_toList];omega)];rw[h1,←Mk];apply List.take_of_length_le;rw[AV,List.length_eraseIdx];split <;> omega
theorem Je {w:World} {B g c k m a l} (e:w.heap[g]? = some (d_ a 127 (0,0))) (h:B≤g) (hl:l.length=k+1+m) (d:a.size=c*2) (b:k+1+m≤c) (i:c≤maxLen)
 (f:a.toList.take ((k+1+m)*2)=gW l):(w.setRow g (nD a l k)).ownsRow B 127 2 (a_ (some ⟨g,0,none⟩) (k+m) c) (k+m) (gW (l.eraseIdx k)):=by
 refine⟨?_,.inr ⟨g,c,nD a l k,rfl,h,setRow_heap _ _ _ _ _ _ e,by omega,i,Gf hl d b,vG hl d b f⟩⟩;rw[AV,List.length_eraseIdx];split <;> omega
theorem EA {w:World} {B e s n g c:Nat} {xs} (h:w.ownsRow B e s (a_ (some ⟨g,0,none⟩) n c) n xs) (j) (u) (a:n*s≤j):(w.setCell ⟨g,j,none⟩ u).ownsRow B e s (a_ (some ⟨g,0,none⟩) n c) n xs:=by
 have:=(World.ownsRow.stored h j u).1
 rwa [List.set_eq_of_length_le (by rw[h.1];exact a)] at this
theorem LD B g c k m l w (hl:l.length=k+1+m) (L:w.ownsRow B 127 2 (a_ (some ⟨g,0,none⟩) (k+1+m) c) (k+1+m) (gW l)) (hm:k+1+m≤1000) :
 Calls gd 169 #[a_ (some ⟨g,0,none⟩) (k+1+m) c,b_ c_ k,b_ c_ (k+1)] w fun e w'=>e =fH (a_ (some ⟨g,0,none⟩) (k+m) c) ∧
  w'.ownsRow B 127 2 (a_ (some ⟨g,0,none⟩) (k+m) c) (k+m) (gW (l.eraseIdx k))∧(∀ b,b<w.heap.size→b≠g→w'.heap[b]? = w.heap[b]?)∧Below B w w':=by
 obtain⟨a,Q,o,H,M,S,T⟩:=xc L;obtain⟨R,U,ab,x,aa⟩:=info_parts BN;unfold maxLen at M;have I:=gg Q;have Z:=gg L;have N:=gg T;have v:=gg S;have i:=gg hl;clear Q L T S hl;by_cases V:c=k+1
 · have X:m=0:=by omega
   subst V X;go_in
   go_wp2
   refine fY (fun _=>True) 6 [true,true,true,true,true,true] (fun _ _ _ _=>trivial) trivial ?a2 ?h2 ?ht2
   case h2=>
    intro w0 _;simp only[jd];repeat(go_big_quiet_step (fail))
    refine wpQuiet_nil ?_
    rfl
   case ht2=>
    change kD _ _ _ _ _ _ 0 _ _ _;refine lR ga ?_
    intro w1 f _;have n:=gk f (show w.drew.heap[g]? = _ from I.o);have A:=gg n
    have p:=run_append_room (P:=gd) w1 57 57 127 R Tryz.underlying57 U g k (k+1) a n ⟨g,0,none⟩ 0 (k+1 - (k+1)) ((gW l).drop ((k+1)*2)) (by rw[List.length_drop,AV,x,i.o];omega)
     (fun j u r=>by have:=(fR r).1;rw[List.length_drop,AV,i.o] at this;omega) (fun u K=>tI l u (List.mem_of_mem_drop K)) f_ (by rw[x,List.length_drop,AV,i.o,v.o];omega)
    rw[x] at p;have z:=gg p;clear p n;have D:=gg (Je (w:=w1) A.o o i.o v.o H (by unfold maxLen;exact M) N.o);have d:=gg (setRow_heap w1 g a (nD a l k) 127 (0,0) A.o);have y:=gg (fun b (q:b≠g)=>setRow_other w1 g b (nD a l k) q);have E:gi (Below B w (w1.setRow g (nD a l k))):=gg (below_setRow ((Below.refl B w).drew.trans (f.mono (show B≤w.heap.size by have:=gn I.o;omega))) o _);have G:=gg (Gf i.o v.o H);have O:=gg f;clear f;refine Ft rfl _ _ _ _ rfl _ _ _ _ rfl rfl z.o ?_
    change wpList _ _ _ _ _ (w1.setRow g (nD a l k));obtain⟨w2,t⟩:∃ w2,w1.setRow g (nD a l k)=w2:=⟨_,rfl⟩;rw[t] at D d y E;rw[t];clear t z;have C:(nD a l k)[k*2]? = some ((nD a l k)[k*2]'(by rw[G.o];omega)):=by simp
    have F:(nD a l k)[k*2+1]? = some ((nD a l k)[k*2+1]'(by rw[G.o];omega)):=by simp
    have W:=fun J=>Hk g (k*2) J 0 w2 _ _ (gv d.o C) (gC d.o _) (gv d.o F) (gC d.o _)
    go_wp2
    go_ret;exact⟨rfl,EA (EA D.o _ _ fL) _ _ f_,fun b q s=>by rw[iY s,iY s,y.o b s];exact O.o.block b q,lD o (lD o E.o)⟩
 · go_in
   go_wp2
   refine fY (fun _=>True) 6 [true,true,true,true,true,true] (fun _ _ _ _=>trivial) trivial ?a' ?h ?ht
   case h=>
    intro w0 _;simp only[jd];repeat(go_big_quiet_step (fail))
    refine wpQuiet_nil ?_
    rfl
   case ht=>
    change kD _ _ _ _ _ _ 0 _ _ _;refine lR ga ?_
    intro w1 f _;have n:=gk f (show w.drew.heap[g]? = _ from I.o);have A:=gg n
    have p:=run_append_room (P:=gd) w1 57 57 127 R Tryz.underlying57 U g k c a n ⟨g,(k+1)*2,none⟩ m (c - (k+1)) ((gW l).drop ((k+1)*2)) (by rw[List.length_drop,AV,x,i.o];omega)
     (fun j u r=>by
      rw[kx];rw[List.getElem?_drop] at r;refine gv n ?_
      rw[←N.o,List.getElem?_take] at r;split at r
      · simpa using r
      · cases r) (fun u K=>tI l u (List.mem_of_mem_drop K)) f_ (by rw[x,List.length_drop,AV,i.o,v.o];omega)
    rw[x] at p;have z:=gg p;clear p n;have D:=gg (Je (w:=w1) A.o o i.o v.o H (by unfold maxLen;exact M) N.o);have d:=gg (setRow_heap w1 g a (nD a l k) 127 (0,0) A.o);have y:=gg (fun b (q:b≠g)=>setRow_other w1 g b (nD a l k) q);have E:gi (Below B w (w1.setRow g (nD a l k))):=gg (below_setRow ((Below.refl B w).drew.trans (f.mono (show B≤w.heap.size by have:=gn I.o;omega))) o _);have G:=gg (Gf i.o v.o H);have O:=gg f;clear f;refine Ft rfl _ _ _ _ rfl _ _ _ _ rfl rfl z.o ?_
    change wpList _ _ _ _ _ (w1.setRow g (nD a l k));obtain⟨w2,t⟩:∃ w2,w1.setRow g (nD a l k)=w2:=⟨_,rfl⟩;rw[t] at D d y E;rw[t];clear t z;have C:(nD a l k)[(k+m)*2]? = some ((nD a l k)[(k+m)*2]'(by rw[G.o];omega)):=by simp
    have F:(nD a l k)[(k+m)*2+1]? = some ((nD a l k)[(k+m)*2+1]'(by rw[G.o];omega)):=by simp
    have W:=fun J=>Hk g ((k+m)*2) J 0 w2 _ _ (gv d.o C) (gC d.o _) (gv d.o F) (gC d.o _)
    clear C F;have Y:k+1+m - (k+m)=1:=by omega
    go_wp2
    go_ret;exact⟨rfl,EA (EA D.o _ _ fL) _ _ f_,fun b q s=>by rw[iY s,iY s,y.o b s];exact O.o.block b q,lD o (lD o E.o)⟩
theorem Mv {w:World} {B e n g c:Nat} {l} (h:w.ownsRow B e 2 (a_ (some ⟨g,0,none⟩) n c) n (gW l)) {k} {x} (d:l[k]? = some x):w.cell? ⟨g,k*2,none⟩=some (b_ c_ x.1)∧w.cell? ⟨g,k*2+1,none⟩=some (b_ c_ x.2):=by
 obtain⟨a,b⟩:=Eg l k x d;have hl:=h.1;have h1:=(fR a).1;have h2:=(fR b).1;rw[hl] at h1 h2;exact⟨by rw[h.cellAt _ h1,a],by rw[h.cellAt _ h2,b]⟩
theorem gE.rowAt {w B p T m k f g a} (d:gE w B p T m k f g a) {h:Int} (h0:0≤h) (h1:h<m.pend.length) :
 ∃ c b r,f =a_ (some ⟨c,0,none⟩) m.pend.length b∧m.pend.length≤b∧b≤9223372036854775807∧a[h.toNat]? = some r∧w.cell? ⟨c,h.toNat,none⟩=some r∧w.frozen? ⟨c,h.toNat,none⟩=false∧w.ownsRow B 127 2 r (iA m h).length (gW (iA m h)):=by
 obtain⟨c,b,rfl,j,i⟩:=pB d.pend f_;have hl:=d.len
 have e:a[h.toNat]? = some a[h.toNat]:=by simp
 obtain⟨c1,l⟩:=tD d.pend e;unfold maxLen at i;exact⟨c,b,a[h.toNat],rfl,j,by omega,e,c1,l,d.each h.toNat _ _ e (yS h1 h0)⟩
theorem M4 B p k c m I pv M S h x w (D:gE w B p 187 m I pv M S) (s:jC m) (hB:B≤w.heap.size) (hh:jm m h x.1=true) (hl:(iA m h).length=k+1+c) (t:(iA m h)[k]? = some x) :
 Calls gd 123 #[fG (some ⟨p,0,none⟩),b_ c_ h,b_ c_ k] w fun e w'=>e =fH (fI #[])∧(∃ aj,gE w' B p 187 (vk m h k) I pv M aj)∧Below B w w':=by
 obtain⟨h0,h1,h2,h3,h4⟩:=uN hh;obtain⟨b,cp,r,rfl,aF,aE,U,Q,af,A⟩:=D.rowAt h0 h1;obtain⟨f,n,rfl,ap,am⟩:=pB A f_;have ae:(iA m h).length≤1000:=s.each _ (List.mem_of_getElem? (yS h1 h0));obtain⟨q1,q2⟩:=Mv A t;obtain⟨p0,p1,p2⟩:=iv D.at_;have sp:=s.pend;unfold maxLen at am
 have ai:gi (vk m h k=⟨(km m h x.1 x.2).words,(km m h x.1 x.2).pend.set h.toNat ((iA m h).eraseIdx k),(km m h x.1 x.2).res⟩):=gg (by
  unfold vk AZ;rw[show (iA m h).getD k (0,0)=x by rw[List.getD_eq_getElem?_getD,t];rfl])
 have HO:=gg D;have O:=gg U;have aq:=gg A;have HS:=gg s;have HX:=gg t;have N:=gg hl;clear D U A s hh t;rw[hl] at Q ap ae O aq;clear hl;obtain⟨H,K⟩:=x;simp only at *
 generalize Y:m.pend.length=n2 at *
 have au:=gg Y;clear Y;go_in
 go_wp2_with fail
 refine(EQ B p m I _ M S h H K _ (HO.o.below (gr _ _)) HS.o ⟨h3,h4⟩).mono ?_
 rintro e w1 ⟨rfl,l,W⟩;have R:gi (Below B w w1):=gg ((fK.alloc hB _).trans W);have ax:B≤w1.heap.size:=by have:=R.o.size;omega
 obtain⟨aC,aB,r',e1,_,_,Z,al,aD,P⟩:=l.rowAt h0 (by simp only[km];rw[au.o];exact h1);injection e1 with e2 _ e3
 injection e2 with e2
 injection e2 with e2
 subst e2 e3
 have e4:r' =a_ (some ⟨f,0,none⟩) (k+1+c) n:=by
  have:=O.o;rw[Z] at this;injection this
 subst e4;obtain⟨ag,ak,az⟩:=iv l.at_;have lp:=gn l.at_;have lg:=(l.pend.lt b rfl).2;have ar:=gg l;have ao:=gg P;clear l P W Z ag az p0 p1 p2 Q af q1 q2;have ew:c_.wrap ((k:Int)+1)=(k:Int)+1:=IntWalk.i64_in _ f_
 go_wp2
 refine fY (fun w'=>p<w'.heap.size∧b<w'.heap.size∧w'.cell? ⟨p,1,none⟩=some (a_ (some ⟨b,0,none⟩) n2 cp)∧w'.cell? ⟨b,h.toNat,none⟩=some (a_ (some ⟨f,0,none⟩) (k+1+c) n)) 18 [true,true,true,true,true,true,true,true,true,true,true,true,true,true,true,true,true]
  (fun w1 w2 h C=>⟨fN h.1 C.size,fN h.2.1 C.size,by rw[C.cell (p:=⟨p,1,none⟩) h.1];exact h.2.2.1,by rw[C.cell (p:=⟨b,_,none⟩) h.2.1];exact h.2.2.2⟩) ⟨lp,lg,ak,al⟩ ?a' ?h ?ht
 case h=>
  intro w0 ⟨u,o,c1,X⟩;have H:=fun x=>gD u c1 x
  have K:=fun x=>gD o X x
  clear c1 X;simp only[jd];repeat(go_big_quiet_step (fail))
  refine wpQuiet_nil ?_
  rfl
 case ht=>
  change kD _ _ _ _ _ _ 1 _ _ _;refine jQ (i:=17) ga fZ rfl ?_
  intro w2 ac ⟨u,o,d1,d2⟩;have v:gi (Up w1 w2):=gg (nE ac)
  have L:gi (w2.ownsRow B 127 2 (a_ (some ⟨f,0,none⟩) (k+1+c) n) (k+1+c) (gW (iA m h))):=gg (by
   have:=gy ao.o v.o;rw[show iA (km m h H K) h=iA m h from rfl,N.o] at this;exact this)
  have d:=gg (ar.o.below v.o);clear ac ew;have an:=gg d1;have av:=gg d2;clear d1 d2
  go_wp2_with fail
  refine(LD B f n k c (iA m h) _ N.o L.o ae).mono ?_
  rintro e y ⟨rfl,hd,T,J⟩;have HD:=gg hd;have j:=gg T;have aa:=gg J;have n1:p≠f:=fun e=>gS L.o d.o.at_ fZ (by rw[e];rfl)
  have G:b≠f:=fun e=>ku d.o.pend L.o fZ (g:=b) rfl (by rw[e];rfl)
  have aG:=J.size
  have ay:p<y.heap.size:=by
   have:=gn (show y.heap[p]? = _ by rw[j.o p u n1];exact d.o.at_);exact this
  have ab:b<y.heap.size:=by
   obtain⟨cc,E⟩:=pE d.o.pend (g:=b) rfl;have:=gn (show y.heap[b]? = _ by rw[j.o b o G];exact E);exact this
  clear hd T J
  go_wp2
  refine⟨⟨ay,ab,by rw[World.cell?_of_block (a:=⟨p,1,none⟩) (j.o p u n1)];exact an.o,by rw[World.cell?_of_block (a:=⟨b,h.toNat,none⟩) (j.o b o G)];exact av.o⟩,?_⟩;refine lR ga ?_
  intro z V ⟨l3,l4,d3,d4⟩;have q:=gg V
  have HF:=gg (d.o.setRow (w':=z) fZ fZ O.o rfl (fun g F ad=>by
   rw[q.o.block g (by have:=j.o g F ad;rw[Array.getElem?_eq_getElem F] at this;exact gn this)];exact j.o g F ad) (r':=a_ (some ⟨f,0,none⟩) (k+c) n) (l':=(iA m h).eraseIdx k) rfl
   (by rw[List.length_eraseIdx,N.o,if_pos f_,show k+1+c - 1=k+c by omega];exact gy HD.o q.o) rfl)
  obtain⟨cc,E⟩:=pE d.o.pend (g:=b) rfl;have aA:z.frozen? ⟨b,h.toNat,none⟩=false:=gC (show z.heap[b]? = some (d_ cc _ (0,0)) by rw[q.o.block b ab,j.o b o G];exact E) _;have aw:B≤b:=(d.o.pend.lt b rfl).1;have ah:gi (Below B w z):=gg ((R.o.trans (v.o.mono ax)).trans (aa.o.trans (q.o.mono (by have:=aa.o.size;have:=v.o.size;omega))));clear V E;simp only[List.drop_succ_cons,List.drop_zero]
  go_wp2
  go_end0
  refine⟨rfl,⟨_,by rw[ai.o];exact HF.o⟩,lD aw ah.o⟩
end
section
open Go.RowKit Go.Shelf
def oj (w:World) (B:Nat) (r:kS×Int) (e:Ending) (w':World):Prop:=∃ a,e =fH (fI #[a,b_ c_ r.2])∧gM w' a r.1∧Below B w w'
def tF (w:World) (B:Nat) (u:Value) (r:kS×Int) (e:Ending) (w':World):Prop:=∃ a,e =fH (fI #[u,a,b_ c_ r.2])∧gM w' a r.1∧Below B w w'
abbrev zM:Obj:=d_ #[a_ none 0 0,a_ none 0 0,a_ none 0 0] 33
theorem pJ {w q d c b v m} x y z (e:gM w v m) (a:w.heap[q]? = some (d_ #[d,c,b] 33 (0,0))):gM (((w.setCell ⟨q,0,none⟩ x).setCell ⟨q,1,none⟩ y).setCell ⟨q,2,none⟩ z) v m:=by
 have h0:=jb a 0 x;have h1:=jb h0 1 y;exact((e.setVar a fZ fZ fZ).setVar h0 fZ fZ fZ).setVar h1 fZ fZ fZ
theorem iK {w:World} {b x y z} {t:TypeId} (h:w.heap[b]? = some (d_ #[x,y,z] t (0,0))):(w.cell? ⟨b,0,none⟩=some x∧w.cell? ⟨b,1,none⟩=some y∧w.cell? ⟨b,2,none⟩=some z)∧(w.frozen? ⟨b,0,none⟩=false∧w.frozen? ⟨b,1,none⟩=false∧w.frozen? ⟨b,2,none⟩=false):=
 ⟨iv h,gC h 0,gC h 1,gC h 2⟩
theorem KG v m h a w (L:gM w v m) (hs:jC m) :
 Calls gd 162 #[v,b_ c_ h,b_ c_ a] w (tF w w.heap.size (b_ c_ (ow m h a).1) ((ow m h a).2)):=by
 have W:=gg L;have HS:=gg hs;obtain⟨a1,c1,a2,l,a3,c3,aG,rfl,_,_,_,_⟩:=L.parts;cases he:(lu m h a == 0)
 · have HE:=gg he
   have E:ow m h a=(0,lY,lu m h a):=by unfold ow;rw[if_neg (by simpa using he)]
   rw[E];have aJ:(lu m h a != 0)=true:=by simpa[bne] using he
   clear L he;generalize Z:lu m h a=er at *
   have U:=gg Z;clear Z;generalize m.words.length=n1 at *
   generalize m.pend.length=n2 at *
   generalize m.res.length=n3 at *
   unfold tF;go_in
   go_wp2_with fail
   refine(AT _ m h a er _ (W.o.below zB) U.o).mono ?_
   rintro e w1 ⟨rfl,g⟩;have N:w1.heap[w.heap.size+1]? = some (d_ #[a_ none 0 0,a_ none 0 0,a_ none 0 0] 33 (0,0)):=gk g (by have:=gH (w.alloc (d_ #[a_ a1 n1 c1,a_ a2 n2 l,a_ a3 n3 c3] 33)) zM;simpa using this);obtain⟨⟨A,o,r⟩,f0,f1,f2⟩:=iK N;obtain⟨s0,s1,s2⟩:=iv (jT (x:=a_ none 0 0) (y:=a_ none 0 0) (z:=a_ none 0 0) N).1;have HB:gi (Up w w1):=gg zB;clear N g
   go_wp2
   exact bodyPost_ret (v:=fI #[b_ c_ 0,e_ #[a_ none 0 0,a_ none 0 0,a_ none 0 0],b_ c_ er]) (by simp[results,Tryz.results162,go_sem,s0,s1,s2]) rfl ⟨_,rfl,lX _,kt HB.o f_⟩
 · have j:lu m h a=0:=by simpa using he
   have hh:jm m h a=true:=by
    cases e:jm m h a
    · unfold lu at j;rw[e] at j;simp at j
    · rfl
   obtain⟨h0,h1,h2,h3,h4⟩:=uN hh;have E:ow m h a=(kQ m a,tH m h a,0):=by unfold ow;rw[if_pos j]
   rw[E];have U:=gg j;clear L he j hh E;unfold tF;generalize ac:m.words.length=n1 at *
   generalize ae:m.pend.length=n2 at *
   generalize ai:m.res.length=n3 at *
   have n:=gg ac;have aC:=gg ae;have V:=gg ai;clear ac ae ai;go_in
   go_wp2_with fail
   refine(AT _ m h a 0 _ (W.o.below zB) U.o).mono ?_
   rintro e w1 ⟨rfl,g⟩;have Y:w1.heap[w.heap.size+1]? = some (d_ #[a_ none 0 0,a_ none 0 0,a_ none 0 0] 33 (0,0)):=gk g (by have:=gH (w.alloc (d_ #[a_ a1 n1 c1,a_ a2 n2 l,a_ a3 n3 c3] 33)) zM;simpa using this);have al:w1.heap[w.heap.size]? = some (d_ #[a_ a1 n1 c1,a_ a2 n2 l,a_ a3 n3 c3] 33 (0,0)):=gk g (gk (gr _ _) (gH w _));obtain⟨A,o,r⟩:=iv al;have B1:gi (Up w w1):=gg zB;have ag:=gg Y;have aF:=gg g;have aH:w.heap.size+1+1≤w1.heap.size:=by have:=g.size;simpa using this
   clear Y al g
   go_wp2_with fail
   refine(CS _ m _ (W.o.below B1.o) HS.o).mono ?_
   rintro e w2 ⟨p,wv,pv,rv,rs,rfl,f,D⟩;have aj:=gg (gk D ag.o);have aD:=gg D;have B2:gi (Up w w2):=gg (gj B1.o D);clear A o r ag D;obtain⟨b,q,rfl,am,au⟩:=pB f.words (by rw[n.o];omega);obtain⟨c,s,rfl,aA,ay⟩:=pB f.res (by rw[V.o];omega);obtain⟨u,t,rfl⟩:=gN f.pend;have aK:=(f.res.lt c rfl).1;have aL:=f.base;have B:=iv f.at_;have H:=f.at_;obtain⟨u1,u2⟩:=tD f.res (k:=h.toNat) (En m.res h.toNat (by rw[V.o];omega));have d:=gg (f.setResv fZ rfl h.toNat a);unfold maxLen at au ay;clear f;rw[n.o] at B am H d;rw[aC.o] at B H d;rw[V.o] at B aA H d;have HW:gi (kQ m a=m.words[a.toNat]'(by rw[n.o];omega)):=gg (by unfold kQ;simp[List.getD_eq_getElem?_getD,n.o,show a.toNat<n1 by omega])
   have af:gi ((w2.setCell ⟨c,h.toNat,none⟩ (b_ c_ a)).cell? ⟨b,a.toNat,none⟩=some (b_ c_ (kQ m a))):=gg (by
    have T:=d.o.words;simp only at T;rw[n.o] at T;rw[HW.o];exact(tD T (k:=a.toNat) (En m.words a.toNat (by rw[n.o];omega))).1)
   obtain⟨t0,t1,t2⟩:=B;have M:gi (Up w (w2.setCell ⟨c,h.toNat,none⟩ (b_ c_ a))):=gg (gO B2.o f_ _);have S:gi ((w2.setCell ⟨c,h.toNat,none⟩ (b_ c_ a)).heap[w.heap.size+1]? = some (d_ #[a_ none 0 0,a_ none 0 0,a_ none 0 0] 33 (0,0))):=gg (by rw[iY f_];exact aj.o);have ad:b<(w2.setCell ⟨c,h.toNat,none⟩ (b_ c_ a)).heap.size:=(d.o.words.lt b rfl).2;clear H
   go_wp2
   obtain⟨I,O⟩:∃ I,w2.setCell ⟨c,h.toNat,none⟩ (b_ c_ a)=I:=⟨_,rfl⟩;rw[O] at af M S d ad;rw[O];have s3:=M.o.size;clear O t0 t1 t2 u1 u2 aj B2 aD;have lp:=gn d.o.at_;have aI:=gn S.o;have av:w.heap.size+1≠p:=by omega
   have ax:b≠w.heap.size+1:=by have:=(d.o.words.lt b rfl).1;omega
   refine fX (fun w'=>p<w'.heap.size∧b<w'.heap.size∧w'.heap[p]? = some (d_ #[a_ (some ⟨b,0,none⟩) n1 q,a_ u n2 t,a_ (some ⟨c,0,none⟩) n3 s] 187 (0,0))∧w'.cell? ⟨b,a.toNat,none⟩=some (b_ c_ (kQ m a))) [true,true,true,true,true,true,true,true,true,true,true,true]
    (fun w1 w2 h K=>⟨fN h.1 K.size,fN h.2.1 K.size,gk K h.2.2.1,by rw[K.cell (p:=⟨b,_,none⟩) h.2.1];exact h.2.2.2⟩) ⟨lp,ad,d.o.at_,af.o⟩ ?a' ?h ?ht
   case h=>
    intro w0 ⟨R,l2,c1,l⟩;obtain⟨A,o,r⟩:=iv c1;have y0:=fun x=>gD R A x
    have y1:=fun x=>gD R o x
    have y2:=fun x=>gD R r x
    have y3:=fun x=>gD l2 l x
    clear c1 l A o r;simp only[jd];repeat(go_big_quiet_step (fail))
    refine wpQuiet_nil ?_
    rfl
   case ht=>
    change kN _ _ _ _ _ 3 _ _ _;refine js (i:=12) ga rfl ?_
    intro w4 ab X;have an:gi (Up I w4):=gg (nE ab);have aB:=gg X;clear ab X
    go_wp2
    refine⟨aB.o,?_⟩;refine js (i:=13) ga rfl ?_
    intro w5 ak ah;have P:gi (Up I w5):=gg (mI an.o ak);have C:=gg ah;clear ak ah;have Q:=gg (gk P.o S.o);obtain⟨⟨v0,v1,v2⟩,f0,f1,f2⟩:=iK Q.o
    go_wp2
    have F:=gg (jT (x:=a_ (some ⟨b,0,none⟩) n1 q) (y:=a_ u n2 t) (z:=a_ (some ⟨c,0,none⟩) n3 s) Q.o);refine⟨⟨by simp only[kj];exact C.o.1,by simp only[kj];exact C.o.2.1,by rw[F.o.2 p (Ne.symm av)];exact C.o.2.2.1,by rw[World.cell?_of_block (a:=⟨b,a.toNat,none⟩) (F.o.2 b ax)];exact C.o.2.2.2⟩,?_⟩;have az:=gg (pJ (a_ (some ⟨b,0,none⟩) n1 q) (a_ u n2 t) (a_ (some ⟨c,0,none⟩) n3 s) ((d.o.isMem).below P.o) Q.o);have B6:=gg (kt (x:=a_ (some ⟨b,0,none⟩) n1 q) (y:=a_ u n2 t) (z:=a_ (some ⟨c,0,none⟩) n3 s) (gj M.o P.o) (show w.heap.size≤w.heap.size+1 by omega));have ao:=gg (F.o.1);clear v0 v1 v2 f0 f1 f2 F;refine js (i:=14) ga rfl ?_
    intro w7 J aa;have aq:=gg (az.o.below J);have B7:=gg (gj B6.o J);have aw:=gg (gk J ao.o);have aE:=gg aa;clear J aa
    go_wp2
    refine⟨aE.o,?_⟩;refine od ga ?_
    intro w8 G _;have ar:=gg (aq.o.below G);have B8:=gg (gj B7.o G);obtain⟨r0,r1,r2⟩:=iv (gk G aw.o);clear G
    go_wp2
    exact bodyPost_ret (v:=fI #[b_ c_ (kQ m a),e_ #[a_ (some ⟨b,0,none⟩) n1 q,a_ u n2 t,a_ (some ⟨c,0,none⟩) n3 s],b_ c_ 0]) (by simp[results,Tryz.results162,go_sem,r0,r1,r2]) rfl ⟨_,rfl,ar.o,B8.o⟩
theorem F7 {m h a} (h0:lu m h a=0):jm m h a=true:=by
 cases e:jm m h a
 · unfold lu at h0;rw[e] at h0;simp at h0
 · rfl
theorem xL {m h} (h0:0≤h) (h1:h<m.res.length):m.res[h.toNat]? = some (pO m h):=by
 unfold pO;simp[show h.toNat<m.res.length by omega]
theorem FU {m a} (h0:0≤a) (h1:a<m.words.length):m.words[a.toNat]? = some (kQ m a):=by
 unfold kQ;simp[show a.toNat<m.words.length by omega]
theorem C_ {l} {k:Nat} {x} (h:l[k]? = some x):(gz l)[k]? = some (b_ c_ x):=by simp[gz,h]
theorem Lr v m h a n w (hm:gM w v m) (hs:jC m) :
 Calls gd 163 #[v,b_ c_ h,b_ c_ a,b_ c_ n] w (tF w w.heap.size (fJ (mM m h a n).1) ((mM m h a n).2)):=by
 have HM:=gg hm;have HS:=gg hs;obtain⟨a1,c1,a2,O,a3,c3,aM,rfl,_,_,_,_⟩:=hm.parts;cases he:(lu m h a == 0)
 · have W:mM m h a n=(false,lY,lu m h a):=by unfold mM;rw[if_neg (by simpa using he)]
   rw[W];have aN:(lu m h a != 0)=true:=by simpa[bne] using he
   clear hm he W;generalize aE:lu m h a=er at *
   have ah:=gg aE;clear aE;generalize Z:m.words.length=n1 at *
   generalize ab:m.pend.length=n2 at *
   generalize ae:m.res.length=n3 at *
   have P:=gg Z;have aB:=gg ab;have F:=gg ae;clear Z ab ae;unfold tF;go_in
   go_wp2_with fail
   refine(AT _ m h a er _ (HM.o.below zB) ah.o).mono ?_
   rintro e w1 ⟨rfl,d⟩;have D:w1.heap[w.heap.size+1]? = some (d_ #[a_ none 0 0,a_ none 0 0,a_ none 0 0] 33 (0,0)):=gk d (by have:=gH (w.alloc (d_ #[a_ a1 n1 c1,a_ a2 n2 O,a_ a3 n3 c3] 33)) zM;simpa using this);have H:w1.heap[w.heap.size]? = some (d_ #[a_ a1 n1 c1,a_ a2 n2 O,a_ a3 n3 c3] 33 (0,0)):=gk d (gk (gr _ _) (gH w _));have G:gi (Up w w1):=gg zB;have E:=gg D;have ai:=gg H;have aH:w.heap.size+1+1≤w1.heap.size:=by have:=d.size;simpa using this
   clear D H d;obtain⟨⟨t,r,s⟩,f0,f1,f2⟩:=iK E.o;obtain⟨s0,s1,s2⟩:=iv (jT (x:=a_ none 0 0) (y:=a_ none 0 0) (z:=a_ none 0 0) E.o).1
   go_wp2
   exact bodyPost_ret (v:=fI #[fJ false,e_ #[a_ none 0 0,a_ none 0 0,a_ none 0 0],b_ c_ er]) (by simp[results,Tryz.results163,go_sem,s0,s1,s2]) rfl ⟨_,rfl,lX _,kt G.o f_⟩
 · have ag:lu m h a=0:=by simpa using he
   obtain⟨h0,h1,h2,h3,h4⟩:=uN (F7 ag);have ar:=gg (xL h0 h2);have W:mM m h a n=(if pO m h=a then (true,tH (km m h a (wrap32 n)) h (-1),0) else (false,tH m h (-1),0)):=by unfold mM;rw[if_pos ag]
   rw[W];have ah:=gg ag;clear hm he ag W;unfold tF;generalize Z:m.words.length=n1 at *
   generalize ab:m.pend.length=n2 at *
   generalize ae:m.res.length=n3 at *
   have P:=gg Z;have aB:=gg ab;have F:=gg ae;clear Z ab ae;cases Q:(pO m h == a)
   · have ac:pO m h≠a:=by simpa using Q
     rw[if_neg ac];clear ac;generalize pO m h=ro at *
     have HC:=gg Q;clear Q;go_in
     go_wp2_with fail
     refine(AT _ m h a 0 _ (HM.o.below zB) ah.o).mono ?_
     rintro e w1 ⟨rfl,d⟩;have D:w1.heap[w.heap.size+1]? = some (d_ #[a_ none 0 0,a_ none 0 0,a_ none 0 0] 33 (0,0)):=gk d (by have:=gH (w.alloc (d_ #[a_ a1 n1 c1,a_ a2 n2 O,a_ a3 n3 c3] 33)) zM;simpa using this);have H:w1.heap[w.heap.size]? = some (d_ #[a_ a1 n1 c1,a_ a2 n2 O,a_ a3 n3 c3] 33 (0,0)):=gk d (gk (gr _ _) (gH w _));have G:gi (Up w w1):=gg zB;have E:=gg D;have ai:=gg H;have aH:w.heap.size+1+1≤w1.heap.size:=by have:=d.size;simpa using this
     clear D H d;obtain⟨t,r,s⟩:=iv ai.o
     go_wp2_with fail
     refine(CS _ m _ (HM.o.below G.o) HS.o).mono ?_
     rintro e w2 ⟨p,wv,pv,rv,rs,rfl,c,J⟩;have aj:=gg (gk J E.o);have B2:gi (Up w w2):=gg (gj G.o J);clear t r s E J;obtain⟨q,j,rfl,ak,aq⟩:=pB c.words (by rw[P.o];omega);obtain⟨b,k,rfl,ay,aw⟩:=pB c.res (by rw[F.o];omega);obtain⟨o,l,rfl⟩:=gN c.pend;have aJ:=(c.res.lt b rfl).1;have aK:=c.base;unfold maxLen at aq aw;have g:=gg c;clear c;rw[P.o] at g ak;rw[aB.o] at g;rw[F.o] at g ay;obtain⟨Y,T,t2⟩:=iv g.o.at_;have f:=g.o.res;(try simp only at f);rw[F.o] at f;obtain⟨u1,u2⟩:=tD f (C_ ar.o);clear f;have aL:=HC.o;have A:=gg (g.o.setResv fZ rfl h.toNat (-1));have R:gi (Up w (w2.setCell ⟨b,h.toNat,none⟩ (b_ c_ (-1)))):=gg (gO B2.o f_ _);have aa:gi ((w2.setCell ⟨b,h.toNat,none⟩ (b_ c_ (-1))).heap[w.heap.size+1]? = some (d_ #[a_ none 0 0,a_ none 0 0,a_ none 0 0] 33 (0,0))):=gg (by rw[iY f_];exact aj.o)
     go_wp2
     obtain⟨B,I⟩:∃ B,w2.setCell ⟨b,h.toNat,none⟩ (b_ c_ (-1))=B:=⟨_,rfl⟩;rw[I] at R aa A;rw[I];clear I Y T t2 u1 u2;have lp:=gn A.o.at_;have au:w.heap.size+1≠p:=by omega
     refine fX (fun w'=>p<w'.heap.size∧w'.heap[p]? = some (d_ #[a_ (some ⟨q,0,none⟩) n1 j,a_ o n2 l,a_ (some ⟨b,0,none⟩) n3 k] 187 (0,0))) [true,true,true,true,true]
      (fun w1 w2 h hu=>⟨fN h.1 hu.size,gk hu h.2⟩) ⟨lp,A.o.at_⟩ ?ac1 ?hc1 ?htc1
     case hc1=>
      intro w0 ⟨N,c1⟩;obtain⟨t,r,s⟩:=iv c1;have y0:=fun x=>gD N t x
      have y1:=fun x=>gD N r x
      have y2:=fun x=>gD N s x
      clear c1 t r s;simp only[jd];repeat(go_big_quiet_step (fail))
      refine wpQuiet_nil ?_
      rfl
     case htc1=>
      change kN _ _ _ _ _ 3 _ _ _;refine js (i:=5) ga rfl ?_
      intro w4 X S;have al:gi (Up B w4):=gg (nE X);have az:=gg S;clear X S
      go_wp2
      refine⟨az.o,?_⟩;refine js (i:=6) ga rfl ?_
      intro w5 af ad;have L:gi (Up B w5):=gg (mI al.o af);have U:=gg ad;clear af ad;have M:=gg (gk L.o aa.o);obtain⟨⟨v0,v1,v2⟩,f0,f1,f2⟩:=iK M.o
      go_wp2
      have K:=gg (jT (x:=a_ (some ⟨q,0,none⟩) n1 j) (y:=a_ o n2 l) (z:=a_ (some ⟨b,0,none⟩) n3 k) M.o);refine⟨⟨by simp only[kj];exact U.o.1,by rw[K.o.2 p (Ne.symm au)];exact U.o.2⟩,?_⟩;have ax:=gg (pJ (a_ (some ⟨q,0,none⟩) n1 j) (a_ o n2 l) (a_ (some ⟨b,0,none⟩) n3 k) ((A.o.isMem).below L.o) M.o);have B6:=gg (kt (x:=a_ (some ⟨q,0,none⟩) n1 j) (y:=a_ o n2 l) (z:=a_ (some ⟨b,0,none⟩) n3 k) (gj R.o L.o) (show w.heap.size≤w.heap.size+1 by omega));have am:=gg (K.o.1);clear v0 v1 v2 f0 f1 f2 K;refine js (i:=7) ga rfl ?_
      intro w7 C V;have an:=gg (ax.o.below C);have B7:=gg (gj B6.o C);have av:=gg (gk C am.o);have aD:=gg V;clear C V
      go_wp2
      refine⟨aD.o,?_⟩;refine od ga ?_
      intro w8 u _;have ao:=gg (an.o.below u);have B8:=gg (gj B7.o u);obtain⟨r0,r1,r2⟩:=iv (gk u av.o);clear u
      go_wp2
      exact bodyPost_ret (v:=fI #[fJ false,e_ #[a_ (some ⟨q,0,none⟩) n1 j,a_ o n2 l,a_ (some ⟨b,0,none⟩) n3 k],b_ c_ 0]) (by simp[results,Tryz.results163,go_sem,r0,r1,r2]) rfl ⟨_,rfl,ao.o,B8.o⟩
   · have ac:pO m h=a:=by simpa using Q
     rw[if_pos ac];clear ac;generalize pO m h=ro at *
     have HC:=gg Q;clear Q;go_in
     go_wp2_with fail
     refine(AT _ m h a 0 _ (HM.o.below zB) ah.o).mono ?_
     rintro e w1 ⟨rfl,d⟩;have D:w1.heap[w.heap.size+1]? = some (d_ #[a_ none 0 0,a_ none 0 0,a_ none 0 0] 33 (0,0)):=gk d (by have:=gH (w.alloc (d_ #[a_ a1 n1 c1,a_ a2 n2 O,a_ a3 n3 c3] 33)) zM;simpa using this);have H:w1.heap[w.heap.size]? = some (d_ #[a_ a1 n1 c1,a_ a2 n2 O,a_ a3 n3 c3] 33 (0,0)):=gk d (gk (gr _ _) (gH w _));have G:gi (Up w w1):=gg zB;have E:=gg D;have ai:=gg H;have aH:w.heap.size+1+1≤w1.heap.size:=by have:=d.size;simpa using this
     clear D H d;obtain⟨t,r,s⟩:=iv ai.o
     go_wp2_with fail
     refine(CS _ m _ (HM.o.below G.o) HS.o).mono ?_
     rintro e w2 ⟨p,wv,pv,rv,rs,rfl,c,J⟩;have aj:=gg (gk J E.o);have B2:gi (Up w w2):=gg (gj G.o J);clear t r s E J;obtain⟨q,j,rfl,ak,aq⟩:=pB c.words (by rw[P.o];omega);obtain⟨b,k,rfl,ay,aw⟩:=pB c.res (by rw[F.o];omega);obtain⟨o,l,rfl⟩:=gN c.pend;have aJ:=(c.res.lt b rfl).1;have aK:=c.base;unfold maxLen at aq aw;have g:=gg c;clear c;rw[P.o] at g ak;rw[aB.o] at g;rw[F.o] at g ay;obtain⟨Y,T,t2⟩:=iv g.o.at_;have f:=g.o.res;(try simp only at f);rw[F.o] at f;obtain⟨u1,u2⟩:=tD f (C_ ar.o);clear f;have aL:=HC.o
     go_wp2_with (go_at_call 124;((with_reducible refine(mF n _).mono ?_);rintro e w' ⟨rfl,rfl⟩))
     refine(EQ w1.heap.size p m _ _ _ rs h a (wrap32 n) _ g.o HS.o ⟨h3,by rw[P.o];exact h4⟩).mono ?_
     rintro e wg ⟨rfl,aG,aA⟩;have aC:=gg aG;have BG:gi (Up w wg):=gg (B2.o.trans (aA.mono (by have:=G.o.size;omega)));have aI:gi (wg.heap[w.heap.size+1]? = some (d_ #[a_ none 0 0,a_ none 0 0,a_ none 0 0] 33 (0,0))):=gg (iE aA f_ aj.o);clear aG aA Y T t2 u1 u2 aj;obtain⟨Y,T,t2⟩:=iv aC.o.at_;have f:=aC.o.res;(try simp only[km,yN] at f);rw[F.o] at f;have aF:(rD h a 0 m.res)[h.toNat]? = some ro:=by rw[No,ar.o];simp;intro aO;omega
     obtain⟨u1,u2⟩:=tD f (C_ aF);clear f aF;have A:=gg (aC.o.setResv fZ rfl h.toNat (-1));have R:gi (Up w (wg.setCell ⟨b,h.toNat,none⟩ (b_ c_ (-1)))):=gg (gO BG.o f_ _);have aa:gi ((wg.setCell ⟨b,h.toNat,none⟩ (b_ c_ (-1))).heap[w.heap.size+1]? = some (d_ #[a_ none 0 0,a_ none 0 0,a_ none 0 0] 33 (0,0))):=gg (by rw[iY f_];exact aI.o)
     go_wp2
     obtain⟨B,I⟩:∃ B,wg.setCell ⟨b,h.toNat,none⟩ (b_ c_ (-1))=B:=⟨_,rfl⟩;rw[I] at R aa A;rw[I];clear I Y T t2 u1 u2;have lp:=gn A.o.at_;have au:w.heap.size+1≠p:=by omega
     refine fX (fun w'=>p<w'.heap.size∧w'.heap[p]? = some (d_ #[a_ (some ⟨q,0,none⟩) n1 j,a_ o n2 l,a_ (some ⟨b,0,none⟩) n3 k] 187 (0,0))) [true,true,true,true,true]
      (fun w1 w2 h hu=>⟨fN h.1 hu.size,gk hu h.2⟩) ⟨lp,A.o.at_⟩ ?ac2 ?hc2 ?htc2
     case hc2=>
      intro w0 ⟨N,c1⟩;obtain⟨t,r,s⟩:=iv c1;have y0:=fun x=>gD N t x
      have y1:=fun x=>gD N r x
      have y2:=fun x=>gD N s x
      clear c1 t r s;simp only[jd];repeat(go_big_quiet_step (fail))
      refine wpQuiet_nil ?_
      rfl
     case htc2=>
      change kN _ _ _ _ _ 3 _ _ _;refine js (i:=5) ga rfl ?_
      intro w4 X S;have al:gi (Up B w4):=gg (nE X);have az:=gg S;clear X S
      go_wp2
      refine⟨az.o,?_⟩;refine js (i:=6) ga rfl ?_
      intro w5 af ad;have L:gi (Up B w5):=gg (mI al.o af);have U:=gg ad;clear af ad;have M:=gg (gk L.o aa.o);obtain⟨⟨v0,v1,v2⟩,f0,f1,f2⟩:=iK M.o
      go_wp2
      have K:=gg (jT (x:=a_ (some ⟨q,0,none⟩) n1 j) (y:=a_ o n2 l) (z:=a_ (some ⟨b,0,none⟩) n3 k) M.o);refine⟨⟨by simp only[kj];exact U.o.1,by rw[K.o.2 p (Ne.symm au)];exact U.o.2⟩,?_⟩;have ax:=gg (pJ (a_ (some ⟨q,0,none⟩) n1 j) (a_ o n2 l) (a_ (some ⟨b,0,none⟩) n3 k) ((A.o.isMem).below L.o) M.o);have B6:=gg (kt (x:=a_ (some ⟨q,0,none⟩) n1 j) (y:=a_ o n2 l) (z:=a_ (some ⟨b,0,none⟩) n3 k) (gj R.o L.o) (show w.heap.size≤w.heap.size+1 by omega));have am:=gg (K.o.1);clear v0 v1 v2 f0 f1 f2 K;refine js (i:=7) ga rfl ?_
      intro w7 C V;have an:=gg (ax.o.below C);have B7:=gg (gj B6.o C);have av:=gg (gk C am.o);have aD:=gg V;clear C V
      go_wp2
      refine⟨aD.o,?_⟩;refine od ga ?_
      intro w8 u _;have ao:=gg (an.o.below u);have B8:=gg (gj B7.o u);obtain⟨r0,r1,r2⟩:=iv (gk u av.o);clear u
      go_wp2
      exact bodyPost_ret (v:=fI #[fJ true,e_ #[a_ (some ⟨q,0,none⟩) n1 j,a_ o n2 l,a_ (some ⟨b,0,none⟩) n3 k],b_ c_ 0]) (by simp[results,Tryz.results163,go_sem,r0,r1,r2]) rfl ⟨_,rfl,ao.o,B8.o⟩
theorem FR op l w (hl:yG op=l):Calls gd 190 #[b_ c_ op] w fun e w'=>e =fH (b_ c_ l)∧w=w':=by subst hl;exact MD op w
theorem Hq {w B p T m b c d a} (h:gE w B p T m b c d a) (q):gE (w.drewN q) B p T m b c d a:=h.kept fun _ _=>rfl
theorem FC {m h a op n e} (he:rq m h a op=e) (b:e≠0):ml m h a op n=(0,lY,e):=by unfold ml;rw[he,if_neg b]
theorem LI v m h a op n w (W:gM w v m) (hs:jC m) :
 Calls gd 164 #[v,b_ c_ h,b_ c_ a,b_ c_ op,b_ c_ n] w (tF w w.heap.size (b_ c_ (ml m h a op n).1) ((ml m h a op n).2)):=by
 have Z:=gg W;have HS:=gg hs;obtain⟨a1,c1,a2,N,a3,c3,aP,rfl,_,_,_,_⟩:=W.parts;obtain⟨lv,ah⟩:∃ l,yG op=l:=⟨_,rfl⟩;have al:=gg ah;unfold tF;by_cases Y:op=0
 · subst Y
   clear ah al;have M:rq m h a 0=lu m h a:=by unfold rq;rw[if_neg gb]
   have U:=gg M;clear M;cases he:(lu m h a == 0)
   · rw[FC (n:=n) (U.o) (by simpa using he)]
     have aL:(lu m h a != 0)=true:=by simpa[bne] using he
     clear W he;generalize ab:lu m h a=er at *
     have T:=gg ab;clear ab U;generalize o:m.words.length=n1 at *
     generalize q:m.pend.length=n2 at *
     generalize D:m.res.length=n3 at *
     clear o q D;go_in
     go_wp2_with (fail)
     refine(AT _ m h a er _ (Z.o.below zB) T.o).mono ?_
     rintro e w1 ⟨rfl,b⟩;have g:w1.heap[w.heap.size+1]? = some (d_ #[a_ none 0 0,a_ none 0 0,a_ none 0 0] 33 (0,0)):=gk b (by have:=gH (w.alloc (d_ #[a_ a1 n1 c1,a_ a2 n2 N,a_ a3 n3 c3] 33)) zM;simpa using this);have F:w1.heap[w.heap.size]? = some (d_ #[a_ a1 n1 c1,a_ a2 n2 N,a_ a3 n3 c3] 33 (0,0)):=gk b (gk (gr _ _) (gH w _));have B:gi (Up w w1):=gg zB;have t:=gg g;have aj:=gg F;have ay:w.heap.size+1+1≤w1.heap.size:=by have:=b.size;simpa using this
     clear g F b;obtain⟨⟨C,j,s⟩,f0,f1,f2⟩:=iK t.o;obtain⟨s0,s1,s2⟩:=iv (jT (x:=a_ none 0 0) (y:=a_ none 0 0) (z:=a_ none 0 0) t.o).1
     go_wp2
     exact bodyPost_ret (v:=fI #[b_ c_ 0,e_ #[a_ none 0 0,a_ none 0 0,a_ none 0 0],b_ c_ er]) (by simp[results,Tryz.results164,go_sem,s0,s1,s2]) rfl ⟨_,rfl,lX _,kt B.o f_⟩
   · have G:lu m h a=0:=by simpa using he
     obtain⟨h0,h1,h2,h3,h4⟩:=uN (F7 G);have aK:=gg (FU h3 h4);have hr:ml m h a 0 n=(kQ m a,km m h a (sJ 0 (kQ m a) n),0):=by unfold ml;rw[U.o,if_pos G]
     rw[hr,show sJ 0 (kQ m a) n=wrap32 n by simp[sJ]];have T:=gg G;clear W he G hr;generalize o:m.words.length=n1 at *
     generalize q:m.pend.length=n2 at *
     generalize D:m.res.length=n3 at *
     have L:=gg o;have aG:=gg q;have ai:=gg D;clear o q D;generalize kQ m a=wa at *
     go_in
     go_wp2_with (fail)
     refine(AT _ m h a 0 _ (Z.o.below zB) T.o).mono ?_
     rintro e w1 ⟨rfl,b⟩;have g:w1.heap[w.heap.size+1]? = some (d_ #[a_ none 0 0,a_ none 0 0,a_ none 0 0] 33 (0,0)):=gk b (by have:=gH (w.alloc (d_ #[a_ a1 n1 c1,a_ a2 n2 N,a_ a3 n3 c3] 33)) zM;simpa using this);have F:w1.heap[w.heap.size]? = some (d_ #[a_ a1 n1 c1,a_ a2 n2 N,a_ a3 n3 c3] 33 (0,0)):=gk b (gk (gr _ _) (gH w _));have B:gi (Up w w1):=gg zB;have t:=gg g;have aj:=gg F;have ay:w.heap.size+1+1≤w1.heap.size:=by have:=b.size;simpa using this
     clear g F b;obtain⟨C,j,s⟩:=iv aj.o
     go_wp2_with fail
     refine(CS _ m _ (Z.o.below B.o) HS.o).mono ?_
     rintro e w2 ⟨p,wv,pv,rv,rs,rfl,c,O⟩;have aH:=gg (gk O t.o);have B2:gi (Up w w2):=gg (gj B.o O);clear C j s t O;obtain⟨E,k,rfl,ao,aw⟩:=pB c.words (by rw[L.o];omega);obtain⟨f,r,rfl,aD,aB⟩:=pB c.res (by rw[ai.o];omega);obtain⟨A,u,rfl⟩:=gN c.pend;have aM:=(c.res.lt f rfl).1;have aN:=c.base;unfold maxLen at aw aB;have d:=gg c;clear c;rw[L.o] at d ao;rw[aG.o] at d;rw[ai.o] at d aD;obtain⟨t0,t1,t2⟩:=iv d.o.at_;have K:=d.o.words;(try simp only at K);rw[L.o] at K;obtain⟨u1,u2⟩:=tD K (C_ aK.o);clear K
     go_wp2
     go_quiet ((go_at_call 124;exact Calls.quiet_of_same ((mF n _).mono fun _ _ hh=>⟨hh.1,hh.2.symm⟩)))
     have aF:=gg (Hq d.o nq);have aJ:gi (Up w (w2.drewN nq)):=gg (lJ B2.o nq);have an:gi ((w2.drewN nq).heap[w.heap.size+1]? = some (d_ #[a_ none 0 0,a_ none 0 0,a_ none 0 0] 33 (0,0))):=gg aH.o;clear t0 t1 t2 u1 u2;generalize w2.drewN nq=w2d at *
     go_wp2_with fail
     refine(EQ w1.heap.size p m _ _ _ rs h a (wrap32 n) _ aF.o HS.o ⟨h3,by rw[L.o];exact h4⟩).mono ?_
     rintro e I ⟨rfl,ag,V⟩;have X:=gg ag;have BG:gi (Up w I):=gg (aJ.o.trans (V.mono (by have:=B.o.size;omega)));have aA:gi (I.heap[w.heap.size+1]? = some (d_ #[a_ none 0 0,a_ none 0 0,a_ none 0 0] 33 (0,0))):=gg (iE V f_ an.o);clear ag V
     go_wp2
     have lp:=gn X.o.at_;have ax:w.heap.size+1≠p:=by omega
     refine fX (fun w'=>p<w'.heap.size∧w'.heap[p]? = some (d_ #[a_ (some ⟨E,0,none⟩) n1 k,a_ A n2 u,a_ (some ⟨f,0,none⟩) n3 r] 187 (0,0))) [true,true,true,true,true]
      (fun w1 w2 h hu=>⟨fN h.1 hu.size,gk hu h.2⟩) ⟨lp,X.o.at_⟩ ?ad1 ?hd1 ?htd1
     case hd1=>
      intro w0 ⟨S,c1⟩;obtain⟨C,j,s⟩:=iv c1;have y0:=fun x=>gD S C x
      have y1:=fun x=>gD S j x
      have y2:=fun x=>gD S s x
      clear c1 C j s;simp only[jd];repeat(go_big_quiet_step (fail))
      refine wpQuiet_nil ?_
      rfl
     case htd1=>
      change kN _ _ _ _ _ 3 _ _ _;refine js (i:=5) ga rfl ?_
      intro w4 af aa;have aq:gi (Up I w4):=gg (nE af);have aE:=gg aa;clear af aa
      go_wp2
      refine⟨aE.o,?_⟩;refine js (i:=6) ga rfl ?_
      intro w5 am ak;have Q:gi (Up I w5):=gg (mI aq.o am);have ad:=gg ak;clear am ak;have R:=gg (gk Q.o aA.o);obtain⟨⟨v0,v1,v2⟩,f0,f1,f2⟩:=iK R.o
      go_wp2
      have P:=gg (jT (x:=a_ (some ⟨E,0,none⟩) n1 k) (y:=a_ A n2 u) (z:=a_ (some ⟨f,0,none⟩) n3 r) R.o);refine⟨⟨by simp only[kj];exact ad.o.1,by rw[P.o.2 p (Ne.symm ax)];exact ad.o.2⟩,?_⟩;have aC:=gg (pJ (a_ (some ⟨E,0,none⟩) n1 k) (a_ A n2 u) (a_ (some ⟨f,0,none⟩) n3 r) ((X.o.isMem).below Q.o) R.o);have B6:=gg (kt (x:=a_ (some ⟨E,0,none⟩) n1 k) (y:=a_ A n2 u) (z:=a_ (some ⟨f,0,none⟩) n3 r) (gj BG.o Q.o) (show w.heap.size≤w.heap.size+1 by omega));have ar:=gg (P.o.1);clear v0 v1 v2 f0 f1 f2 P;refine js (i:=7) ga rfl ?_
      intro w7 J ae;have au:=gg (aC.o.below J);have B7:=gg (gj B6.o J);have az:=gg (gk J ar.o);have aI:=gg ae;clear J ae
      go_wp2
      refine⟨aI.o,?_⟩;refine od ga ?_
      intro w8 H _;have av:=gg (au.o.below H);have B8:=gg (gj B7.o H);obtain⟨r0,r1,r2⟩:=iv (gk H az.o);clear H
      go_wp2
      exact bodyPost_ret (v:=fI #[b_ c_ wa,e_ #[a_ (some ⟨E,0,none⟩) n1 k,a_ A n2 u,a_ (some ⟨f,0,none⟩) n3 r],b_ c_ 0]) (by simp[results,Tryz.results164,go_sem,r0,r1,r2]) rfl ⟨_,rfl,av.o,B8.o⟩
 · have aQ:(op != 0)=true:=by simpa[bne] using Y
   by_cases ac:lv=0
   · have M:rq m h a op=1:=by unfold rq;rw[if_pos ⟨Y,by rw[ah];exact ac⟩]
     rw[FC (n:=n) M fZ];subst ac;clear W Y ah M;generalize o:m.words.length=n1 at *
     generalize q:m.pend.length=n2 at *
     generalize D:m.res.length=n3 at *
     clear o q D;go_in
     go_wp2_with (go_at_call 190;((with_reducible refine(FR op 0 _ al.o).mono ?_);rintro e w' ⟨rfl,rfl⟩))
     exact bodyPost_ret (v:=fI #[b_ c_ 0,e_ #[a_ none 0 0,a_ none 0 0,a_ none 0 0],b_ c_ 1]) (by simp[results,Tryz.results164,go_sem]) rfl ⟨_,rfl,lX _,zB⟩
   · have aO:=gg Y;clear Y ah
     have M:rq m h a op=lu m h a:=by unfold rq;rw[if_neg (by rintro⟨_,h2⟩;rw[al.o] at h2;exact ac h2)]
     have U:=gg M;clear M;have aR:(lv == 0)=false:=by simpa using ac
     clear ac;cases he:(lu m h a == 0)
     · rw[FC (n:=n) (U.o) (by simpa using he)]
       have aL:(lu m h a != 0)=true:=by simpa[bne] using he
       clear W he;generalize ab:lu m h a=er at *
       have T:=gg ab;clear ab U;generalize o:m.words.length=n1 at *
       generalize q:m.pend.length=n2 at *
       generalize D:m.res.length=n3 at *
       clear o q D;go_in
       go_wp2_with (go_at_call 190;((with_reducible refine(FR op lv _ al.o).mono ?_);rintro e w' ⟨rfl,rfl⟩))
       refine(AT _ m h a er _ (Z.o.below zB) T.o).mono ?_
       rintro e w1 ⟨rfl,b⟩;have g:w1.heap[w.heap.size+1]? = some (d_ #[a_ none 0 0,a_ none 0 0,a_ none 0 0] 33 (0,0)):=gk b (by have:=gH (w.alloc (d_ #[a_ a1 n1 c1,a_ a2 n2 N,a_ a3 n3 c3] 33)) zM;simpa using this);have F:w1.heap[w.heap.size]? = some (d_ #[a_ a1 n1 c1,a_ a2 n2 N,a_ a3 n3 c3] 33 (0,0)):=gk b (gk (gr _ _) (gH w _));have B:gi (Up w w1):=gg zB;have t:=gg g;have aj:=gg F;have ay:w.heap.size+1+1≤w1.heap.size:=by have:=b.size;simpa using this
       clear g F b;obtain⟨⟨C,j,s⟩,f0,f1,f2⟩:=iK t.o;obtain⟨s0,s1,s2⟩:=iv (jT (x:=a_ none 0 0) (y:=a_ none 0 0) (z:=a_ none 0 0) t.o).1
       go_wp2
       exact bodyPost_ret (v:=fI #[b_ c_ 0,e_ #[a_ none 0 0,a_ none 0 0,a_ none 0 0],b_ c_ er]) (by simp[results,Tryz.results164,go_sem,s0,s1,s2]) rfl ⟨_,rfl,lX _,kt B.o f_⟩
     · have G:lu m h a=0:=by simpa using he
       obtain⟨h0,h1,h2,h3,h4⟩:=uN (F7 G);have aK:=gg (FU h3 h4);have hr:ml m h a op n=(kQ m a,km m h a (sJ op (kQ m a) n),0):=by unfold ml;rw[U.o,if_pos G]
       rw[hr,show sJ op (kQ m a) n=gY op (kQ m a) n by simp[sJ,aO.o]];have T:=gg G;clear W he G hr;generalize o:m.words.length=n1 at *
       generalize q:m.pend.length=n2 at *
       generalize D:m.res.length=n3 at *
       have L:=gg o;have aG:=gg q;have ai:=gg D;clear o q D;generalize kQ m a=wa at *
       go_in
       go_wp2_with (go_at_call 190;((with_reducible refine(FR op lv _ al.o).mono ?_);rintro e w' ⟨rfl,rfl⟩))
       refine(AT _ m h a 0 _ (Z.o.below zB) T.o).mono ?_
       rintro e w1 ⟨rfl,b⟩;have g:w1.heap[w.heap.size+1]? = some (d_ #[a_ none 0 0,a_ none 0 0,a_ none 0 0] 33 (0,0)):=gk b (by have:=gH (w.alloc (d_ #[a_ a1 n1 c1,a_ a2 n2 N,a_ a3 n3 c3] 33)) zM;simpa using this);have F:w1.heap[w.heap.size]? = some (d_ #[a_ a1 n1 c1,a_ a2 n2 N,a_ a3 n3 c3] 33 (0,0)):=gk b (gk (gr _ _) (gH w _));have B:gi (Up w w1):=gg zB;have t:=gg g;have aj:=gg F;have ay:w.heap.size+1+1≤w1.heap.size:=by have:=b.size;simpa using this
       clear g F b;obtain⟨C,j,s⟩:=iv aj.o
       go_wp2_with fail
       refine(CS _ m _ (Z.o.below B.o) HS.o).mono ?_
       rintro e w2 ⟨p,wv,pv,rv,rs,rfl,c,O⟩;have aH:=gg (gk O t.o);have B2:gi (Up w w2):=gg (gj B.o O);clear C j s t O;obtain⟨E,k,rfl,ao,aw⟩:=pB c.words (by rw[L.o];omega);obtain⟨f,r,rfl,aD,aB⟩:=pB c.res (by rw[ai.o];omega);obtain⟨A,u,rfl⟩:=gN c.pend;have aM:=(c.res.lt f rfl).1;have aN:=c.base;unfold maxLen at aw aB;have d:=gg c;clear c;rw[L.o] at d ao;rw[aG.o] at d;rw[ai.o] at d aD;obtain⟨t0,t1,t2⟩:=iv d.o.at_;have K:=d.o.words;(try simp only at K);rw[L.o] at K;obtain⟨u1,u2⟩:=tD K (C_ aK.o);clear K
       go_wp2
       go_quiet ((go_at_call 124;exact Calls.quiet_of_same ((mF n _).mono fun _ _ hh=>⟨hh.1,hh.2.symm⟩)))
       have aF:=gg (Hq d.o nq);have aJ:gi (Up w (w2.drewN nq)):=gg (lJ B2.o nq);have an:gi ((w2.drewN nq).heap[w.heap.size+1]? = some (d_ #[a_ none 0 0,a_ none 0 0,a_ none 0 0] 33 (0,0))):=gg aH.o;clear t0 t1 t2 u1 u2;generalize w2.drewN nq=w2d at *
       go_wp2_with (go_at_call 158;((with_reducible refine(IX op wa n _).mono ?_);rintro e w' ⟨rfl,rfl⟩))
       refine(EQ w1.heap.size p m _ _ _ rs h a (gY op wa n) _ aF.o HS.o ⟨h3,by rw[L.o];exact h4⟩).mono ?_
       rintro e I ⟨rfl,ag,V⟩;have X:=gg ag;have BG:gi (Up w I):=gg (aJ.o.trans (V.mono (by have:=B.o.size;omega)));have aA:gi (I.heap[w.heap.size+1]? = some (d_ #[a_ none 0 0,a_ none 0 0,a_ none 0 0] 33 (0,0))):=gg (iE V f_ an.o);clear ag V
       go_wp2
       have lp:=gn X.o.at_;have ax:w.heap.size+1≠p:=by omega
       refine fX (fun w'=>p<w'.heap.size∧w'.heap[p]? = some (d_ #[a_ (some ⟨E,0,none⟩) n1 k,a_ A n2 u,a_ (some ⟨f,0,none⟩) n3 r] 187 (0,0))) [true,true,true,true,true]
        (fun w1 w2 h hu=>⟨fN h.1 hu.size,gk hu h.2⟩) ⟨lp,X.o.at_⟩ ?ad2 ?hd2 ?htd2
       case hd2=>
        intro w0 ⟨S,c1⟩;obtain⟨C,j,s⟩:=iv c1;have y0:=fun x=>gD S C x
        have y1:=fun x=>gD S j x
        have y2:=fun x=>gD S s x
        clear c1 C j s;simp only[jd];repeat(go_big_quiet_step (fail))
        refine wpQuiet_nil ?_
        rfl
       case htd2=>
        change kN _ _ _ _ _ 3 _ _ _;refine js (i:=5) ga rfl ?_
        intro w4 af aa;have aq:gi (Up I w4):=gg (nE af);have aE:=gg aa;clear af aa
        go_wp2
        refine⟨aE.o,?_⟩;refine js (i:=6) ga rfl ?_
        intro w5 am ak;have Q:gi (Up I w5):=gg (mI aq.o am);have ad:=gg ak;clear am ak;have R:=gg (gk Q.o aA.o);obtain⟨⟨v0,v1,v2⟩,f0,f1,f2⟩:=iK R.o
        go_wp2
        have P:=gg (jT (x:=a_ (some ⟨E,0,none⟩) n1 k) (y:=a_ A n2 u) (z:=a_ (some ⟨f,0,none⟩) n3 r) R.o);refine⟨⟨by simp only[kj];exact ad.o.1,by rw[P.o.2 p (Ne.symm ax)];exact ad.o.2⟩,?_⟩;have aC:=gg (pJ (a_ (some ⟨E,0,none⟩) n1 k) (a_ A n2 u) (a_ (some ⟨f,0,none⟩) n3 r) ((X.o.isMem).below Q.o) R.o);have B6:=gg (kt (x:=a_ (some ⟨E,0,none⟩) n1 k) (y:=a_ A n2 u) (z:=a_ (some ⟨f,0,none⟩) n3 r) (gj BG.o Q.o) (show w.heap.size≤w.heap.size+1 by omega));have ar:=gg (P.o.1);clear v0 v1 v2 f0 f1 f2 P;refine js (i:=7) ga rfl ?_
        intro w7 J ae;have au:=gg (aC.o.below J);have B7:=gg (gj B6.o J);have az:=gg (gk J ar.o);have aI:=gg ae;clear J ae
        go_wp2
        refine⟨aI.o,?_⟩;refine od ga ?_
        intro w8 H _;have av:=gg (au.o.below H);have B8:=gg (gj B7.o H);obtain⟨r0,r1,r2⟩:=iv (gk H az.o);clear H
        go_wp2
        exact bodyPost_ret (v:=fI #[b_ c_ wa,e_ #[a_ (some ⟨E,0,none⟩) n1 k,a_ A n2 u,a_ (some ⟨f,0,none⟩) n3 r],b_ c_ 0]) (by simp[results,Tryz.results164,go_sem,r0,r1,r2]) rfl ⟨_,rfl,av.o,B8.o⟩
theorem L0 v m h a n w (hm:gM w v m) (hs:jC m) :
 Calls gd 161 #[v,b_ c_ h,b_ c_ a,b_ c_ n] w (oj w w.heap.size (A2 m h a n)):=by
 have HM:=gg hm;have HS:=gg hs;obtain⟨a1,c1,a2,l,a3,c3,bf,rfl,_,_,_,_⟩:=hm.parts;unfold oj A2;cases hh:jm m h a
 · rw[if_neg fZ]
   have HH:=gg hh;clear hh hm;generalize M:m.words.length=n1 at *
   generalize P:m.pend.length=n2 at *
   generalize K:m.res.length=n3 at *
   clear M P K;go_in
   go_wp2_with fail
   refine(yB _ m h a false _ (HM.o.below zB) HH.o).mono ?_
   rintro e w1 ⟨rfl,c⟩;have q:w1.heap[w.heap.size+1]? = some (d_ #[a_ none 0 0,a_ none 0 0,a_ none 0 0] 33 (0,0)):=gk c (by have:=gH (w.alloc (d_ #[a_ a1 n1 c1,a_ a2 n2 l,a_ a3 n3 c3] 33)) zM;simpa using this);have A:w1.heap[w.heap.size]? = some (d_ #[a_ a1 n1 c1,a_ a2 n2 l,a_ a3 n3 c3] 33 (0,0)):=gk c (gk (gr _ _) (gH w _));have C:gi (Up w w1):=gg zB;have B:=gg q;have V:=gg A;have aq:w.heap.size+1+1≤w1.heap.size:=by have:=c.size;simpa using this
   clear q A c;obtain⟨⟨T,F,Q⟩,f0,f1,f2⟩:=iK B.o;obtain⟨s0,X,Z⟩:=iv (jT (x:=a_ none 0 0) (y:=a_ none 0 0) (z:=a_ none 0 0) B.o).1
   go_wp2
   exact bodyPost_ret (v:=fI #[e_ #[a_ none 0 0,a_ none 0 0,a_ none 0 0],b_ c_ 1]) (by simp[results,Tryz.results161,go_sem,s0,X,Z]) rfl ⟨_,rfl,lX _,kt C.o f_⟩
 · rw[if_pos rfl]
   obtain⟨h0,h1,h2,h3,h4⟩:=uN hh;obtain⟨I,O,ar,bg,rfl,e0,e1,e2,e3,aE,aW⟩:=hm.row h1 h0;have HH:=gg hh;have am:=gg aE;clear hh hm aE aW e0;have ba:(iA m h).length≤1000:=HS.o.each _ (List.mem_of_getElem? (yS h1 h0));by_cases af:8≤(iA m h).length
   · rw[if_pos af]
     generalize M:m.words.length=n1 at *
     generalize P:m.pend.length=n2 at *
     generalize K:m.res.length=n3 at *
     clear M P K;generalize Y:(iA m h).length=d at *
     clear Y;go_in
     go_wp2_with fail
     refine(yB _ m h a true _ (HM.o.below zB) HH.o).mono ?_
     rintro e w1 ⟨rfl,c⟩;have q:w1.heap[w.heap.size+1]? = some (d_ #[a_ none 0 0,a_ none 0 0,a_ none 0 0] 33 (0,0)):=gk c (by have:=gH (w.alloc (d_ #[a_ a1 n1 c1,a_ (some ⟨I,O,none⟩) n2 l,a_ a3 n3 c3] 33)) zM;simpa using this);have A:w1.heap[w.heap.size]? = some (d_ #[a_ a1 n1 c1,a_ (some ⟨I,O,none⟩) n2 l,a_ a3 n3 c3] 33 (0,0)):=gk c (gk (gr _ _) (gH w _));have C:gi (Up w w1):=gg zB;have B:=gg q;have V:=gg A;have aq:w.heap.size+1+1≤w1.heap.size:=by have:=c.size;simpa using this
     clear q A c;have kk:=(iv V.o).2.1;have kr:=(C.o.cell (p:=⟨I,O+h.toNat,none⟩) e3).trans am.o;obtain⟨⟨T,F,Q⟩,f0,f1,f2⟩:=iK B.o;obtain⟨s0,X,Z⟩:=iv (jT (x:=a_ none 0 0) (y:=a_ none 0 0) (z:=a_ none 0 0) B.o).1
     go_wp2
     exact bodyPost_ret (v:=fI #[e_ #[a_ none 0 0,a_ none 0 0,a_ none 0 0],b_ c_ 90]) (by simp[results,Tryz.results161,go_sem,s0,X,Z]) rfl ⟨_,rfl,lX _,kt C.o f_⟩
   · rw[if_neg af]
     have a9:(iA m h).length<8:=by omega
     clear af;generalize M:m.words.length=n1 at *
     generalize P:m.pend.length=n2 at *
     generalize K:m.res.length=n3 at *
     have a7:=gg M;have al:=gg P;have aT:=gg K;clear M P K;obtain⟨d,Y⟩:∃ d,(iA m h).length=d:=⟨_,rfl⟩;rw[Y] at am a9 ba;have aH:=gg Y;clear Y;obtain⟨i0,hi,aX,a0,aS⟩:=info_parts BN;go_in
     go_wp2_with fail
     refine(yB _ m h a true _ (HM.o.below zB) HH.o).mono ?_
     rintro e w1 ⟨rfl,c⟩;have q:w1.heap[w.heap.size+1]? = some (d_ #[a_ none 0 0,a_ none 0 0,a_ none 0 0] 33 (0,0)):=gk c (by have:=gH (w.alloc (d_ #[a_ a1 n1 c1,a_ (some ⟨I,O,none⟩) n2 l,a_ a3 n3 c3] 33)) zM;simpa using this);have A:w1.heap[w.heap.size]? = some (d_ #[a_ a1 n1 c1,a_ (some ⟨I,O,none⟩) n2 l,a_ a3 n3 c3] 33 (0,0)):=gk c (gk (gr _ _) (gH w _));have C:gi (Up w w1):=gg zB;have B:=gg q;have V:=gg A;have aq:w.heap.size+1+1≤w1.heap.size:=by have:=c.size;simpa using this
     clear q A c;have kk:=(iv V.o).2.1;have kr:=(C.o.cell (p:=⟨I,O+h.toNat,none⟩) e3).trans am.o;obtain⟨T,F,Q⟩:=iv V.o
     go_wp2_with fail
     refine(CS _ m _ (HM.o.below C.o) HS.o).mono ?_
     rintro e w2 ⟨p,wv,pv,rv,rs,rfl,o,ag⟩;have an:=gg (gk ag B.o);have B2:gi (Up w w2):=gg (gj C.o ag);obtain⟨b,H,r,rfl,bb,bk,hr,ax,be,ad⟩:=o.rowAt h0 (by rw[al.o];exact h1);obtain⟨E,G,rfl⟩:=gN o.words;obtain⟨J,R,rfl⟩:=gN o.res;obtain⟨xr,yr,rfl⟩:=gN ad;rw[aH.o] at hr ax ad;rw[al.o] at bb;have bj:w1.heap.size≤b:=(o.pend.lt b rfl).1;have bh:=o.base;have aQ:=(o.pend.lt b rfl).2;have ak:=gg o;have HR:=gg hr;have aV:=gg ad;have lp:=gn o.at_;clear o ag hr ad T F Q kk kr B;rw[a7.o,al.o,aT.o] at ak;have bi:w.heap.size+1<w2.heap.size:=gn an.o
     go_wp2
     refine fY (fun w'=>(p<w'.heap.size∧b<w'.heap.size)∧w'.heap[p]? = some (d_ #[a_ E n1 G,a_ (some ⟨b,0,none⟩) n2 H,a_ J n3 R] 187 (0,0))∧w'.cell? ⟨b,h.toNat,none⟩=some (a_ xr d yr)) 20 [true,true,true,true,true,true,true,true,true,true,true,true,true,true,true,true]
      (fun w1 w2 h hu=>⟨⟨fN h.1.1 hu.size,fN h.1.2 hu.size⟩,gk hu h.2.1,by rw[hu.cell (p:=⟨b,_,none⟩) h.1.2];exact h.2.2⟩) ⟨⟨lp,aQ⟩,ak.o.at_,ax⟩ ?a' ?h ?ht
     case h=>
      intro w0 ⟨⟨l1,l2⟩,c1,l⟩;obtain⟨T,F,Q⟩:=iv c1;have y0:=fun x=>gD l1 T x
      have y1:=fun x=>gD l1 F x
      have y2:=fun x=>gD l1 Q x
      have y3:=fun x=>gD l2 l x
      clear c1 l T F Q;simp only[jd];repeat(go_big_quiet_step (fail))
      refine wpQuiet_nil ?_
      rfl
     case ht=>
      change kD _ _ _ _ _ _ 4 _ _ _;refine jQ (i:=16) ga fZ rfl ?_
      intro w3 au aD;have aR:gi (Up w2 w3):=gg (nE au);have a5:=gg aD;clear au aD
      go_wp2_with (go_at_call 124;((with_reducible refine(mF n _).mono ?_);rintro e w' ⟨rfl,rfl⟩))
      refine⟨a5.o,?_⟩;refine jQ (i:=17) ga fZ rfl ?_
      intro w4 ap ao;have aI:=gg (mI aR.o ap);have a6:=gg ao;clear ap ao
      go_wp2
      refine⟨a6.o,?_⟩;refine jQ (i:=18) ga fZ rfl ?_
      intro k aG av;have aO:=gg (mI aI.o aG);have U:=gg av;clear aG av
      go_wp2
      refine⟨⟨⟨fN U.o.1.1 (gr k _).size,fN U.o.1.2 (gr k _).size⟩,gk (gr k _) U.o.2.1,by rw[(gr k _).cell (p:=⟨b,_,none⟩) U.o.1.2];exact U.o.2.2⟩,?_⟩;refine jQ (i:=19) ga fZ rfl ?_
      intro N aj az;have aA:gi (N.heap[k.heap.size]? = some (d_ #[b_ c_ a,b_ c_ (wrap32 n)] 127 (0,0))):=gg (gk aj (gH k _));have D:gi (Up w2 N):=gg (mI aO.o (mI (gr k _) aj));have t:=gg az;clear aj az;have aa:=gg (ak.o.below D.o);have S:=gg (gy aV.o D.o)
      have aM:gi (∀ j u,(gW [(a,wrap32 n)])[j]? = some u→N.cell? ((⟨k.heap.size,0,none⟩:Addr).add j)=some u):=gg (fun j u hj=>by
       rw[kx];have aK:=(fR hj).1;simp only[gW,List.length_cons,List.length_nil] at aK;rcases(by omega:j=0∨j=1) with rfl|rfl
       · simp[gW] at hj;subst hj;exact gv aA.o rfl
       · simp[gW] at hj;subst hj;exact gv aA.o rfl)
      have bc:(d+1)*16≤140737488355328:=by omega
      have aP:d+1≤maxLen:=by unfold maxLen;omega
      have aY:w1.heap.size≤N.heap.size:=by have:=D.o.size;omega
      refine wpList_append_own _ rfl _ _ 57 rfl w1.heap.size 127 i0 (e_ #[b_ c_ 0,b_ c_ 0]) 2 16 Tryz.underlying57 hi aX a0 aS rfl fZ _ _ _ rfl S.o ⟨k.heap.size,0,none⟩ 1 1 (gW [(a,wrap32 n)]) rfl rfl aM.o (tI _) aP bc aY ?_
      intro v' s ac aB _;obtain⟨xv,yv,rfl⟩:=gN ac;rw[←Fc] at ac;have aN:=gg ac;have f:=gg aB;clear ac aB;have q1:s.heap[p]? = N.heap[p]?:=f.o.block p t.o.1.1 (fun e=>gS S.o t.o.2.1 fZ e.symm);have q2:s.heap[b]? = N.heap[b]?:=f.o.block b t.o.1.2 (fun e=>ku aa.o.pend S.o fZ (g:=b) rfl e.symm);have ae:gi ((p<s.heap.size∧b<s.heap.size)∧s.heap[p]? = some (d_ #[a_ E n1 G,a_ (some ⟨b,0,none⟩) n2 H,a_ J n3 R] 187 (0,0))∧s.cell? ⟨b,h.toNat,none⟩=some (a_ xr d yr)):=gg ⟨⟨fN t.o.1.1 f.o.size,fN t.o.1.2 f.o.size⟩,by rw[q1];exact t.o.2.1,by rw[World.cell?_of_block (a:=⟨b,h.toNat,none⟩) q2];exact t.o.2.2⟩;have ay:s.heap[w.heap.size+1]? = some (d_ #[a_ none 0 0,a_ none 0 0,a_ none 0 0] 33 (0,0)):=by rw[f.o.block (w.heap.size+1) (by have:=D.o.size;omega) (fun e=>gS S.o (gk D.o an.o) fZ e.symm)];exact gk D.o an.o
      have aJ:=gg ay;clear ay q1 q2;have B7:gi (Up w s):=gg (yY (gj B2.o D.o) f.o (fun g e=>by have:=(S.o.lt g e).1;omega))
      go_wp2
      refine⟨ae.o,?_⟩;refine lR ga ?_
      intro W aC bd;have L:=gg aC;clear aC bd;have ai:=gg (aa.o.stored fZ fZ HR.o (BA f.o f.o.size L.o) (r':=a_ xv (d+1) yv) (l':=iA m h ++ [(a,wrap32 n)]) (by simp only[List.length_append,List.length_cons,List.length_nil,aH.o];exact gy aN.o L.o) rfl);obtain⟨cc,aF⟩:=pE aa.o.pend (g:=b) rfl;have a4:W.frozen? ⟨b,h.toNat,none⟩=false:=gC (show W.heap[b]? = some (d_ cc _ (0,0)) by rw[L.o.block b ae.o.1.2,f.o.block b t.o.1.2 (fun e=>ku aa.o.pend S.o fZ (g:=b) rfl e.symm)];exact aF) _;have a8:=(L.o.cell (p:=⟨b,h.toNat,none⟩) ae.o.1.2).trans ae.o.2.2;have aZ:=gg (gk L.o aJ.o);have B8:=gg (gj B7.o L.o);clear aF;have ab:gi ((W.setCell ⟨b,h.toNat,none⟩ (a_ xv (d+1) yv)).heap[w.heap.size+1]? = some (d_ #[a_ none 0 0,a_ none 0 0,a_ none 0 0] 33 (0,0))):=gg (by rw[iY f_];exact aZ.o);have B9:gi (Up w (W.setCell ⟨b,h.toNat,none⟩ (a_ xv (d+1) yv))):=gg (gO B8.o f_ _);simp only[List.drop_succ_cons,List.drop_zero];go_upto_region 7 with(fail)
      obtain⟨w9,ah⟩:∃ w9,W.setCell ⟨b,h.toNat,none⟩ (a_ xv (d+1) yv)=w9:=⟨_,rfl⟩;rw[ah] at ab B9 ai;rw[ah];clear ah a4 a8;obtain⟨⟨f0,f1,f2⟩,g0,g1,g2⟩:=iK ab.o;obtain⟨t0,t1,t2⟩:=iv ai.o.1;obtain⟨s0,X,Z⟩:=iv (jT (x:=a_ E n1 G) (y:=a_ (some ⟨b,0,none⟩) n2 H) (z:=a_ J n3 R) ab.o).1;have aU:=gg (pJ (a_ E n1 G) (a_ (some ⟨b,0,none⟩) n2 H) (a_ J n3 R) ai.o.2 ab.o);have aL:=gg (kt (x:=a_ E n1 G) (y:=a_ (some ⟨b,0,none⟩) n2 H) (z:=a_ J n3 R) B9.o (show w.heap.size≤w.heap.size+1 by omega))
      go_wp2
      exact bodyPost_ret (v:=fI #[e_ #[a_ E n1 G,a_ (some ⟨b,0,none⟩) n2 H,a_ J n3 R],b_ c_ 0]) (by simp[results,Tryz.results161,go_sem,s0,X,Z]) rfl ⟨_,rfl,aU.o,aL.o⟩
theorem Ji b c a q r (w) (f:w.cell? ⟨q,0,none⟩=some (b_ c_ a)) (g:q<w.heap.size) (d:(b == a)=r) :
 Calls gd 121 #[e_ #[b_ c_ b,b_ c_ c],fG (some ⟨q,0,none⟩)] w fun e w'=>e =fH (fJ r)∧Up w w':=by
 go_wp2
 go_ret;exact⟨gt (iO (by first|rfl|exact d)),gr _ _⟩
def mJ (l:List (Int×Int)) (a:Int):Bool:=l.any fun x=>decide (x.1=a)
theorem Gz l x (a):mJ (l ++ [x]) a=(mJ l a || decide (x.1=a)):=by simp[mJ]
theorem Gy {l:List (Int×Int)} {a} {j k} {x} (b:j<k) (c:l[j]? = some x) (h:x.1=a):mJ (l.take k) a=true:=by
 unfold mJ;rw[List.any_eq_true];refine⟨x,?_,by simp[h]⟩;apply List.mem_of_getElem? (i:=j);rw[List.getElem?_take,if_pos b,c]
def Jl (w:World) (r:Bool) (e:Ending) (w':World):Prop:=(∃ n:Int,e =fH (b_ c_ n)∧decide (0≤n)=r)∧Up w w'
theorem Nd (b o k c q) (l:List (Int×Int)) (a) (w) (M:k≤l.length) (O:k≤c) (_:c≤9223372036854775807) (z:b<w.heap.size) (y:∀ j x,l[j]? = some x→w.cell? ⟨b,o+j*2,none⟩=some (b_ c_ x.1)∧w.cell? ⟨b,o+j*2+1,none⟩=some (b_ c_ x.2))
 (r:w.cell? ⟨q,0,none⟩=some (b_ c_ a)) (u:q<w.heap.size) (N:k≤1000) :
 Calls gd 167 #[a_ (some ⟨b,o,none⟩) k c,.func (.func 121) #[] #[fG (some ⟨q,0,none⟩)]] w (Jl w (mJ (l.take k) a)):=by
 have D:=gg y;have I:=gg r;clear y r;unfold Jl;go_in
 go_wp2
 go_loopw [8,5] (fun i _ wr=>∃ j:Nat,j≤k∧i =b_ c_ j∧mJ (l.take j) a=false∧Up w wr) (fun i _ _=>k - (intOf i).toNat)
 case atStart=>exact⟨0,fM,rfl,rfl,fK⟩
 case round=>
  obtain⟨j,Q,rfl,s,n⟩:=hrel;have t:=gg s;have d:=gg n;clear s n;have v:=gg ((d.o.cell (p:=⟨q,0,none⟩) u).trans I.o);have B:q<wr.heap.size:=fN u d.o.size;by_cases H:j<k
  · have C:j<l.length:=by omega
    obtain⟨h1,h2⟩:=D.o j l[j] gb;have L:=(d.o.cell (p:=⟨b,o+j*2,none⟩) z).trans h1;have P:=(d.o.cell (p:=⟨b,o+j*2+1,none⟩) z).trans h2;have J:gi (l[j]? = some l[j]):=gg gb;have K:gi (mJ (l.take (j+1)) a=(mJ (l.take j) a || decide (l[j].1=a))):=gg (by rw[fP C,Gz]);clear h1 h2;generalize l[j]=x at *
    obtain⟨g,A⟩:=x;simp only at *
    cases f:(g == a)
    · have G:gi (mJ (l.take (j+1)) a=false):=gg (by rw[K.o,t.o];simp at f;simp[f])
      have h:=gg f;clear f
      go_wp2_with (go_at_call 121;((with_reducible refine(Ji g A a q false _ v.o B h.o).mono ?_);rintro e w1 ⟨rfl,m⟩))
      go_roundw
      case rel=>exact⟨j+1,by omega,by go_num,G.o,gj d.o m⟩
      case measure=>simp[intOf];omega
    · have F:gi (mJ (l.take k) a=true):=gg (Gy H J.o (by simpa using f))
      have h:=gg f;clear f
      go_wp2_with (go_at_call 121;((with_reducible refine(Ji g A a q true _ v.o B h.o).mono ?_);rintro e w1 ⟨rfl,m⟩))
      go_ret;exact⟨⟨_,rfl,by rw[F.o];simp⟩,gj d.o m⟩
  · have E:j=k:=by omega
    subst E
    go_wp2
    go_ret;exact⟨⟨_,rfl,by rw[t.o];rfl⟩,d.o⟩
theorem GT (b o k c q) (l:List (Int×Int)) (a) (r) (w) (z:mJ (l.take k) a=r) (p:k≤l.length) (y:k≤c) (h:c≤9223372036854775807) (u:b<w.heap.size) (f:∀ j x,l[j]? = some x→w.cell? ⟨b,o+j*2,none⟩=some (b_ c_ x.1)∧w.cell? ⟨b,o+j*2+1,none⟩=some (b_ c_ x.2))
 (d:w.cell? ⟨q,0,none⟩=some (b_ c_ a)) (i:q<w.heap.size) (t:k≤1000) :
 Calls gd 120 #[a_ (some ⟨b,o,none⟩) k c,.func (.func 121) #[] #[fG (some ⟨q,0,none⟩)]] w fun e w'=>e =fH (fJ r)∧Up w w':=by
 subst z;have s:=gg (Nd b o k c q l a w p y h u f d i t);go_in
 go_wp2_with (go_at_call 167;((with_reducible refine(s.o).mono ?_);rintro e w1 ⟨⟨n,rfl,g⟩,m⟩;have v:=gg g;clear g))
 go_ret;exact⟨gt (iO (by first|exact v.o|rfl)),m⟩
theorem Ge {m h} (a:m6 m h=true):0≤h∧h<m.pend.length∧h<m.res.length:=by
 simp only[m6,Bool.and_eq_true,decide_eq_true_eq] at a;omega
theorem Fz {w a n c l} (h:gl w 2 n (a_ a n c) (gW l)) (k:0<n):∃ b o,a=some ⟨b,o,none⟩∧b<w.heap.size∧n≤c∧c≤9223372036854775807 ∧
 ∀ j x,l[j]? = some x→w.cell? ⟨b,o+j*2,none⟩=some (b_ c_ x.1)∧w.cell? ⟨b,o+j*2+1,none⟩=some (b_ c_ x.2):=by
 obtain⟨b,o,p,e,m,i,g,d⟩:=h.some k;injection e with e1 _ e2
 subst e1 e2;unfold maxLen at g;refine⟨b,o,rfl,m,i,by omega,fun j x f=>?_⟩;obtain⟨h1,h2⟩:=Eg l j x f;exact⟨d _ _ h1,d _ _ h2⟩
theorem MY {m h} {k:Nat} {x} (b:m6 m h=true) (a:(iA m h)[k]? = some x):mV m h k=(if jm m h x.1 then (if mJ ((iA m h).take k) x.1 then (lY,91) else (vk m h k,0)) else (lY,1)):=by
 have c:=(fR a).1;unfold mV Er mJ;rw[b];simp only[Int.toNat_natCast];have e:(iA m h).getD k (0,0)=x:=by rw[List.getD_eq_getElem?_getD,a];rfl
 simp only[e];rw[if_pos (by simp;omega)]
theorem F1 {m} {h k:Int} (a:m6 m h=false∨k<0∨(iA m h).length≤k):mV m h k=(lY,1):=by
 unfold mV;rw[if_neg];intro h2;simp only[Bool.and_eq_true,decide_eq_true_eq] at h2;rcases a with h3|h3
 · rw[h3] at h2;exact absurd h2.1 fZ
 · omega
theorem Hc v m h k w (U:gM w v m) (hs:jC m) :
 Calls gd 78 #[v,b_ c_ h,b_ c_ k] w (oj w w.heap.size (mV m h k)):=by
 have I:=gg U;have HS:=gg hs;obtain⟨a1,c1,a2,q,a3,c3,aN,rfl,_,_,_,_⟩:=U.parts;unfold oj;cases G:m6 m h
 · rw[F1 (.inl G)]
   have M:=gg G;clear G U;generalize N:m.words.length=n1 at *
   generalize O:m.pend.length=n2 at *
   generalize Q:m.res.length=n3 at *
   clear N O Q;go_in
   go_wp2_with fail
   refine(AS _ m h false _ (I.o.below zB) M.o).mono ?_
   rintro e w1 ⟨rfl,a⟩;have f:w1.heap[w.heap.size+1]? = some (d_ #[a_ none 0 0,a_ none 0 0,a_ none 0 0] 33 (0,0)):=gk a (by have:=gH (w.alloc (d_ #[a_ a1 n1 c1,a_ a2 n2 q,a_ a3 n3 c3] 33)) zM;simpa using this);have n:w1.heap[w.heap.size]? = some (d_ #[a_ a1 n1 c1,a_ a2 n2 q,a_ a3 n3 c3] 33 (0,0)):=gk a (gk (gr _ _) (gH w _));have b:gi (Up w w1):=gg zB;have l:=gg f;have d:=gg n;have Z:w.heap.size+1+1≤w1.heap.size:=by have:=a.size;simpa using this
   clear f n a;obtain⟨⟨o,g,i⟩,f0,f1,f2⟩:=iK l.o;obtain⟨D,F,C⟩:=iv (jT (x:=a_ none 0 0) (y:=a_ none 0 0) (z:=a_ none 0 0) l.o).1
   go_wp2_with fail
   exact bodyPost_ret (v:=fI #[e_ #[a_ none 0 0,a_ none 0 0,a_ none 0 0],b_ c_ 1]) (by simp[results,Tryz.results78,go_sem,D,F,C]) rfl ⟨_,rfl,lX _,kt b.o f_⟩
 · obtain⟨h0,h1,h2⟩:=Ge G
   by_cases aC:k<0
   · rw[F1 (.inr (.inl aC))]
     have M:=gg G;clear G U;generalize N:m.words.length=n1 at *
     generalize O:m.pend.length=n2 at *
     generalize Q:m.res.length=n3 at *
     clear N O Q;go_in
     go_wp2_with fail
     refine(AS _ m h true _ (I.o.below zB) M.o).mono ?_
     rintro e w1 ⟨rfl,a⟩;have f:w1.heap[w.heap.size+1]? = some (d_ #[a_ none 0 0,a_ none 0 0,a_ none 0 0] 33 (0,0)):=gk a (by have:=gH (w.alloc (d_ #[a_ a1 n1 c1,a_ a2 n2 q,a_ a3 n3 c3] 33)) zM;simpa using this);have n:w1.heap[w.heap.size]? = some (d_ #[a_ a1 n1 c1,a_ a2 n2 q,a_ a3 n3 c3] 33 (0,0)):=gk a (gk (gr _ _) (gH w _));have b:gi (Up w w1):=gg zB;have l:=gg f;have d:=gg n;have Z:w.heap.size+1+1≤w1.heap.size:=by have:=a.size;simpa using this
     clear f n a;obtain⟨⟨o,g,i⟩,f0,f1,f2⟩:=iK l.o;obtain⟨D,F,C⟩:=iv (jT (x:=a_ none 0 0) (y:=a_ none 0 0) (z:=a_ none 0 0) l.o).1
     go_wp2_with fail
     exact bodyPost_ret (v:=fI #[e_ #[a_ none 0 0,a_ none 0 0,a_ none 0 0],b_ c_ 1]) (by simp[results,Tryz.results78,go_sem,D,F,C]) rfl ⟨_,rfl,lX _,kt b.o f_⟩
   · obtain⟨c,rfl⟩:∃ c:Nat,k=c:=⟨k.toNat,by omega⟩
     obtain⟨s,r,ar,aO,rfl,e0,e1,e2,e3,aB,aA⟩:=U.row h1 h0;have M:=gg G;have aa:=gg aB;have az:=gg aA;clear U aB aA e0 aC;have aL:(iA m h).length≤1000:=HS.o.each _ (List.mem_of_getElem? (yS h1 h0));by_cases aw:c<(iA m h).length
     rotate_left
     · rw[F1 (.inr (.inr f_))]
       clear G;generalize N:m.words.length=n1 at *
       generalize O:m.pend.length=n2 at *
       generalize Q:m.res.length=n3 at *
       clear N O Q;have aP:((iA m h).length:Int)≤c:=by omega
       generalize (iA m h).length=ln at *
       clear aw;go_in
       go_wp2_with fail
       refine(AS _ m h true _ (I.o.below zB) M.o).mono ?_
       rintro e w1 ⟨rfl,a⟩;have f:w1.heap[w.heap.size+1]? = some (d_ #[a_ none 0 0,a_ none 0 0,a_ none 0 0] 33 (0,0)):=gk a (by have:=gH (w.alloc (d_ #[a_ a1 n1 c1,a_ (some ⟨s,r,none⟩) n2 q,a_ a3 n3 c3] 33)) zM;simpa using this);have n:w1.heap[w.heap.size]? = some (d_ #[a_ a1 n1 c1,a_ (some ⟨s,r,none⟩) n2 q,a_ a3 n3 c3] 33 (0,0)):=gk a (gk (gr _ _) (gH w _));have b:gi (Up w w1):=gg zB;have l:=gg f;have d:=gg n;have Z:w.heap.size+1+1≤w1.heap.size:=by have:=a.size;simpa using this
       clear f n a;have T:=(iv d.o).2.1;have S:=(b.o.cell (p:=⟨s,r+h.toNat,none⟩) e3).trans aa.o;obtain⟨⟨o,g,i⟩,f0,f1,f2⟩:=iK l.o;obtain⟨D,F,C⟩:=iv (jT (x:=a_ none 0 0) (y:=a_ none 0 0) (z:=a_ none 0 0) l.o).1
       go_wp2_with fail
       exact bodyPost_ret (v:=fI #[e_ #[a_ none 0 0,a_ none 0 0,a_ none 0 0],b_ c_ 1]) (by simp[results,Tryz.results78,go_sem,D,F,C]) rfl ⟨_,rfl,lX _,kt b.o f_⟩
     · have A:(iA m h)[c]? = some (iA m h)[c]:=by simp
       generalize (iA m h)[c]=x at A;rw[MY G A];obtain⟨L,J,rfl,f1,f2,f3,f4⟩:=Fz az.o f_;obtain⟨g1,g2⟩:=f4 c x A;have ai:=gg f4;have aG:=gg A;have ao:=gg g1;clear f4 G A g1 g2 az;obtain⟨t,x2⟩:=x;simp only at *
       generalize N:m.words.length=n1 at *
       generalize O:m.pend.length=n2 at *
       generalize Q:m.res.length=n3 at *
       have aR:=gg N;have aS:=gg O;have aQ:=gg Q;clear N O Q;obtain⟨ln,al⟩:∃ ln,(iA m h).length=ln:=⟨_,rfl⟩;rw[al] at aw aL f2 aa;have ap:=gg al;clear al;cases ab:jm m h t
       · rw[if_neg fZ]
         have W:=gg ab;clear ab;go_in
         go_wp2_with fail
         refine(AS _ m h true _ (I.o.below zB) M.o).mono ?_
         rintro e w1 ⟨rfl,a⟩;have f:w1.heap[w.heap.size+1]? = some (d_ #[a_ none 0 0,a_ none 0 0,a_ none 0 0] 33 (0,0)):=gk a (by have:=gH (w.alloc (d_ #[a_ a1 n1 c1,a_ (some ⟨s,r,none⟩) n2 q,a_ a3 n3 c3] 33)) zM;simpa using this);have n:w1.heap[w.heap.size]? = some (d_ #[a_ a1 n1 c1,a_ (some ⟨s,r,none⟩) n2 q,a_ a3 n3 c3] 33 (0,0)):=gk a (gk (gr _ _) (gH w _));have b:gi (Up w w1):=gg zB;have l:=gg f;have d:=gg n;have Z:w.heap.size+1+1≤w1.heap.size:=by have:=a.size;simpa using this
         clear f n a;have T:=(iv d.o).2.1;have S:=(b.o.cell (p:=⟨s,r+h.toNat,none⟩) e3).trans aa.o;have kg:=(b.o.cell (p:=⟨L,J+c*2,none⟩) f1).trans ao.o;obtain⟨o,g,i⟩:=iv d.o;have ax:w.heap.size<w1.heap.size:=by omega
         go_wp2_with fail
         refine(yB _ m h t false _ (I.o.below (gj b.o (gr _ _))) W.o).mono ?_
         rintro e w2 ⟨rfl,u⟩;have B:gi (Up w1 w2):=gg (gj (gr _ _) u);have H:gi (w2.heap[w1.heap.size]? = some (d_ #[b_ c_ t] 3 (0,0))):=gg (gk u (gH w1 _));have R:=gg (gk B.o l.o);have P:=gg (gk B.o d.o);have E:=gg (gj b.o B.o);clear u o g i T S kg l d;obtain⟨⟨o,g,i⟩,f0,f1,f2⟩:=iK R.o;obtain⟨D,F,C⟩:=iv (jT (x:=a_ none 0 0) (y:=a_ none 0 0) (z:=a_ none 0 0) R.o).1
         go_wp2_with fail
         exact bodyPost_ret (v:=fI #[e_ #[a_ none 0 0,a_ none 0 0,a_ none 0 0],b_ c_ 1]) (by simp[results,Tryz.results78,go_sem,D,F,C]) rfl ⟨_,rfl,lX _,kt E.o f_⟩
       · rw[if_pos rfl]
         have W:=gg ab;cases ae:mJ ((iA m h).take c) t
         · rw[if_neg fZ]
           have aq:=gg ae;clear ae;go_in
           go_wp2_with fail
           refine(AS _ m h true _ (I.o.below zB) M.o).mono ?_
           rintro e w1 ⟨rfl,a⟩;have f:w1.heap[w.heap.size+1]? = some (d_ #[a_ none 0 0,a_ none 0 0,a_ none 0 0] 33 (0,0)):=gk a (by have:=gH (w.alloc (d_ #[a_ a1 n1 c1,a_ (some ⟨s,r,none⟩) n2 q,a_ a3 n3 c3] 33)) zM;simpa using this);have n:w1.heap[w.heap.size]? = some (d_ #[a_ a1 n1 c1,a_ (some ⟨s,r,none⟩) n2 q,a_ a3 n3 c3] 33 (0,0)):=gk a (gk (gr _ _) (gH w _));have b:gi (Up w w1):=gg zB;have l:=gg f;have d:=gg n;have Z:w.heap.size+1+1≤w1.heap.size:=by have:=a.size;simpa using this
           clear f n a;have T:=(iv d.o).2.1;have S:=(b.o.cell (p:=⟨s,r+h.toNat,none⟩) e3).trans aa.o;have kg:=(b.o.cell (p:=⟨L,J+c*2,none⟩) f1).trans ao.o;obtain⟨o,g,i⟩:=iv d.o;have ax:w.heap.size<w1.heap.size:=by omega
           go_wp2_with fail
           refine(yB _ m h t true _ (I.o.below (gj b.o (gr _ _))) W.o).mono ?_
           rintro e w2 ⟨rfl,u⟩;have B:gi (Up w1 w2):=gg (gj (gr _ _) u);have H:gi (w2.heap[w1.heap.size]? = some (d_ #[b_ c_ t] 3 (0,0))):=gg (gk u (gH w1 _));have R:=gg (gk B.o l.o);have P:=gg (gk B.o d.o);have E:=gg (gj b.o B.o);clear u o g i T S kg l d;have ka:=gv (j:=0) H.o rfl;obtain⟨o,g,i⟩:=iv P.o
           go_wp2_with fail
           refine(GT L J c _ w1.heap.size (iA m h) t false _ aq.o (by rw[ap.o];omega) f_ f_ (by have:=E.o.size;omega) (fun j x A=>⟨(E.o.cell (p:=⟨L,J+j*2,none⟩) f1).trans (ai.o j x A).1,(E.o.cell (p:=⟨L,J+j*2+1,none⟩) f1).trans (ai.o j x A).2⟩) (gv H.o rfl) (gn H.o) f_).mono ?_
           rintro e w3 ⟨rfl,K⟩;have Y:=gg (gk K R.o);have au:=gg (gk K P.o);have V:=gg (gj E.o K);clear K o g i ka R P H;obtain⟨o,g,i⟩:=iv au.o
           go_wp2_with fail
           refine(CS _ m _ (I.o.below V.o) HS.o).mono ?_
           rintro e w4 ⟨p,wv,pv,rv,rs,rfl,ay,ah⟩;have aE:=gg ay;have aH:=gg (gk ah Y.o);have B4:gi (Up w w4):=gg (gj V.o ah);have aF:=ah.size;have aJ:=V.o.size;have aK:=gn Y.o;clear ay ah o g i ab;obtain⟨mm,av⟩:∃ mm,ln=c+1+mm:=⟨ln - (c+1),by omega⟩;have aM:=gg av;clear av
           go_wp2_with fail
           refine(M4 w3.heap.size p c mm m wv pv rv rs h (t,x2) _ aE.o HS.o aF W.o (by rw[ap.o];exact aM.o) aG.o).mono ?_
           rintro e w5 ⟨rfl,⟨aT,X⟩,an⟩;obtain⟨ak,aj,rfl⟩:=gN X.words;obtain⟨ac,af,rfl⟩:=gN X.pend;obtain⟨ad,ag,rfl⟩:=gN X.res;generalize (vk m h c).words.length=d1 at *
           generalize (vk m h c).pend.length=d2 at *
           generalize (vk m h c).res.length=d3 at *
           have aD:=gg X;have am:gi (w5.heap[w.heap.size+1]? = some (d_ #[a_ none 0 0,a_ none 0 0,a_ none 0 0] 33 (0,0))):=gg (iE an aK aH.o);have B5:gi (Up w w5):=gg (B4.o.trans (an.mono aJ));clear X an;obtain⟨t0,t1,t2⟩:=iv aD.o.at_;obtain⟨⟨o,g,i⟩,g0,g1,g2⟩:=iK am.o;obtain⟨D,F,C⟩:=iv (jT (x:=a_ ak d1 aj) (y:=a_ ac d2 af) (z:=a_ ad d3 ag) am.o).1;have aI:=gg (pJ (a_ ak d1 aj) (a_ ac d2 af) (a_ ad d3 ag) aD.o.isMem am.o);have B6:=gg (kt (x:=a_ ak d1 aj) (y:=a_ ac d2 af) (z:=a_ ad d3 ag) B5.o (show w.heap.size≤w.heap.size+1 by omega))
           go_wp2_with fail
           exact bodyPost_ret (v:=fI #[e_ #[a_ ak d1 aj,a_ ac d2 af,a_ ad d3 ag],b_ c_ 0]) (by simp[results,Tryz.results78,go_sem,D,F,C]) rfl ⟨_,rfl,aI.o,B6.o⟩
         · rw[if_pos rfl]
           clear ab;have aq:=gg ae;clear ae;go_in
           go_wp2_with fail
           refine(AS _ m h true _ (I.o.below zB) M.o).mono ?_
           rintro e w1 ⟨rfl,a⟩;have f:w1.heap[w.heap.size+1]? = some (d_ #[a_ none 0 0,a_ none 0 0,a_ none 0 0] 33 (0,0)):=gk a (by have:=gH (w.alloc (d_ #[a_ a1 n1 c1,a_ (some ⟨s,r,none⟩) n2 q,a_ a3 n3 c3] 33)) zM;simpa using this);have n:w1.heap[w.heap.size]? = some (d_ #[a_ a1 n1 c1,a_ (some ⟨s,r,none⟩) n2 q,a_ a3 n3 c3] 33 (0,0)):=gk a (gk (gr _ _) (gH w _));have b:gi (Up w w1):=gg zB;have l:=gg f;have d:=gg n;have Z:w.heap.size+1+1≤w1.heap.size:=by have:=a.size;simpa using this
           clear f n a;have T:=(iv d.o).2.1;have S:=(b.o.cell (p:=⟨s,r+h.toNat,none⟩) e3).trans aa.o;have kg:=(b.o.cell (p:=⟨L,J+c*2,none⟩) f1).trans ao.o;obtain⟨o,g,i⟩:=iv d.o;have ax:w.heap.size<w1.heap.size:=by omega
           go_wp2_with fail
           refine(yB _ m h t true _ (I.o.below (gj b.o (gr _ _))) W.o).mono ?_
           rintro e w2 ⟨rfl,u⟩;have B:gi (Up w1 w2):=gg (gj (gr _ _) u);have H:gi (w2.heap[w1.heap.size]? = some (d_ #[b_ c_ t] 3 (0,0))):=gg (gk u (gH w1 _));have R:=gg (gk B.o l.o);have P:=gg (gk B.o d.o);have E:=gg (gj b.o B.o);clear u o g i T S kg l d;have ka:=gv (j:=0) H.o rfl;obtain⟨o,g,i⟩:=iv P.o
           go_wp2_with fail
           refine(GT L J c _ w1.heap.size (iA m h) t true _ aq.o (by rw[ap.o];omega) f_ f_ (by have:=E.o.size;omega) (fun j x A=>⟨(E.o.cell (p:=⟨L,J+j*2,none⟩) f1).trans (ai.o j x A).1,(E.o.cell (p:=⟨L,J+j*2+1,none⟩) f1).trans (ai.o j x A).2⟩) (gv H.o rfl) (gn H.o) f_).mono ?_
           rintro e w3 ⟨rfl,K⟩;have Y:=gg (gk K R.o);have au:=gg (gk K P.o);have V:=gg (gj E.o K);clear K o g i ka R P H;obtain⟨⟨o,g,i⟩,f0,f1,f2⟩:=iK Y.o;obtain⟨D,F,C⟩:=iv (jT (x:=a_ none 0 0) (y:=a_ none 0 0) (z:=a_ none 0 0) Y.o).1
           go_wp2_with fail
           exact bodyPost_ret (v:=fI #[e_ #[a_ none 0 0,a_ none 0 0,a_ none 0 0],b_ c_ 91]) (by simp[results,Tryz.results78,go_sem,D,F,C]) rfl ⟨_,rfl,lX _,kt V.o f_⟩
section
attribute [local go_sem] Oper.semAt_some
def mS {α:Type} (f:Nat→α) (k:Nat):List α:=(List.range k).map f
theorem FW {α:Type} (f:Nat→α) (k):mS f (k+1)=mS f k ++ [f k]:=by simp[mS,List.range_succ]
theorem KE {α:Type} (f:Nat→α) (k):(mS f k).length=k:=by simp[mS]
theorem Iz {α:Type} {f k} {x:α}:x∈mS f k ↔ ∃ j,j<k∧f j=x:=by simp[mS]
def uU (l:List (Int×Int)) (j:Nat):Nat×Int×Int:=(l.length - 1 - j,l.getD (l.length - 1 - j) (0,0))
def sP (x:Nat×Int×Int):Array Value:=#[b_ c_ (x.1:Int),e_ #[b_ c_ x.2.1,b_ c_ x.2.2]]
theorem vu F n (U:F.fn 194) (O:F.round=none) (hn:1≤n) z m h b off o l (ac:l.length≤1000) (C:b<h) (J y:List (Nat×Int×Int)→World→Prop)
 (P:∀ a x W,J a W→a.length<l.length→YieldAt F (n - 1) gd z (sP x) W fun e d=>
  (e =fH (fJ true)∧J (a ++ [x]) d∧Below h W d)∨(e =fH (fJ false)∧y (a ++ [x]) d))
 (W) (ab:m<h) (q:W.cell? ⟨m,0,none⟩=some (a_ (some ⟨b,off,none⟩) l.length o)) (Z:l.length≤o∧o≤9223372036854775807)
 (K:∀ j x,l[j]? = some x→W.cell? ⟨b,off+j*2,none⟩=some (b_ c_ x.1)∧W.cell? ⟨b,off+j*2+1,none⟩=some (b_ c_ x.2)) (h0:J [] W) :
 CallsIn F n gd 194 #[.func (.yield z) #[] #[],fG (some ⟨m,0,none⟩)] W fun e d=>(∃ v,e =fH v) ∧
  ((∃ L,L=mS (uU l) l.length∧J L d)∨(∃ a,(∃ k,k≤l.length∧a=mS (uU l) k)∧y a d)):=by
 have Y:=gg K;clear K;obtain⟨S,af⟩:=Z;have ae:=gg q;have N:=q;clear q;refine callsIn_of_wp Tryz.func194 rfl U ?_ O;simp only[Tryz.ntmps194,List.size_toArray,List.length_cons,List.length_nil,Nat.reduceAdd,Nat.reduceSub,Array.replicate_succ,Array.replicate_zero,List.push_toArray,List.append_toArray,List.nil_append,List.cons_append];obtain⟨c,t⟩:∃ c,l.length=c:=⟨_,rfl⟩;rw[t] at N S ac;have f:=gg t;clear t
 gi_wp2
 gi_loopw [3] (fun i wr=>∃ k r:Nat,c=k+r∧i =b_ c_ ((r:Int) - 1)∧J (mS (uU l) k) wr∧Below h W wr)
  (fun i _=>(intOf i+1).toNat)
 case atStart=>exact⟨0,c,by omega,rfl,h0,fK⟩
 case round=>
  obtain⟨k,r,D,w,A,g⟩:=hrel;have V:=gg ((g.cell (p:=⟨m,0,none⟩) ab).trans ae.o);cases r with
  |
   zero=>
   obtain rfl:k=c:=by omega
   subst w
   gi_wp2
   go_end0
   exact⟨⟨_,rfl⟩,.inl ⟨_,by rw[f.o],A⟩⟩
  |
   succ r=>
   rw[show ((r+1:Nat):Int) - 1=(r:Int) by omega] at w;subst w;have aa:r<l.length:=by rw[f.o];omega
   have E:l[r]? = some (l[r]):=by simp
   obtain⟨c1,M⟩:=Y.o r _ E;have u:=(g.cell (p:=⟨b,off+r*2,none⟩) C).trans c1;have s:=(g.cell (p:=⟨b,off+r*2+1,none⟩) C).trans M;have I:gi (uU l k=(r,l[r])):=gg (by unfold uU;rw[show l.length - 1 - k=r by rw[f.o];omega];simp[aa]);generalize l[r]=x at *
   obtain⟨R,x2⟩:=x;obtain⟨fn,tmps,assign,body,Q,H⟩:=P _ (r,R,x2) wr A (by rw[KE,f.o];omega);simp only[sP] at Q H;have B:=V.o;simp only at u s;have ag:r<c:=by omega
   have G:=gg D;clear c1 M E D
   gi_wp2
   refine H.mono ?_
   rintro e W3 (⟨rfl,ad,T⟩|⟨rfl,X⟩)
   · clear B u s
     gi_wp2
     go_roundw
     case rel=>exact⟨k+1,r,by have:=G.o;omega,by first|rfl|go_num,by rw[FW,I.o];exact ad,g.trans T⟩
     case measure=>simp[intOf]
   · clear B u s
     gi_wp2
     refine bodyPost_ret (results_none rfl _ _ _) rfl ?_
     exact⟨⟨_,rfl⟩,.inr ⟨_,⟨k+1,by rw[f.o];have:=G.o;omega,rfl⟩,by rw[FW,I.o];exact X⟩⟩
theorem J6 F n (g:F.fn 194) (d:F.round=none) z b c (a) (J:List (Nat×Int×Int)→World→Prop) (W) (j:W.cell? ⟨b,0,none⟩=some (a_ a 0 c)) (h0:J [] W) :
 CallsIn F n gd 194 #[.func (.yield z) #[] #[],fG (some ⟨b,0,none⟩)] W fun e h=>(∃ v,e =fH v)∧J [] h:=by
 refine callsIn_of_wp Tryz.func194 rfl g ?_ d;simp only[Tryz.ntmps194,List.size_toArray,List.length_cons,List.length_nil,Nat.reduceSub,Array.replicate_succ,Array.replicate_zero]
 gi_wp2
 gi_loopw [3] (fun i wr=>i =b_ c_ (-1)∧J [] wr) (fun _ _=>0)
 case atStart=>exact⟨rfl,h0⟩
 case round=>
  obtain⟨rfl,f⟩:=hrel
  gi_wp2
  go_end0
  exact⟨⟨_,rfl⟩,f⟩
theorem zf F n (h5:F.fn 188) (c:F.round=none) a len b (w) :
 CallsIn F n gd 188 #[a_ a len b] w fun e w'=>e =fH (.func (.func 194) #[] #[fG (some ⟨w.heap.size,0,none⟩)])∧w'=w.alloc (d_ #[a_ a len b] 57):=by
 refine callsIn_of_wp Tryz.func188 rfl h5 ?_ c;simp only[Tryz.ntmps188,List.size_toArray,List.length_cons,List.length_nil,Nat.reduceSub,Array.replicate_succ,Array.replicate_zero]
 gi_wp2
 go_ret;exact⟨rfl,rfl⟩
theorem LJ (F:Fence) n (q:F.fn 194) (i:F.round=none) (B:1≤n) c d f (a:Option Addr) (l:List (Int×Int)) (K:l.length≤1000) (w:World) (m:c<d) (C:d≤w.heap.size)
 (H:w.cell? ⟨c,0,none⟩=some (a_ a l.length f)) (G:gl w 2 l.length (a_ a l.length f) (gW l)) (D:∀ b,a.map (·.block)=some b→b<d) :
 SeqStopsK F n gd 194 #[fG (some ⟨c,0,none⟩)] sP (Below d) (fun L=>L=mS (uU l) l.length) (fun M=>∃ k,k≤l.length∧M=mS (uU l) k) l.length w:=fun z J v W g _ _ y h0=>by
 have h:=(g.cell (p:=⟨c,0,none⟩) (fN m C)).trans H;by_cases r:l.length=0
 · rw[r] at h
   exact(J6 F n q i z c f a J W h h0).mono fun e N ⟨he,E⟩=>⟨he,.inl ⟨_,rfl,by rw[r];exact E⟩⟩
 · obtain⟨b,o,rfl,t,I,A,u⟩:=Fz G f_
   exact vu F n q i B z c d b o f l K (D b rfl) J v y W m h ⟨I,A⟩ (fun j x s=>⟨(g.cell (p:=⟨b,o+j*2,none⟩) t).trans (u j x s).1,(g.cell (p:=⟨b,o+j*2+1,none⟩) t).trans (u j x s).2⟩) h0
end
end
section
open Go.RowKit Go.Shelf
section
attribute [local go_sem] Oper.semAt_some
theorem DF {w:World} {o b}:(w.alloc o).heap[b]? = if b=w.heap.size then some o else w.heap[b]?:=by
 by_cases h:b=w.heap.size
 · subst h;rw[if_pos rfl];exact gH w o
 · rw[if_neg h]
   by_cases a:b<w.heap.size
   · first|exact heap_alloc_old w o b a|exact heap_alloc_old w o a
   · rw[Array.getElem?_eq_none (by simp;omega),Array.getElem?_eq_none f_]
theorem Bt (w:World) (d c a b):((((w.alloc d).alloc c).alloc a).alloc b).heap[w.heap.size]? = some d∧((((w.alloc d).alloc c).alloc a).alloc b).heap[w.heap.size+1]? = some c ∧
 ((((w.alloc d).alloc c).alloc a).alloc b).heap[w.heap.size+1+1]? = some a∧((((w.alloc d).alloc c).alloc a).alloc b).heap[w.heap.size+1+1+1]? = some b:=by
 simp only[DF,World.size_alloc];refine⟨?_,?_,?_,?_⟩
 · rw[if_neg f_,if_neg f_,if_neg f_,if_pos trivial]
 · rw[if_neg f_,if_neg f_,if_pos trivial]
 · rw[if_neg f_,if_pos trivial]
 · rw[if_pos trivial]
theorem zX v m h a w (f:gM w v m) (i:jm m h a=false) :
 Calls gd 160 #[v,b_ c_ h,b_ c_ a] w fun e w'=>e =fH (fI #[b_ c_ 0,b_ c_ 1])∧Up w w':=by
 have s:=gg f;obtain⟨a1,c1,a2,t,a3,c3,y,rfl,_,_,_,_⟩:=f.parts;have k:=gg i;clear f i;generalize m.words.length=n1 at *
 generalize m.pend.length=n2 at *
 generalize m.res.length=n3 at *
 refine(callsIn_wide (n:=4)).1 ?_
 refine callsIn_of_wp_marks Tryz.func160 rfl trivial ?_ rfl;simp only[Tryz.ntmps160,List.size_toArray,List.length_cons,List.length_nil,Nat.reduceAdd,Nat.reduceSub,Array.replicate_succ,Array.replicate_zero]
 gi_wp2_with (refine⟨trivial,?_⟩;gi_at_call 119;refine(callsIn_wide.2 (yB _ m h a false _ (s.o.below zB) k.o)).mono ?_;rintro e w1 ⟨rfl,b⟩;have g:w1.heap[w.heap.size]? = some (d_ #[a_ a1 n1 c1,a_ a2 n2 t,a_ a3 n3 c3] 33 (0,0)):=gk b (Bt w _ _ _ _).1;have ht5:w1.heap[w.heap.size+1]? = some (d_ #[b_ c_ a] 3 (0,0)):=gk b (Bt w _ _ _ _).2.1;have c:w1.heap[w.heap.size+1+1]? = some (d_ #[b_ c_ 0] 3 (0,0)):=gk b (Bt w _ _ _ _).2.2.1;have d:w1.heap[w.heap.size+1+1+1]? = some (d_ #[b_ c_ 0] 38 (0,0)):=gk b (Bt w _ _ _ _).2.2.2;have o:gi (Up w w1):=gg zB;have C:w.heap.size+1+1+1+1≤w1.heap.size:=(by have:=b.size;simpa using this);have A:=gv (j:=0) c rfl;have x:=gv (j:=0) d rfl;have f6:=gC c 0;have f7:=gC d 0;have D:=gv (j:=0) ht5 rfl;obtain⟨B,u,F⟩:=iv g;have E:=gg g;have z:=gg ht5;have l:=gg c;have r:=gg d;clear g ht5 c d b)
 have p:((w1.setCell ⟨w.heap.size+1+1,0,none⟩ (b_ c_ 0)).setCell ⟨w.heap.size+1+1+1,0,none⟩ (b_ c_ 1)).cell? ⟨w.heap.size+1+1,0,none⟩=some (b_ c_ 0):=gv (j:=0) (by rw[iY f_];exact jb l.o 0 _) rfl;have q:((w1.setCell ⟨w.heap.size+1+1,0,none⟩ (b_ c_ 0)).setCell ⟨w.heap.size+1+1+1,0,none⟩ (b_ c_ 1)).cell? ⟨w.heap.size+1+1+1,0,none⟩=some (b_ c_ 1):=gv (j:=0) (jb (jL f_ r.o) 0 _) rfl;exact⟨fI #[b_ c_ 0,b_ c_ 1],by simp[results,Tryz.f160,go_sem,p,q],rfl,gO (gO o.o f_ _) f_ _⟩
theorem wK v m h a w (hm:gM w v m) (V:jC m) (hh:jm m h a=true) :
 Calls gd 160 #[v,b_ c_ h,b_ c_ a] w fun e w'=>e =fH (fI #[b_ c_ (nQ m h a),b_ c_ 0])∧Up w w':=by
 have HM:=gg hm;obtain⟨h0,h1,h2,h3,h4⟩:=uN hh;obtain⟨a1,c1,a2,c2,a3,c3,aO,rfl,ay,_,_,_⟩:=hm.parts;obtain⟨P,T,q,C,rfl,e0,e1,e2,e3,an,ak⟩:=hm.row h1 h0;obtain⟨G,O,av,ev,e4,e5,e6,aq⟩:=ay.some f_;injection ev with ev1 ev2 ev3
 subst ev1 ev3;have ao:w.cell? ⟨G,O+a.toNat,none⟩=some (b_ c_ (kQ m a)):=aq a.toNat _ (C_ (FU h3 h4));have ax:(iA m h).length≤1000:=V.each _ (List.mem_of_getElem? (yS h1 h0));have HH:=gg hh;have ap:=gg an;have ai:=gg ak;have HW:=gg ao;unfold maxLen at e6;clear hm hh an ak ao aq ay ev2 e0;generalize m.words.length=n1 at *
 generalize m.pend.length=n2 at *
 generalize m.res.length=n3 at *
 generalize ah:kQ m a=wd at *
 obtain⟨L,hL⟩:∃ L,iA m h=L:=⟨_,rfl⟩;rw[hL] at ap ai ax;have au:gi (nQ m h a=nG L a wd):=gg (by unfold nQ;rw[hL,ah]);rw[au.o];clear hL ah au
 have al:∀ b,q.map (·.block)=some b→0<L.length→b<w.heap.size:=fun b H hl=>by
  obtain⟨b3,o3,e,am,_⟩:=Fz ai.o hl;rw[e] at H;simp at H;omega
 have aN:=gg al;clear al;refine(callsIn_wide (n:=4)).1 ?_
 refine callsIn_of_wp_marks Tryz.func160 rfl trivial ?_ rfl;simp only[Tryz.ntmps160,List.size_toArray,List.length_cons,List.length_nil,Nat.reduceAdd,Nat.reduceSub,Array.replicate_succ,Array.replicate_zero,List.push_toArray,List.append_toArray,List.nil_append,List.cons_append]
 gi_wp2_with (first|(refine⟨trivial,?_⟩;gi_at_call 119;refine(callsIn_wide.2 (yB _ m h a true _ (HM.o.below zB) HH.o)).mono ?_;rintro e w1 ⟨rfl,S⟩;have ag:w1.heap[w.heap.size]? = some (d_ #[a_ (some ⟨G,O,none⟩) n1 c1,a_ (some ⟨P,T,none⟩) n2 c2,a_ a3 n3 c3] 33 (0,0)):=gk S (Bt w _ _ _ _).1;have ht5:w1.heap[w.heap.size+1]? = some (d_ #[b_ c_ a] 3 (0,0)):=gk S (Bt w _ _ _ _).2.1;have ad:w1.heap[w.heap.size+1+1]? = some (d_ #[b_ c_ 0] 3 (0,0)):=gk S (Bt w _ _ _ _).2.2.1;have ac:w1.heap[w.heap.size+1+1+1]? = some (d_ #[b_ c_ 0] 38 (0,0)):=gk S (Bt w _ _ _ _).2.2.2;have B1:gi (Up w w1):=gg zB;have aP:w.heap.size+1+1+1+1≤w1.heap.size:=(by have:=S.size;simpa using this);have k6:=gv (j:=0) ad rfl;have k7:=gv (j:=0) ac rfl;have f6:=gC ad 0;have f7:=gC ac 0;have k5:=gv (j:=0) ht5 rfl;obtain⟨x0,M,x2⟩:=iv ag;have aG:=gg ag;have aA:=gg ht5;have aM:=gg ad;have aK:=gg ac;clear ag ht5 ad ac S;have kr:=(B1.o.cell (p:=⟨P,T+h.toNat,none⟩) e3).trans ap.o)|(refine⟨trivial,?_⟩;gi_at_call 188;refine(zf Fence.wide _ trivial rfl _ _ _ _).mono ?_;rintro e w' ⟨rfl,rfl⟩))
 have aj:(w1.alloc (d_ #[a_ q L.length C] 57)).cell? ⟨w1.heap.size,0,none⟩=some (a_ q L.length C):=gv (gH w1 _) rfl;have aH:=gg aj;have Z:gi (Up w1 (w1.alloc (d_ #[a_ q L.length C] 57))):=gg (gr w1 _);have z0:(w1.alloc (d_ #[a_ q L.length C] 57)).heap.size=w1.heap.size+1:=World.size_alloc _ _;have aB:=gg z0;clear aj z0 x0 M x2 k5 k6 k7 f6 f7 kr;generalize w1.alloc (d_ #[a_ q L.length C] 57)=W0 at *
 have B0:gi (Up w W0):=gg (gj B1.o Z.o);have T3:=gg (gk Z.o aG.o);have T5:=gg (gk Z.o aA.o);have T6:=gg (gk Z.o aM.o);have T7:=gg (gk Z.o aK.o);have zs:w1.heap.size<W0.heap.size:=by have:=aB.o;omega
 have aw:gi (gl W0 2 L.length (a_ q L.length C) (gW L)):=gg (ai.o.below B0.o);have aF:gi (W0.cell? ⟨G,O+a.toNat,none⟩=some (b_ c_ wd)):=gg ((B0.o.cell (p:=⟨G,O+a.toNat,none⟩) e4).trans HW.o);have zw:w.heap.size≤w1.heap.size:=by omega
 refine wpIn_rangeFunc_ownH rfl f_ (gf:=194) (lb:=#[fG (some ⟨w1.heap.size,0,none⟩)]) rfl trivial (enters_of Tryz.func194 ga rfl)
  (LJ Fence.wide _ trivial rfl f_ w1.heap.size W0.heap.size C q L ax W0 zs fL aH.o aw.o (fun b H=>by
   by_cases aD:0<L.length
   · have:=aN.o b H aD;omega
   · rcases aw.o.2.2 with⟨e,_⟩|⟨b',o',c',e,am,_⟩
     · injection e with e;rw[e] at H;simp at H
     · injection e with e;rw[e] at H;simp at H;omega)) belowK_t (belowK_b fL) fK (fun _=>rfl)
  (fun N W=>(∀ p∈N,p.2.1≠a)∧Up W0 W)
  (fun c N W=>((c = .ret ∧ ∃ U u,N=U ++ [u]∧(∀ p∈U,p.2.1≠a)∧u.2.1=a∧W.cell? ⟨w.heap.size+1+1,0,none⟩=some (b_ c_ u.2.2)∧W.cell? ⟨w.heap.size+1+1+1,0,none⟩=some (b_ c_ 0)))∧Up w W)
  (OwnFrom.and (ownFrom_pure _ _) (ownFrom_below fL fL))
  (fun c=>OwnFrom.and (Own.from (fun s A B row V hg R=>by obtain⟨hc,U,u,E,J,F,q4,q5⟩:=V;exact⟨hc,U,u,E,J,F,cell_kept q4 hg R,cell_kept q5 hg R⟩) _) (ownFrom_below fL f_))
  ⟨by simp,fK⟩
  (fun x a' W=>∃ I,W0.heap.size≤I∧W.heap[I]? = some (d_ #[b_ c_ x.2.1,b_ c_ x.2.2] 127 (0,0))∧a' = { tmps:=#[e_ #[a_ (some ⟨G,O,none⟩) n1 c1,a_ (some ⟨P,T,none⟩) n2 c2,a_ a3 n3 c3],b_ c_ h,b_ c_ a,fG (some ⟨w.heap.size,0,none⟩),undef,fG (some ⟨w.heap.size+1,0,none⟩),fG (some ⟨w.heap.size+1+1,0,none⟩),fG (some ⟨w.heap.size+1+1+1,0,none⟩),undef,fG (some ⟨I,0,none⟩),e_ #[a_ (some ⟨G,O,none⟩) n1 c1,a_ (some ⟨P,T,none⟩) n2 c2,a_ a3 n3 c3],b_ c_ h,b_ c_ a,fJ true,fJ false,fG (some ⟨w.heap.size,1,none⟩),a_ (some ⟨P,T,none⟩) n2 c2,b_ c_ h,fG (some ⟨P,T+h.toNat,none⟩),a_ q L.length C,.func (.func 194) #[] #[fG (some ⟨w1.heap.size,0,none⟩)],b_ c_ (x.1:Int),e_ #[b_ c_ x.2.1,b_ c_ x.2.2],undef,undef,undef,undef,undef,undef,undef,undef,undef,undef,undef],defers:=[] })
  (fun x a' _ X Y row V hg R=>by
   obtain⟨I,E,J,F⟩:=V;refine⟨I,E,?_,F⟩
   rw[hg.block I (gn J) (fun e=>by
    obtain⟨_,o,ho,hc⟩:=R I e.symm;rw[J] at ho;injection ho with ho;subst ho;cases hc)]
   exact J)
  ?assign ?body ?done ?stop
 case assign=>
  rintro l N ⟨xn,M,x2⟩ W K ⟨hp,d⟩ z
  dsimp only[sP]
  gi_wp2
  exact z _ _ ((KeepsOthers.alloc _ _).from _) ((Below.refl _ W).alloc d.size _) ⟨hp,d.alloc d.size _⟩ ⟨W.heap.size,d.size,gH W _,rfl⟩
 case body=>
  rintro l N ⟨xn,M,x2⟩ a' W hl ⟨r,R⟩ ⟨hp,d⟩ ⟨I,aS,hX,rfl⟩ am;have c0:=gv (j:=0) hX rfl;have av:=gv (j:=1) hX rfl;have t5:=(d.cell (p:=⟨w.heap.size+1,0,none⟩) (by show w.heap.size+1<_;omega)).trans (gv (j:=0) T5.o rfl);have g:W.heap[w.heap.size+1+1]? = some (d_ #[b_ c_ 0] 3 (0,0)):=iE d f_ T6.o;have t:W.heap[w.heap.size+1+1+1]? = some (d_ #[b_ c_ 0] 38 (0,0)):=iE d f_ T7.o;have k6:=gv (j:=0) g rfl;have k7:=gv (j:=0) t rfl;have f6:=gC g 0;have f7:=gC t 0;have H6:=gg g;have H7:=gg t;have ab:=gg d;have HP:=gg hp;clear g t R hX d hp;simp only at c0 av;by_cases Q:M=a
  · have aJ:(M == a)=true:=by simp[Q]
    have af:=gg Q;clear Q
    gi_wp2
    refine⟨((KeepsOthers.setCell _ _ _).trans (KeepsOthers.setCell _ _ _)).from _,⟨rfl,N,(xn,M,x2),rfl,HP.o,af.o,?_,?_⟩,gO (gO (gj B0.o ab.o) f_ _) f_ _⟩
    · exact gv (j:=0) (by rw[iY f_];exact jb H6.o 0 _) rfl
    · exact gv (j:=0) (jb (jL f_ H7.o) 0 _) rfl
  · have aJ:(M == a)=false:=by simp[Q]
    have af:=gg Q;clear Q
    gi_wp2
    exact⟨KeepsFrom.refl _ _,fK,⟨fun p aI=>(List.mem_append.1 aI).elim (HP.o p) (fun e=>by simp at e;subst e;exact af.o),ab.o⟩⟩
 case done=>
  rintro D ys W hD rfl ⟨az,d⟩ z
  have ae:gi (nG L a wd=wd):=gg (Hg _ _ (fun x hx=>by
   obtain⟨i,hi,rfl⟩:=List.mem_iff_getElem.1 hx;have:=az (uU L (L.length - 1 - i)) (Iz.2 ⟨L.length - 1 - i,by omega,rfl⟩);unfold uU at this;rw[show L.length - 1 - (L.length - 1 - i)=i by omega] at this
   simpa[hi] using this) _)
  clear az;have y3:=iv (iE d f_ T3.o);obtain⟨aR,aQ,aT⟩:=y3;have t5:=(d.cell (p:=⟨w.heap.size+1,0,none⟩) (by show w.heap.size+1<_;omega)).trans (gv (j:=0) T5.o rfl);have ah:=(d.cell (p:=⟨G,O+a.toNat,none⟩) (by show G<_;omega)).trans aF.o;have g:W.heap[w.heap.size+1+1]? = some (d_ #[b_ c_ 0] 3 (0,0)):=iE d f_ T6.o;have t:W.heap[w.heap.size+1+1+1]? = some (d_ #[b_ c_ 0] 38 (0,0)):=iE d f_ T7.o;have k6:=gv (j:=0) g rfl;have k7:=gv (j:=0) t rfl;have f6:=gC g 0;have f7:=gC t 0;have H6:=gg g;have H7:=gg t;have ab:=gg d;clear g t d
  gi_wp2
  have aa:=((KeepsOthers.setCell W ⟨w.heap.size+1+1,0,none⟩ (b_ c_ wd)).trans (KeepsOthers.setCell _ ⟨w.heap.size+1+1+1,0,none⟩ (b_ c_ 0))).same D _ z rfl;have q6:((W.setCell ⟨w.heap.size+1+1,0,none⟩ (b_ c_ wd)).setCell ⟨w.heap.size+1+1+1,0,none⟩ (b_ c_ 0)).cell? ⟨w.heap.size+1+1,0,none⟩=some (b_ c_ wd):=gv (j:=0) (by rw[iY f_];exact jb H6.o 0 _) rfl;have q7:((W.setCell ⟨w.heap.size+1+1,0,none⟩ (b_ c_ wd)).setCell ⟨w.heap.size+1+1+1,0,none⟩ (b_ c_ 0)).cell? ⟨w.heap.size+1+1+1,0,none⟩=some (b_ c_ 0):=gv (j:=0) (jb (jL f_ H7.o) 0 _) rfl;refine⟨by simp,.inl ⟨_,_,rfl,run_takeDeferred aa,?_⟩⟩;have d6:=cell_kept q6 (grownBy_putObj' _ D (.deferred none)) (fun r e=>by cases e;exact⟨_,aa,rfl⟩);have d7:=cell_kept q7 (grownBy_putObj' _ D (.deferred none)) (fun r e=>by cases e;exact⟨_,aa,rfl⟩)
  exact⟨fI #[b_ c_ wd,b_ c_ 0],by simp[results,Tryz.f160,go_sem,d6,d7],by rw[ae.o],
   (gO (gO (gj B0.o ab.o) f_ _) f_ _).trans (belowK_b (w:=w) fL _ D _ _ f_ aa rfl rfl)⟩
 case stop=>
  rintro D c N W hD ⟨k,hk,rfl⟩ ⟨⟨rfl,U,u,E,J,F,q6,q7⟩,d⟩ z
  have ae:gi (nG L a wd=u.2.2):=gg (by
   obtain⟨f,rfl⟩:∃ f,k=f+1:=by
    cases k with
    | zero=>simp[mS] at E
    | succ f=>exact⟨f,rfl⟩
   rw[FW] at E;obtain⟨rfl,e5⟩:=List.append_inj' E rfl;have e6:uU L f=u:=by simpa using e5
   subst e6;have hi:L.length - 1 - f<L.length:=by omega
   have aE:L.getD (L.length - 1 - f) (0,0)=L[L.length - 1 - f]:=by simp[hi]
   unfold uU at F ⊢
   simp only[aE] at F ⊢
   refine KZ L a wd (L.length - 1 - f) _ (by simp[hi]) F (fun y hy=>?_);obtain⟨i,aC,rfl⟩:=List.mem_iff_getElem.1 hy;have aL:L.length - 1 - f+1+i<L.length:=by simp at aC;omega
   have:=J (uU L (L.length - 1 - (L.length - 1 - f+1+i))) (Iz.2 ⟨_,by omega,rfl⟩);unfold uU at this;rw[show L.length - 1 - (L.length - 1 - (L.length - 1 - f+1+i))=L.length - 1 - f+1+i by omega] at this
   simpa[aL] using this)
  clear E J F
  gi_wp2
  refine⟨by simp,.inl ⟨_,_,rfl,run_takeDeferred z,?_⟩⟩;have d6:=cell_kept q6 (grownBy_putObj' _ D (.deferred none)) (fun r e=>by cases e;exact⟨_,z,rfl⟩);have d7:=cell_kept q7 (grownBy_putObj' _ D (.deferred none)) (fun r e=>by cases e;exact⟨_,z,rfl⟩)
  exact⟨fI #[b_ c_ u.2.2,b_ c_ 0],by simp[results,Tryz.f160,go_sem,d6,d7],by rw[ae.o],
   d.trans (belowK_b (w:=w) fL W D _ _ f_ z rfl rfl)⟩
theorem wI v m h a r w (c:gM w v m) (d:jC m) (f:CT m h a=r) :
 Calls gd 160 #[v,b_ c_ h,b_ c_ a] w fun e w'=>e =fH (fI #[b_ c_ r.1,b_ c_ r.2])∧Up w w':=by
 subst f;unfold CT;cases b:jm m h a
 exact zX v m h a w c b
 exact wK v m h a w c d b
end
section
theorem KM k w (a:k=1∨k=2∨k=3∨k=4):Calls gd 143 #[.int .u64 1,.int .u64 k] w fun e w'=>e =fH (fI #[.int .u64 0,.int .u64 k])∧w=w':=by
 rcases a with rfl|rfl|rfl|rfl
 all_goals
  go_in;go_wp2
  go_ret2
  exact⟨mQ ga ga,rfl⟩
theorem ED k w (a:k=1∨k=2∨k=3∨k=4):Calls gd 106 #[.int .u64 1,.int .u64 k] w fun e w'=>e =fH (fI #[.int .u64 0,.int .u64 k])∧w=w':=by
 have b:=gg a;go_in
 go_wp2_with (go_at_call 143;((with_reducible refine(KM k _ b.o).mono ?_);rintro e w' ⟨rfl,rfl⟩))
 go_ret2
 exact⟨rfl,rfl⟩
theorem AW:(gd.info? 3).map (·.size)=some 1:=by kernel_rfl
theorem xH b (w) (h:w.heap[b]? = some (d_ #[b_ c_ (-1)] 3 (0,0))) :
 Calls gd 65 #[a_ (some ⟨b,0,none⟩) 1 1,b_ c_ 1] w fun e w'=>∃ g,e =fH (a_ (some ⟨g,0,none⟩) 1 1)∧w'.heap[g]? = some (d_ #[b_ c_ (-1)] 3 (0,0))∧w.heap.size≤g∧Up w w':=by
 have m:=gg h;clear h;have r:∀ w,(Instr.makeSlice 24 (b_ c_ 1) (b_ c_ 1)).run gd w = .ok (a_ (some ⟨w.heap.size,0,none⟩) 1 1) (w.alloc (d_ #[b_ c_ 0] 3)):=fun _=>by kernel_rfl
 have d:∀ (j:Nat) (v:Value),([b_ c_ (-1)]:List Value)[j]? = some v→(w.alloc (d_ #[b_ c_ 0] 3)).cell? ((⟨b,0,none⟩:Addr).add j)=some v:=fun j v a=>by
  have:j=0:=by have:=(fR a).1;simp at this;exact this
  subst this;simp at a;subst a;rw[kx];exact gv (gk (gr w _) m.o) rfl
 have o:=gg d;clear d;have i:∀ v∈([b_ c_ (-1)]:List Value),v.oneCell'=true:=by simp[Value.oneCell']
 have k:=gg i;clear i;go_in
 go_wp2_with (first|(go_at_call 106;((with_reducible refine(ED 1 _ fZ).mono ?_);rintro e w' ⟨rfl,rfl⟩))|(refine wpList_copy_splice rfl (.tmp 31) (.tmp 32) 24 24 rfl 3 Tryz.underlying24 AW _ _ 1 1 1 1 rfl rfl w.heap.size 0 [b_ c_ 0] 3 (gH w _) [b_ c_ (-1)] rfl (fun _=>⟨rfl,⟨b,0,none⟩,rfl,o.o⟩) fZ k.o w.heap.size w (gr w _) fL ?_;intro w1 f c;have q:=gg f.out;have p:=gg c;clear f c))
 have l:gi (w1.heap[w.heap.size]? = some (d_ #[b_ c_ (-1)] 3 (0,0))):=gg q.o;have n:=p;refine wp_loop_rounds 1 ?_
 rw[rounds_succ]
 go_wp2
 go_ret;exact⟨w.heap.size,rfl,l.o,fL,n.o⟩
theorem xI b (w) (m:w.heap[b]? = some (d_ #[b_ c_ (-1)] 3 (0,0))) :
 Calls gd 65 #[a_ (some ⟨b,0,none⟩) 1 1,b_ c_ 2] w fun e w'=>∃ g,e =fH (a_ (some ⟨g,0,none⟩) 2 2)∧w'.heap[g]? = some (d_ #[b_ c_ (-1),b_ c_ (-1)] 3 (0,0))∧w.heap.size≤g∧Up w w':=by
 have y:=gg m;clear m;have Q:∀ w,(Instr.makeSlice 24 (b_ c_ 2) (b_ c_ 2)).run gd w = .ok (a_ (some ⟨w.heap.size,0,none⟩) 2 2) (w.alloc (d_ #[b_ c_ 0,b_ c_ 0] 3)):=fun _=>by kernel_rfl
 have k:∀ (j:Nat) (v:Value),([b_ c_ (-1)]:List Value)[j]? = some v→(w.alloc (d_ #[b_ c_ 0,b_ c_ 0] 3)).cell? ((⟨b,0,none⟩:Addr).add j)=some v:=fun j v a=>by
  have:j=0:=by have:=(fR a).1;simp at this;exact this
  subst this;simp at a;subst a;rw[kx];exact gv (gk (gr w _) y.o) rfl
 have H:=gg k;clear k;have t:∀ v∈([b_ c_ (-1)]:List Value),v.oneCell'=true:=by simp[Value.oneCell']
 have E:=gg t;clear t;go_in
 go_wp2_with (first|(go_at_call 106;((with_reducible refine(ED 2 _ fZ).mono ?_);rintro e w' ⟨rfl,rfl⟩))|(refine wpList_copy_splice rfl (.tmp 31) (.tmp 32) 24 24 rfl 3 Tryz.underlying24 AW _ _ 2 2 1 1 rfl rfl w.heap.size 0 [b_ c_ 0,b_ c_ 0] 3 (gH w _) [b_ c_ (-1)] rfl (fun _=>⟨rfl,⟨b,0,none⟩,rfl,H.o⟩) fZ E.o w.heap.size w (gr w _) fL ?_;intro w1 l r;have K:=gg l.out;have J:=gg r;clear l r))
 have u:gi (w1.heap[w.heap.size]? = some (d_ #[b_ c_ (-1),b_ c_ 0] 3 (0,0))):=gg K.o;have C:=J;refine wp_loop_rounds 2 ?_
 rw[rounds_succ]
 go_wp2_with fail
 refine fX (fun _=>True) [true,true,true,true,true,true,true] (fun _ _ _ _=>trivial) trivial ?a0 ?h0 ?ht0
 case h0=>
  intro w0 _;simp only[jd];repeat(go_big_quiet_step (fail))
  refine wpQuiet_nil ?_
  rfl
 change kN _ _ _ _ _ 3 _ _ _;refine js (i:=7) ga rfl ?_
 intro O c _;have q:=gg (gk (nE c) u.o);have B:=gg (gj C.o (nE c));clear c
 refine wpList_copy_splice rfl (.tmp 41) (.tmp 44) 24 24 rfl 3 Tryz.underlying24 AW _ _ 1 1 1 2 rfl rfl w.heap.size 1 [b_ c_ (-1),b_ c_ 0] 3 q.o [b_ c_ (-1)] fZ (fun _=>⟨rfl,⟨w.heap.size,0,none⟩,rfl,fun j v a=>by
  have M:j<1:=by have:=(fR a).1;simpa using this
  rw[kx];refine gv q.o ?_
  obtain rfl:j=0:=by omega
  all_goals(simp at a;subst a;rfl)
  ⟩) fZ (by simp[Value.oneCell']) w.heap.size w B.o fL ?_
 intro w2 d n;have F:gi (w2.heap[w.heap.size]? = some (d_ #[b_ c_ (-1),b_ c_ (-1)] 3 (0,0))):=gg d.out;have G:=gg n;clear d n;refine⟨trivial,?_⟩;refine js (i:=8) ga rfl ?_
 intro N p _
 go_wp2_with fail
 refine⟨trivial,?_⟩;refine js (i:=9) ga rfl ?_
 intro P o _
 go_wp2_with fail
 refine⟨trivial,?_⟩;refine od ga ?_
 intro f s _;have h:gi (Up w2 f):=gg (mI (mI p o) s);have z:=gg (gk h.o F.o);have D:=gg (gj G.o h.o);clear p o s;obtain⟨R,L⟩:∃ x,x=f:=⟨_,rfl⟩;have I:=z;have A:=D
 go_wp2_with fail
 rw[rounds_succ]
 go_wp2
 go_ret;exact⟨w.heap.size,rfl,I.o,fL,A.o⟩
theorem xJ b (w) (s:w.heap[b]? = some (d_ #[b_ c_ (-1)] 3 (0,0))) :
 Calls gd 65 #[a_ (some ⟨b,0,none⟩) 1 1,b_ c_ 3] w fun e w'=>∃ g,e =fH (a_ (some ⟨g,0,none⟩) 3 3)∧w'.heap[g]? = some (d_ #[b_ c_ (-1),b_ c_ (-1),b_ c_ (-1)] 3 (0,0))∧w.heap.size≤g∧Up w w':=by
 have K:=gg s;clear s;have ak:∀ w,(Instr.makeSlice 24 (b_ c_ 3) (b_ c_ 3)).run gd w = .ok (a_ (some ⟨w.heap.size,0,none⟩) 3 3) (w.alloc (d_ #[b_ c_ 0,b_ c_ 0,b_ c_ 0] 3)):=fun _=>by kernel_rfl
 have o:∀ (j:Nat) (v:Value),([b_ c_ (-1)]:List Value)[j]? = some v→(w.alloc (d_ #[b_ c_ 0,b_ c_ 0,b_ c_ 0] 3)).cell? ((⟨b,0,none⟩:Addr).add j)=some v:=fun j v a=>by
  have:j=0:=by have:=(fR a).1;simp at this;exact this
  subst this;simp at a;subst a;rw[kx];exact gv (gk (gr w _) K.o) rfl
 have Z:=gg o;clear o;have F:∀ v∈([b_ c_ (-1)]:List Value),v.oneCell'=true:=by simp[Value.oneCell']
 have W:=gg F;clear F;go_in
 go_wp2_with (first|(go_at_call 106;((with_reducible refine(ED 3 _ fZ).mono ?_);rintro e w' ⟨rfl,rfl⟩))|(refine wpList_copy_splice rfl (.tmp 31) (.tmp 32) 24 24 rfl 3 Tryz.underlying24 AW _ _ 3 3 1 1 rfl rfl w.heap.size 0 [b_ c_ 0,b_ c_ 0,b_ c_ 0] 3 (gH w _) [b_ c_ (-1)] rfl (fun _=>⟨rfl,⟨b,0,none⟩,rfl,Z.o⟩) fZ W.o w.heap.size w (gr w _) fL ?_;intro w1 p C;have ac:=gg p.out;have ab:=gg C;clear p C))
 have I:gi (w1.heap[w.heap.size]? = some (d_ #[b_ c_ (-1),b_ c_ 0,b_ c_ 0] 3 (0,0))):=gg ac.o;have R:=ab;refine wp_loop_rounds 3 ?_
 rw[rounds_succ]
 go_wp2_with fail
 refine fX (fun _=>True) [true,true,true,true,true,true,true] (fun _ _ _ _=>trivial) trivial ?a0 ?h0 ?ht0
 case h0=>
  intro w0 _;simp only[jd];repeat(go_big_quiet_step (fail))
  refine wpQuiet_nil ?_
  rfl
 change kN _ _ _ _ _ 3 _ _ _;refine js (i:=7) ga rfl ?_
 intro ag d _;have B:=gg (gk (nE d) I.o);have Q:=gg (gj R.o (nE d));clear d
 refine wpList_copy_splice rfl (.tmp 41) (.tmp 44) 24 24 rfl 3 Tryz.underlying24 AW _ _ 2 2 1 3 rfl rfl w.heap.size 1 [b_ c_ (-1),b_ c_ 0,b_ c_ 0] 3 B.o [b_ c_ (-1)] fZ (fun _=>⟨rfl,⟨w.heap.size,0,none⟩,rfl,fun j v a=>by
  have N:j<1:=by have:=(fR a).1;simpa using this
  rw[kx];refine gv B.o ?_
  obtain rfl:j=0:=by omega
  all_goals(simp at a;subst a;rfl)
  ⟩) fZ (by simp[Value.oneCell']) w.heap.size w Q.o fL ?_
 intro w2 k t;have X:gi (w2.heap[w.heap.size]? = some (d_ #[b_ c_ (-1),b_ c_ (-1),b_ c_ 0] 3 (0,0))):=gg k.out;have Y:=gg t;clear k t;refine⟨trivial,?_⟩;refine js (i:=8) ga rfl ?_
 intro af A _
 go_wp2_with fail
 refine⟨trivial,?_⟩;refine js (i:=9) ga rfl ?_
 intro ah u _
 go_wp2_with fail
 refine⟨trivial,?_⟩;refine od ga ?_
 intro m D _;have n:gi (Up w2 m):=gg (mI (mI A u) D);have L:=gg (gk n.o X.o);have U:=gg (gj Y.o n.o);clear A u D;obtain⟨w3,ae⟩:∃ x,x=m:=⟨_,rfl⟩;have aa:=L;have P:=U
 go_wp2_with fail
 rw[rounds_succ]
 go_wp2_with fail
 refine fX (fun _=>True) [true,true,true,true,true,true,true] (fun _ _ _ _=>trivial) trivial ?a1 ?h1 ?ht1
 case h1=>
  intro w0 _;simp only[jd];repeat(go_big_quiet_step (fail))
  refine wpQuiet_nil ?_
  rfl
 change kN _ _ _ _ _ 3 _ _ _;refine js (i:=7) ga rfl ?_
 intro aj c _;have y:=gg (gk (nE c) aa.o);have O:=gg (gj P.o (nE c));clear c
 refine wpList_copy_splice rfl (.tmp 41) (.tmp 44) 24 24 rfl 3 Tryz.underlying24 AW _ _ 1 1 2 3 rfl rfl w.heap.size 2 [b_ c_ (-1),b_ c_ (-1),b_ c_ 0] 3 y.o [b_ c_ (-1)] fZ (fun _=>⟨rfl,⟨w.heap.size,0,none⟩,rfl,fun j v a=>by
  have N:j<1:=by have:=(fR a).1;simpa using this
  rw[kx];refine gv y.o ?_
  obtain rfl:j=0:=by omega
  all_goals(simp at a;subst a;rfl)
  ⟩) fZ (by simp[Value.oneCell']) w.heap.size w O.o fL ?_
 intro f q E;have T:gi (f.heap[w.heap.size]? = some (d_ #[b_ c_ (-1),b_ c_ (-1),b_ c_ (-1)] 3 (0,0))):=gg q.out;have M:=gg E;clear q E;refine⟨trivial,?_⟩;refine js (i:=8) ga rfl ?_
 intro al l _
 go_wp2_with fail
 refine⟨trivial,?_⟩;refine js (i:=9) ga rfl ?_
 intro ai G _
 go_wp2_with fail
 refine⟨trivial,?_⟩;refine od ga ?_
 intro r h _;have z:gi (Up f r):=gg (mI (mI l G) h);have J:=gg (gk z.o T.o);have S:=gg (gj M.o z.o);clear l G h;obtain⟨w5,ad⟩:∃ x,x=r:=⟨_,rfl⟩;have V:=J;have H:=S
 go_wp2_with fail
 rw[rounds_succ]
 go_wp2
 go_ret;exact⟨w.heap.size,rfl,V.o,fL,H.o⟩
theorem xK b (w) (s:w.heap[b]? = some (d_ #[b_ c_ (-1)] 3 (0,0))) :
 Calls gd 65 #[a_ (some ⟨b,0,none⟩) 1 1,b_ c_ 4] w fun e w'=>∃ g,e =fH (a_ (some ⟨g,0,none⟩) 4 4)∧w'.heap[g]? = some (d_ #[b_ c_ (-1),b_ c_ (-1),b_ c_ (-1),b_ c_ (-1)] 3 (0,0))∧w.heap.size≤g∧Up w w':=by
 have K:=gg s;clear s;have ak:∀ w,(Instr.makeSlice 24 (b_ c_ 4) (b_ c_ 4)).run gd w = .ok (a_ (some ⟨w.heap.size,0,none⟩) 4 4) (w.alloc (d_ #[b_ c_ 0,b_ c_ 0,b_ c_ 0,b_ c_ 0] 3)):=fun _=>by kernel_rfl
 have o:∀ (j:Nat) (v:Value),([b_ c_ (-1)]:List Value)[j]? = some v→(w.alloc (d_ #[b_ c_ 0,b_ c_ 0,b_ c_ 0,b_ c_ 0] 3)).cell? ((⟨b,0,none⟩:Addr).add j)=some v:=fun j v a=>by
  have:j=0:=by have:=(fR a).1;simp at this;exact this
  subst this;simp at a;subst a;rw[kx];exact gv (gk (gr w _) K.o) rfl
 have Z:=gg o;clear o;have F:∀ v∈([b_ c_ (-1)]:List Value),v.oneCell'=true:=by simp[Value.oneCell']
 have W:=gg F;clear F;go_in
 go_wp2_with (first|(go_at_call 106;((with_reducible refine(ED 4 _ fZ).mono ?_);rintro e w' ⟨rfl,rfl⟩))|(refine wpList_copy_splice rfl (.tmp 31) (.tmp 32) 24 24 rfl 3 Tryz.underlying24 AW _ _ 4 4 1 1 rfl rfl w.heap.size 0 [b_ c_ 0,b_ c_ 0,b_ c_ 0,b_ c_ 0] 3 (gH w _) [b_ c_ (-1)] rfl (fun _=>⟨rfl,⟨b,0,none⟩,rfl,Z.o⟩) fZ W.o w.heap.size w (gr w _) fL ?_;intro w1 p C;have ac:=gg p.out;have ab:=gg C;clear p C))
 have I:gi (w1.heap[w.heap.size]? = some (d_ #[b_ c_ (-1),b_ c_ 0,b_ c_ 0,b_ c_ 0] 3 (0,0))):=gg ac.o;have R:=ab;refine wp_loop_rounds 3 ?_
 rw[rounds_succ]
 go_wp2_with fail
 refine fX (fun _=>True) [true,true,true,true,true,true,true] (fun _ _ _ _=>trivial) trivial ?a0 ?h0 ?ht0
 case h0=>
  intro w0 _;simp only[jd];repeat(go_big_quiet_step (fail))
  refine wpQuiet_nil ?_
  rfl
 change kN _ _ _ _ _ 3 _ _ _;refine js (i:=7) ga rfl ?_
 intro ag d _;have B:=gg (gk (nE d) I.o);have Q:=gg (gj R.o (nE d));clear d
 refine wpList_copy_splice rfl (.tmp 41) (.tmp 44) 24 24 rfl 3 Tryz.underlying24 AW _ _ 3 3 1 4 rfl rfl w.heap.size 1 [b_ c_ (-1),b_ c_ 0,b_ c_ 0,b_ c_ 0] 3 B.o [b_ c_ (-1)] fZ (fun _=>⟨rfl,⟨w.heap.size,0,none⟩,rfl,fun j v a=>by
  have N:j<1:=by have:=(fR a).1;simpa using this
  rw[kx];refine gv B.o ?_
  obtain rfl:j=0:=by omega
  all_goals(simp at a;subst a;rfl)
  ⟩) fZ (by simp[Value.oneCell']) w.heap.size w Q.o fL ?_
 intro w2 k t;have X:gi (w2.heap[w.heap.size]? = some (d_ #[b_ c_ (-1),b_ c_ (-1),b_ c_ 0,b_ c_ 0] 3 (0,0))):=gg k.out;have Y:=gg t;clear k t;refine⟨trivial,?_⟩;refine js (i:=8) ga rfl ?_
 intro af A _
 go_wp2_with fail
 refine⟨trivial,?_⟩;refine js (i:=9) ga rfl ?_
 intro ah u _
 go_wp2_with fail
 refine⟨trivial,?_⟩;refine od ga ?_
 intro m D _;have n:gi (Up w2 m):=gg (mI (mI A u) D);have L:=gg (gk n.o X.o);have U:=gg (gj Y.o n.o);clear A u D;obtain⟨w3,ae⟩:∃ x,x=m:=⟨_,rfl⟩;have aa:=L;have P:=U
 go_wp2_with fail
 rw[rounds_succ]
 go_wp2_with fail
 refine fX (fun _=>True) [true,true,true,true,true,true,true] (fun _ _ _ _=>trivial) trivial ?a1 ?h1 ?ht1
 case h1=>
  intro w0 _;simp only[jd];repeat(go_big_quiet_step (fail))
  refine wpQuiet_nil ?_
  rfl
 change kN _ _ _ _ _ 3 _ _ _;refine js (i:=7) ga rfl ?_
 intro aj c _;have y:=gg (gk (nE c) aa.o);have O:=gg (gj P.o (nE c));clear c
 refine wpList_copy_splice rfl (.tmp 41) (.tmp 44) 24 24 rfl 3 Tryz.underlying24 AW _ _ 2 2 2 4 rfl rfl w.heap.size 2 [b_ c_ (-1),b_ c_ (-1),b_ c_ 0,b_ c_ 0] 3 y.o [b_ c_ (-1),b_ c_ (-1)] fZ (fun _=>⟨rfl,⟨w.heap.size,0,none⟩,rfl,fun j v a=>by
  have N:j<2:=by have:=(fR a).1;simpa using this
  rw[kx];refine gv y.o ?_
  rcases(by omega:j=0∨j=1) with rfl|rfl
  all_goals(simp at a;subst a;rfl)
  ⟩) fZ (by simp[Value.oneCell']) w.heap.size w O.o fL ?_
 intro f q E;have T:gi (f.heap[w.heap.size]? = some (d_ #[b_ c_ (-1),b_ c_ (-1),b_ c_ (-1),b_ c_ (-1)] 3 (0,0))):=gg q.out;have M:=gg E;clear q E;refine⟨trivial,?_⟩;refine js (i:=8) ga rfl ?_
 intro al l _
 go_wp2_with fail
 refine⟨trivial,?_⟩;refine js (i:=9) ga rfl ?_
 intro ai G _
 go_wp2_with fail
 refine⟨trivial,?_⟩;refine od ga ?_
 intro r h _;have z:gi (Up f r):=gg (mI (mI l G) h);have J:=gg (gk z.o T.o);have S:=gg (gj M.o z.o);clear l G h;obtain⟨w5,ad⟩:∃ x,x=r:=⟨_,rfl⟩;have V:=J;have H:=S
 go_wp2_with fail
 rw[rounds_succ]
 go_wp2
 go_ret;exact⟨w.heap.size,rfl,V.o,fL,H.o⟩
-- END REPEAT
theorem Li (k b:Nat) w (c:1≤k∧k≤4) (a:w.heap[b]? = some (d_ #[b_ c_ (-1)] 3 (0,0))) :
 Calls gd 65 #[a_ (some ⟨b,0,none⟩) 1 1,b_ c_ (k:Int)] w fun e w'=>∃ g,e =fH (a_ (some ⟨g,0,none⟩) k k)∧w'.heap[g]? = some (d_ (gz (List.replicate k (-1))).toArray 3 (0,0))∧w.heap.size≤g∧Up w w':=by
 rcases(by omega:k=1∨k=2∨k=3∨k=4) with rfl|rfl|rfl|rfl
 · exact xH b w a
 · exact xI b w a
 · exact xJ b w a
 · exact xK b w a
theorem Dd {w:World} {g e k n B:Nat} {xs} (h:w.heap[g]? = some (d_ xs.toArray e (0,0))) (b:B≤g) (a:xs.length=n*k) (c:n≤maxLen):w.ownsRow B e k (a_ (some ⟨g,0,none⟩) n n) n xs:=
 ⟨a,.inr ⟨g,n,xs.toArray,rfl,b,h,fL,c,by simpa using a,by simp[←a]⟩⟩
theorem yT:(gd.info? 3).map (fun i=>(i.zero,i.size,i.bytes))=some (some (b_ c_ 0),1,8):=by kernel_rfl
theorem F_ z (n):(madeCells #[z] (n*1)).toList=List.replicate n z:=by
 apply List.ext_getElem?;intro i;simp[madeCells,List.getElem?_replicate]
 try (split <;> simp_all [Nat.mod_one])
theorem EN {w w'} (a:w.grownBy w' none):Up w w':=⟨a.os,a.tape,a.output,a.size,fun k b=>a.block k b gb⟩
theorem qI {w h n B a} (_:Below B a w):∀ (i:Nat) (r:Value) (l:List (Int×Int)),(List.replicate h (a_ none 0 0))[i]? = some r→(mX h n).pend[i]? = some l→w.ownsRow 0 127 2 r l.length (gW l):=by
 intro i r l b hl;simp[mX,List.getElem?_replicate] at b hl;obtain⟨_,rfl⟩:=b;obtain⟨_,rfl⟩:=hl;exact World.ownsRow_nil _ _ _ _
def oo (h n:Int):kS×Int:=if 1≤h∧h≤4∧0≤n∧n≤4096 then (mX h.toNat n.toNat,0) else (lY,1)
theorem Cq h n (w) (b:¬ (1≤h∧h≤4∧0≤n∧n≤4096)) :
 Calls gd 29 #[b_ c_ h,b_ c_ n] w (oj w w.heap.size (lY,1)):=by
 unfold oj;have e:(h<1)∨(1≤h∧4<h)∨(1≤h∧h≤4∧n<0)∨(1≤h∧h≤4∧0≤n∧4096<n):=by omega
 clear b;rcases e with e|⟨e,a⟩|⟨e,a,c⟩|⟨e,a,c,d⟩
 all_goals
  go_in;go_wp2;exact bodyPost_ret (v:=fI #[e_ #[a_ none 0 0,a_ none 0 0,a_ none 0 0],b_ c_ 1]) (by simp[results,Tryz.results29,go_sem]) rfl ⟨_,rfl,lX _,zB⟩
structure iD (W:World) (B h n:Nat) (fl:List Bool) (u22 u24 u25 u27 u28:Value) (w:World):Prop where
 bel:Up W w
 q:w.heap[B]? = some (d_ (if fl.getD 8 false=true then #[u22,u24,u27] else #[a_ none 0 0,a_ none 0 0,a_ none 0 0]) 33 (0,0))
 f1:fl.getD 1 false=true→w.ownsRow B 3 1 u22 n (gz (List.replicate n 0))
 f3:fl.getD 3 false=true→w.ownsRow B 57 1 u24 h (List.replicate h (a_ none 0 0))
 f4:fl.getD 4 false=true → ∃ b,u25 =a_ (some ⟨b,0,none⟩) 1 1∧w.heap[b]? = some (d_ #[b_ c_ (-1)] 3 (0,0))
 f6:fl.getD 6 false=true→w.ownsRow B 3 1 u27 h (gz (List.replicate h (-1)))
 f7:fl.getD 7 false=true→u28 =e_ #[u22,u24,u27]
def BH:List (List Bool):=
 [false,true].flatMap fun a=>[false,true].flatMap fun p=>[false,true].flatMap fun b=>[false,true].flatMap fun r=>[false,true].flatMap fun m=>[false,true].flatMap fun s=>[false,true].flatMap fun z=>
  if (b || !r) && ((!m || (a && (p && r))) && ((!s || m) && (!z || s))) then [[true,a,true,p,b,true,r,m,s,z]] else []
def wL (a:List Bool) (i:Nat):Bool:=
 i == 1 || i == 3 || i == 4 || (i == 6 && a.getD 4 false) || (i == 7 && (a.getD 1 false && (a.getD 3 false && a.getD 6 false))) || (i == 8 && (a.getD 1 false && (a.getD 3 false && (a.getD 6 false && a.getD 7 false)))) || (i == 9 && a.getD 8 false)
theorem F9:∀ a∈BH,a.length=10∧(a.getD 8 false=true→a.getD 7 false=true)∧(a.getD 7 false=true→a.getD 1 false=true∧a.getD 3 false=true∧a.getD 6 false=true):=by
 have:(BH.all fun a=>a.length == 10 && ((!a.getD 8 false || a.getD 7 false) && (!a.getD 7 false || (a.getD 1 false && (a.getD 3 false && a.getD 6 false)))))=true:=by kernel_rfl
 intro a h;have:=List.all_eq_true.1 this a h;simp only[Bool.and_eq_true,Bool.or_eq_true,Bool.not_eq_true',beq_iff_eq] at this;refine⟨this.1,fun h=>?_,fun h=>?_⟩
 · rcases this.2.1 with h1|h1
   · rw[h1] at h;cases h
   · exact h1
 · rcases this.2.2 with h1|h1
   · rw[h1] at h;cases h
   · exact h1
theorem iB (a:List Bool) i j (h:i≠j):(a.set i true).getD j false=a.getD j false:=by
 rw[List.getD_eq_getElem?_getD,List.getD_eq_getElem?_getD,List.getElem?_set_ne h]
theorem FP (a:List Bool) (i):(a.set i true).getD i false=true↔i<a.length:=by
 rw[List.getD_eq_getElem?_getD];by_cases h:i<a.length
 · rw[List.getElem?_set_self h];simp[h]
 · rw[List.getElem?_eq_none (by simp;omega)];simp[h]
theorem yK {a:List Bool} {i} (h:a[i]? = some false):a.getD i false=false:=by rw[List.getD_eq_getElem?_getD,h];rfl
theorem Gi {a:List Bool} (h:a.all id=true) {i} (b:i<a.length):a.getD i false=true:=by
 rw[List.getD_eq_getElem?_getD,fQ b];exact List.all_eq_true.1 h _ (List.getElem_mem b)
section
variable {W:World} {B h n:Nat} {fl:List Bool} {u22 u24 u25 u27 u28:Value} {w w1:World}
theorem iD.up (m:iD W B h n fl u22 u24 u25 u27 u28 w) (a:Up w w1):iD W B h n fl u22 u24 u25 u27 u28 w1:=
 ⟨gj m.bel a,gk a m.q,fun x=>gy (m.f1 x) a,fun x=>gy (m.f3 x) a,fun x=>by
  obtain⟨b,e,c⟩:=m.f4 x;exact⟨b,e,gk a c⟩,fun x=>gy (m.f6 x) a,m.f7⟩
theorem iD.off (h:fl∈BH) {i} (f:i=1∨i=3∨i=6) (c:fl[i]? = some false):fl.getD 7 false=false∧fl.getD 8 false=false:=by
 obtain⟨_,d,b⟩:=F9 fl h;have g:=yK c
 have a:fl.getD 7 false=false:=by
  cases e:fl.getD 7 false
  · rfl
  · have:=b e
    rcases f with rfl|rfl|rfl
    · rw[this.1] at g;cases g
    · rw[this.2.1] at g;cases g
    · rw[this.2.2] at g;cases g
 refine⟨a,?_⟩;cases e:fl.getD 8 false
 · rfl
 · rw[d e] at a;cases a
theorem iD.put1 (m:iD W B h n fl u22 u24 u25 u27 u28 w) (l:fl∈BH) (g:fl[1]? = some false) {v} (k:w1.ownsRow B 3 1 v n (gz (List.replicate n 0))) (a:Up w w1):iD W B h n (fl.set 1 true) v u24 u25 u27 u28 w1:=by
 obtain⟨j,c⟩:=iD.off l (i:=1) gb g;have d:=m.q;rw[c,if_neg fZ] at d
 refine⟨gj m.bel a,?_,fun _=>k,fun x=>gy (m.f3 (by rwa [iB _ 1 3 fZ] at x)) a,fun x=>by
  obtain⟨b,e,f⟩:=m.f4 (by rwa [iB _ 1 4 fZ] at x);exact⟨b,e,gk a f⟩,fun x=>gy (m.f6 (by rwa [iB _ 1 6 fZ] at x)) a,fun x=>(by rw[iB _ 1 7 fZ,j] at x;cases x)⟩
 rw[iB _ 1 8 fZ,c,if_neg fZ];exact gk a d
theorem iD.put3 (m:iD W B h n fl u22 u24 u25 u27 u28 w) (l:fl∈BH) (g:fl[3]? = some false) {v} (k:w1.ownsRow B 57 1 v h (List.replicate h (a_ none 0 0))) (a:Up w w1):iD W B h n (fl.set 3 true) u22 v u25 u27 u28 w1:=by
 obtain⟨j,c⟩:=iD.off l (i:=3) gb g;have d:=m.q;rw[c,if_neg fZ] at d
 refine⟨gj m.bel a,?_,fun x=>gy (m.f1 (by rwa [iB _ 3 1 fZ] at x)) a,fun _=>k,fun x=>by
  obtain⟨b,e,f⟩:=m.f4 (by rwa [iB _ 3 4 fZ] at x);exact⟨b,e,gk a f⟩,fun x=>gy (m.f6 (by rwa [iB _ 3 6 fZ] at x)) a,fun x=>(by rw[iB _ 3 7 fZ,j] at x;cases x)⟩
 rw[iB _ 3 8 fZ,c,if_neg fZ];exact gk a d
theorem iD.put6 (m:iD W B h n fl u22 u24 u25 u27 u28 w) (l:fl∈BH) (g:fl[6]? = some false) {v} (k:w1.ownsRow B 3 1 v h (gz (List.replicate h (-1)))) (a:Up w w1):iD W B h n (fl.set 6 true) u22 u24 u25 v u28 w1:=by
 obtain⟨j,c⟩:=iD.off l (i:=6) gb g;have d:=m.q;rw[c,if_neg fZ] at d
 refine⟨gj m.bel a,?_,fun x=>gy (m.f1 (by rwa [iB _ 6 1 fZ] at x)) a,fun x=>gy (m.f3 (by rwa [iB _ 6 3 fZ] at x)) a,fun x=>by
  obtain⟨b,e,f⟩:=m.f4 (by rwa [iB _ 6 4 fZ] at x);exact⟨b,e,gk a f⟩,fun _=>k,fun x=>(by rw[iB _ 6 7 fZ,j] at x;cases x)⟩
 rw[iB _ 6 8 fZ,c,if_neg fZ];exact gk a d
theorem iD.put4 (m:iD W B h n fl u22 u24 u25 u27 u28 w) {b} (c:w1.heap[b]? = some (d_ #[b_ c_ (-1)] 3 (0,0))) (a:Up w w1):iD W B h n (fl.set 4 true) u22 u24 (a_ (some ⟨b,0,none⟩) 1 1) u27 u28 w1:=by
 refine⟨gj m.bel a,?_,fun x=>gy (m.f1 (by rwa [iB _ 4 1 fZ] at x)) a,fun x=>gy (m.f3 (by rwa [iB _ 4 3 fZ] at x)) a,fun _=>⟨b,rfl,c⟩,fun x=>gy (m.f6 (by rwa [iB _ 4 6 fZ] at x)) a,fun x=>m.f7 (by rwa [iB _ 4 7 fZ] at x)⟩;rw[iB _ 4 8 fZ];exact gk a m.q
theorem iD.put7 (m:iD W B h n fl u22 u24 u25 u27 u28 w):iD W B h n (fl.set 7 true) u22 u24 u25 u27 (e_ #[u22,u24,u27]) w:=by
 refine⟨m.bel,?_,fun x=>m.f1 (by rwa [iB _ 7 1 fZ] at x),fun x=>m.f3 (by rwa [iB _ 7 3 fZ] at x),fun x=>m.f4 (by rwa [iB _ 7 4 fZ] at x),fun x=>m.f6 (by rwa [iB _ 7 6 fZ] at x),fun _=>rfl⟩;rw[iB _ 7 8 fZ];exact m.q
theorem iD.put8 (m:iD W B h n fl u22 u24 u25 u27 u28 w) (j:fl∈BH) (i:W.heap.size≤B) {g f d} (a:w.heap[B]? = some (d_ #[g,f,d] 33 (0,0))):iD W B h n (fl.set 8 true) u22 u24 u25 u27 u28 (((w.setCell ⟨B,0,none⟩ u22).setCell ⟨B,1,none⟩ u24).setCell ⟨B,2,none⟩ u27):=by
 refine⟨kt m.bel i,?_,fun x=>sI _ _ _ (m.f1 (by rwa [iB _ 8 1 fZ] at x)) a fZ,fun x=>sI _ _ _ (m.f3 (by rwa [iB _ 8 3 fZ] at x)) a fZ,fun x=>?_,fun x=>sI _ _ _ (m.f6 (by rwa [iB _ 8 6 fZ] at x)) a fZ,fun x=>m.f7 (by rwa [iB _ 8 7 fZ] at x)⟩
 · rw[if_pos ((FP fl 8).2 (by have:=(F9 fl j).1;omega))]
   exact(jT a).1
 · obtain⟨b,e,c⟩:=m.f4 (by rwa [iB _ 8 4 fZ] at x)
   refine⟨b,e,((jT a).2 b ?_).trans c⟩;rintro rfl;rw[a] at c;injection c with e;injection e with _ e;exact absurd e fZ
theorem iD.put9 (m:iD W B h n fl u22 u24 u25 u27 u28 w):iD W B h n (fl.set 9 true) u22 u24 u25 u27 u28 w:=by
 refine⟨m.bel,?_,fun x=>m.f1 (by rwa [iB _ 9 1 fZ] at x),fun x=>m.f3 (by rwa [iB _ 9 3 fZ] at x),fun x=>m.f4 (by rwa [iB _ 9 4 fZ] at x),fun x=>m.f6 (by rwa [iB _ 9 6 fZ] at x),fun x=>m.f7 (by rwa [iB _ 9 7 fZ] at x)⟩;rw[iB _ 9 8 fZ];exact m.q
end
theorem Ad (h n:Nat) w (hh:1≤h∧h≤4) (hn:n≤4096) :
 Calls gd 29 #[b_ c_ (h:Int),b_ c_ (n:Int)] w (oj w w.heap.size (mX h n,0)):=by
 unfold oj;obtain⟨Z,aa⟩:=hh;obtain⟨V,D,S,L,Q⟩:=info_parts yT;obtain⟨i1,N,I,R,G⟩:=info_parts Ej;go_in;go_upto_region 3 with(fail)
 refine fX (fun w'=>Up w w') [true,false,true,false,false,true] (fun a b h A=>gj h A) (gr _ _) ?a' ?h ?ht
 case h=>
  intro w0 _;simp only[jd];repeat(go_big_quiet_step (fail))
  refine wpQuiet_nil ?_
  rfl
 case ht=>
  change kN _ _ _ _ _ 7 _ _ _;have K:(w.alloc zM).drew.heap[w.heap.size]? = some (d_ #[a_ none 0 0,a_ none 0 0,a_ none 0 0] 33 (0,0)):=gH w zM;refine Ek BH wL [true,false,true,false,false,true,false,false,false,false] _ (fun a0 fl a w'=>∃ u22 u24 u25 u27 u28,a=(((((a0.put (some 22) u22).put (some 24) u24).put (some 25) u25).put (some 27) u27).put (some 28) u28)∧iD w w.heap.size h n fl u22 u24 u25 u27 u28 w') ga ga ga (iR (gr _ _)) ?s ?i ?e ?t
  case s=>
   refine⟨undef,undef,undef,undef,undef,by simp only[Act.put,fU,fV,fW],⟨iR (gr _ _),K,?_,?_,?_,?_,?_⟩⟩
   all_goals exact fun x=>absurd x fZ
  case i=>
   rintro fl a m B ⟨u22,u24,u25,u27,u28,e,d⟩ A;exact⟨u22,u24,u25,u27,u28,e,d.up A⟩
  case t=>
   rintro fl a m i p ⟨u22,u24,u25,u27,u28,rfl,d⟩ j y r;have c:=gg d;have J:w.heap.size≤m.heap.size:=d.bel.size;clear d;unfold wL at y;simp only[Bool.or_eq_true,Bool.and_eq_true,beq_iff_eq] at y;rcases y with(((((rfl|rfl)|rfl)|⟨rfl,h4⟩)|⟨rfl,h1,h3,u⟩)|⟨rfl,h1,h3,u,X⟩)|⟨rfl,h8⟩
   · refine kZ (i:=1) rfl ?_
     simp only[Act.put,fU,fV,fW];obtain⟨B,ab,o,k⟩:=run_make_full (P:=gd) m w.heap.size 24 3 V (b_ c_ 0) 1 Tryz.underlying24 D S L .i64 .i64 n (by rw[Q];omega) (by unfold maxLen;omega) J;rw[show (b_ c_ 0:Value).cells = #[b_ c_ 0] from rfl,F_,show List.replicate n (b_ c_ 0)=gz (List.replicate n 0) by simp[gz]] at o;have z:=gg o;have f:=gg (EN k);clear o k
     go_wp2_with fail
     exact⟨gj j f.o,_,u24,u25,u27,u28,rfl,c.o.put1 p r z.o f.o⟩
   · refine kZ (i:=3) rfl ?_
     simp only[Act.put,fU,fV,fW];obtain⟨B,ab,o,k⟩:=run_make_full (P:=gd) m w.heap.size 31 57 i1 (a_ none 0 0) 1 Tryz.underlying31 N I R .i64 .i64 h (by rw[G];omega) (by unfold maxLen;omega) J;rw[show (a_ none 0 0:Value).cells = #[a_ none 0 0] from rfl,F_] at o;have z:=gg o;have f:=gg (EN k);clear o k
     go_wp2_with fail
     exact⟨gj j f.o,u22,_,u25,u27,u28,rfl,c.o.put3 p r z.o f.o⟩
   · refine kZ (i:=4) rfl ?_
     simp only[Act.put,fU,fV,fW]
     go_wp2_with fail
     exact⟨gj j (gr _ _),u22,u24,_,u27,u28,rfl,c.o.put4 (gH m _) (gr _ _)⟩
   · refine kZ (i:=6) rfl ?_
     obtain⟨b,rfl,H⟩:=c.o.f4 h4;have W:=gg H;clear H;simp only[Act.put,fU,fV,fW]
     go_wp2_with (go_at_call 65;((with_reducible refine(Li h b _ ⟨Z,aa⟩ W.o).mono ?_);rintro e B ⟨g,rfl,k,ac,U⟩;have HG:=gg k;have f:=gg U;clear k U))
     exact⟨gj j f.o,u22,u24,_,_,u28,rfl,c.o.put6 p r (Dd HG.o f_ (by simp[gz]) (by unfold maxLen;omega)) f.o⟩
   · refine kZ (i:=7) rfl ?_
     obtain⟨_,_,rfl⟩:=gN (c.o.f1 h1);obtain⟨_,_,rfl⟩:=gN (c.o.f3 h3);obtain⟨_,_,rfl⟩:=gN (c.o.f6 u);simp only[Act.put,fU,fV,fW]
     go_wp2_with fail
     exact⟨j,_,_,u25,_,_,rfl,c.o.put7⟩
   · refine kZ (i:=8) rfl ?_
     obtain rfl:=c.o.f7 X;obtain⟨_,_,rfl⟩:=gN (c.o.f1 h1);obtain⟨_,_,rfl⟩:=gN (c.o.f3 h3);obtain⟨_,_,rfl⟩:=gN (c.o.f6 u);have l:=c.o.q;rw[yK r,if_neg fZ] at l;have HQ:=gg l;obtain⟨⟨q0,q1,q2⟩,g0,g1,g2⟩:=iK l;clear l;simp only[Act.put,fU,fV,fW]
     go_wp2_with fail
     exact⟨kt j fL,_,_,u25,_,_,rfl,c.o.put8 p fL HQ.o⟩
   · refine kZ (i:=9) rfl ?_
     simp only[Act.put,fU,fV,fW]
     go_wp2_with fail
     exact⟨j,u22,u24,u25,u27,u28,rfl,c.o.put9⟩
  case e=>
   rintro fl a m O p ⟨u22,u24,u25,u27,u28,rfl,d⟩ j;have T:=fun (i:Nat) (D:i<10)=>Gi O (i:=i) (by have:=(F9 fl p).1;omega)
   have l:=d.q;rw[if_pos (T 8 fZ)] at l;have C:=d.f1 (T 1 fZ);have F:=d.f3 (T 3 fZ);have E:=d.f6 (T 6 fZ);obtain⟨a1,c1,rfl⟩:=gN C;obtain⟨a2,M,rfl⟩:=gN F;obtain⟨a3,c3,rfl⟩:=gN E;have HM:gi (gM m (e_ #[a_ a1 n c1,a_ a2 h M,a_ a3 h c3]) (mX h n)):=gg ⟨_,_,_,List.replicate h (a_ none 0 0),rfl,by simpa[mX] using nj C,by simpa[mX] using nj F,by simpa[mX] using nj E,by simp[mX],qI d.bel⟩;have f:=gg d.bel;obtain⟨s0,s1,Y⟩:=iv l;clear d l C F E T j O p D N I R G S L Q K;simp only[Act.put,fU,fV,fW]
   go_wp2_with fail
   exact bodyPost_ret (v:=fI #[e_ #[a_ a1 n c1,a_ a2 h M,a_ a3 h c3],b_ c_ 0]) (by simp[results,Tryz.results29,go_sem,s0,s1,Y]) rfl ⟨_,rfl,HM.o,f.o⟩
theorem td h n (w):Calls gd 29 #[b_ c_ h,b_ c_ n] w (oj w w.heap.size (oo h n)):=by
 unfold oo;by_cases a:1≤h∧h≤4∧0≤n∧n≤4096
 · rw[if_pos a]
   obtain⟨c,rfl⟩:∃ k:Nat,h=k:=⟨h.toNat,by omega⟩;obtain⟨b,rfl⟩:∃ k:Nat,n=k:=⟨n.toNat,by omega⟩;simp only[Int.toNat_natCast];exact Ad _ _ w f_ f_
 · rw[if_neg a];exact Cq h n w a
end
theorem Bs {w k n v xs} (h:gl w k n v xs) (g:0<n) :
 ∃ b o c,v =a_ (some ⟨b,o,none⟩) n c∧n≤c∧c≤maxLen ∧ ∀ j u,xs[j]? = some u→w.cell? ⟨b,o+j,none⟩=some u:=by
 rcases h.2.2 with⟨_,h0⟩|⟨b,o,c,a,_,f,e,d⟩
 · omega
 · exact⟨b,o,c,a,f,e,d⟩
theorem FJ v t (xs d:List Int) (w) (h:gl w 1 xs.length v (xs.map (b_ c_))) (n:gl w 1 d.length t (d.map (b_ c_))) :
 Calls gd 52 #[v,t] w fun e w'=>e =fH (fJ (decide (xs=d)))∧Up w w':=by
 obtain⟨a,c,rfl⟩:=h.shape;obtain⟨a',R,rfl⟩:=n.shape;have D:=gg h;have P:=gg n;clear h n;by_cases hl:xs.length=d.length
 · have J:(((xs.length:Nat):Int) != ((d.length:Nat):Int))=false:=by simp[hl]
   by_cases h0:xs.length=0
   · have K:xs=[]:=fT h0
     have I:d=[]:=fT f_;subst K I;simp only[List.length_nil] at *
     go_in
     go_wp2_with fail
     refine wp_loop_rounds 1 ?_
     rw[rounds_succ]
     go_wp2
     go_ret;exact⟨gt (iO gb),fK⟩
   · obtain⟨b,o,V,L,Y,M,s⟩:=Bs D.o f_
     obtain⟨Q,G,U,O,W,C,x⟩:=Bs P.o f_;injection L with j _ e2;injection O with e3 _ e4
     subst j e2 e3 e4;have z:=gg hl;have H:=gg s;have B:=gg x;clear s x hl;unfold maxLen at M C;go_in
     go_wp2_with fail
     go_loopw [13] (fun i wr=>∃ k:Nat,k≤xs.length∧i =b_ c_ k∧xs.take k=d.take k∧Up w wr∧(∀ a,wr.cell? a=w.cell? a)) (fun i _=>xs.length - (intOf i).toNat)
     case atStart=>exact⟨0,fM,rfl,rfl,fK,fun _=>rfl⟩
     case round=>
      obtain⟨k,T,rfl,ht,u,A⟩:=hrel;have y:=gg ht;have l:=gg u;have m:=gg A;clear ht u A;by_cases q:k<xs.length
      · have r:k<d.length:=by rw[←z.o];exact q
        have S:wr.cell? ⟨b,o+k,none⟩=some (b_ c_ (xs[k])):=by rw[m.o];exact H.o k _ (by simp[q])
        have X:wr.cell? ⟨Q,G+k,none⟩=some (b_ c_ (d[k])):=by rw[m.o];exact B.o k _ (by simp[r])
        by_cases g:xs[k]=d[k]
        · have E:(xs[k] != d[k])=false:=by simp[g]
          have N:=gg g;clear g
          go_wp2_with fail
          go_quiet (fail)
          go_wp2_with fail
          refine⟨⟨k+1,by omega,by go_num,?_,lJ l.o _,m.o⟩,by simp[intOf];omega⟩;rw[fP q,fP r,y.o,N.o]
        · have E:(xs[k] != d[k])=true:=by simp[g]
          have f:decide (xs=d)=false:=decide_eq_false (fun e=>g (by subst e;rfl));have p:=gg f;clear g f
          go_wp2_with fail
          go_quiet (fail)
          go_wp2
          go_ret;exact⟨gt (iO p.o.symm),lJ l.o _⟩
      · have f:decide (xs=d)=true:=decide_eq_true (by
         have j:=y.o;have F:k=xs.length:=by omega
         rw[F,List.take_length,z.o,List.take_length] at j;exact j)
        have p:=gg f;clear f
        go_wp2
        go_ret;exact⟨gt (iO p.o.symm),l.o⟩
 · have J:(((xs.length:Nat):Int) != ((d.length:Nat):Int))=true:=by simp;omega
   have f:decide (xs=d)=false:=decide_eq_false (fun e=>hl (by rw[e]));rw[f];clear hl f;go_in
   go_wp2
   go_ret;exact⟨gt (iO rfl),fK⟩
theorem zv (x y:Int×Int):decide (x=y)=(x.1 == y.1 && x.2 == y.2):=by
 obtain⟨a,b⟩:=x;obtain⟨c,d⟩:=y;rw[Bool.eq_iff_iff];simp
theorem Eu r (x y:Int×Int) (h:decide (x=y)=r) (w):(Op.equalIn 10000 127 (e_ #[b_ c_ x.1,b_ c_ x.2]) (e_ #[b_ c_ y.1,b_ c_ y.2])).run gd w = .ok r w:=by
 have u3:=Tryz.underlying3;have a3:=Tryz.isAgg3;have c:=Tryz.sizeOf3;have b:gd.underlying 127=some (.struct (gd.fieldsOf 127)):=by kernel_rfl
 have a:gd.stoodInHeld 127=false:=by kernel_rfl
 rw[←h,zv,show (10000:Nat)=9999+1 from rfl,run_equalIn_agg w 9999 127 _ _ b a];simp only[Program.fieldsOf,Tryz.underlying127]
 go_simp
 cases h1:(x.1 == y.1)
 · simp_all
 · cases h2:(x.2 == y.2) <;> simp_all
theorem Nt v t xs d (w) (h:gl w 2 xs.length v (gW xs)) (n:gl w 2 d.length t (gW d)) :
 Calls gd 102 #[v,t] w fun e w'=>e =fH (fJ (decide (xs=d)))∧Up w w':=by
 obtain⟨a,c,rfl⟩:=h.shape;obtain⟨a',V,rfl⟩:=n.shape;have K:=gg h;have U:=gg n;clear h n;by_cases hl:xs.length=d.length
 · have O:(((xs.length:Nat):Int) != ((d.length:Nat):Int))=false:=by simp[hl]
   by_cases h0:xs.length=0
   · have P:xs=[]:=fT h0
     have N:d=[]:=fT f_;subst P N;simp only[List.length_nil] at *
     go_in
     go_wp2_with fail
     refine wp_loop_rounds 1 ?_
     rw[rounds_succ]
     go_wp2
     go_ret;exact⟨gt (iO gb),fK⟩
   · obtain⟨b,o,c0,Q,hc,R,r⟩:=Bs K.o f_
     obtain⟨H,x,Z,T,aa,J,z⟩:=Bs U.o f_;injection Q with l _ e2;injection T with e3 _ e4
     subst l e2 e3 e4;have D:=gg hl;have y:=gg r;have q:=gg z;clear r z hl;unfold maxLen at R J;go_in
     go_wp2_with fail
     go_loopw [13] (fun i wr=>∃ k:Nat,k≤xs.length∧i =b_ c_ k∧xs.take k=d.take k∧Up w wr∧(∀ a,wr.cell? a=w.cell? a)) (fun i _=>xs.length - (intOf i).toNat)
     case atStart=>exact⟨0,fM,rfl,rfl,fK,fun _=>rfl⟩
     case round=>
      obtain⟨k,Y,rfl,ht,u,E⟩:=hrel;have B:=gg ht;have m:=gg u;have j:=gg E;clear ht u E;by_cases G:k<xs.length
      · have I:k<d.length:=by rw[←D.o];exact G
        obtain⟨C,s⟩:=Eg xs k xs[k] gb;obtain⟨F,A⟩:=Eg d k d[k] gb;have W:wr.cell? ⟨b,o+k*2,none⟩=some (b_ c_ (xs[k]).1):=by rw[j.o];exact y.o _ _ C
        have ab:wr.cell? ⟨b,o+k*2+1,none⟩=some (b_ c_ (xs[k]).2):=by rw[j.o];exact y.o _ _ s
        have g2:wr.cell? ⟨H,x+k*2,none⟩=some (b_ c_ (d[k]).1):=by rw[j.o];exact q.o _ _ F
        have X:wr.cell? ⟨H,x+k*2+1,none⟩=some (b_ c_ (d[k]).2):=by rw[j.o];exact q.o _ _ A
        clear C s F A;by_cases g:xs[k]=d[k]
        · have L:=fun w=>Eu true xs[k] d[k] (by simp[g]) w
          have S:=gg g;clear g
          go_wp2_with fail
          go_quiet (fail)
          go_wp2_with fail
          refine⟨⟨k+1,by omega,by go_num,?_,lJ m.o _,j.o⟩,by simp[intOf];omega⟩;rw[fP G,fP I,B.o,S.o]
        · have L:=fun w=>Eu false xs[k] d[k] (by simp[g]) w
          have f:decide (xs=d)=false:=decide_eq_false (fun e=>g (by subst e;rfl));have p:=gg f;clear g f
          go_wp2_with fail
          go_quiet (fail)
          go_wp2
          go_ret;exact⟨gt (iO p.o.symm),lJ m.o _⟩
      · have f:decide (xs=d)=true:=decide_eq_true (by
         have l:=B.o;have M:k=xs.length:=by omega
         rw[M,List.take_length,D.o,List.take_length] at l;exact l)
        have p:=gg f;clear f
        go_wp2
        go_ret;exact⟨gt (iO p.o.symm),m.o⟩
 · have O:(((xs.length:Nat):Int) != ((d.length:Nat):Int))=true:=by simp;omega
   have f:decide (xs=d)=false:=decide_eq_false (fun e=>hl (by rw[e]));rw[f];clear hl f;go_in
   go_wp2
   go_ret;exact⟨gt (iO rfl),fK⟩
theorem Ig v b xs a r (w) (h:gl w 2 xs.length v (gW xs)) (c:gl w 2 a.length b (gW a)) (g:decide (xs=a)=r) :
 Calls gd 101 #[v,b] w fun e w'=>e =fH (fJ r)∧Up w w':=by
 subst g;have f:=gg (Nt v b xs a w h c);clear h c;go_in
 go_wp2_with (go_at_call 102;((with_reducible refine(f.o).mono ?_);rintro e w1 ⟨rfl,d⟩))
 go_ret;exact⟨rfl,d⟩
theorem Mj a a' c I l n xs d (w) (h:gl w 1 xs.length (a_ a xs.length c) l) (z:gl w 1 d.length (a_ a' d.length I) n) (E:lw w l xs) (N:lw w n d) :
 Calls gd 100 #[a_ a xs.length c,a_ a' d.length I,.func (.func 101) #[] #[]] w fun e w'=>e =fH (fJ (decide (xs=d)))∧Up w w':=by
 have HR:=gg h;have ag:=gg z;have B:=gg E;have H:=gg N;clear h z E N;by_cases hl:xs.length=d.length
 · have L:(((xs.length:Nat):Int) != ((d.length:Nat):Int))=false:=by simp[hl]
   by_cases h0:xs.length=0
   · have X:xs=[]:=fT h0
     have W:d=[]:=fT f_;subst X W;simp only[List.length_nil] at *
     go_in
     go_wp2_with fail
     refine wp_loop_rounds 1 ?_
     rw[rounds_succ]
     go_wp2
     go_ret;exact⟨gt (iO gb),fK⟩
   · obtain⟨b,o,c0,hv,U,hc,hm,K⟩:=HR.o.some f_
     obtain⟨S,C,ai,aa,ah,ae,V,M⟩:=ag.o.some f_;injection hv with s e1n e2;injection aa with e3 e3n e4
     subst s e2 e3 e4;clear e1n e3n;obtain⟨f,v⟩:∃ f,xs.length=f:=⟨_,rfl⟩;have y:d.length=f:=by omega
     have u:=gg v;have D:=gg y;have HC:=gg K;have ac:=gg M;clear K M hl L;rw[v] at hc h0 ⊢
     rw[y] at ae ⊢
     clear v y;unfold maxLen at hm V;go_in
     go_wp2_with fail
     go_loopw [17] (fun i wr=>∃ k:Nat,k≤f∧i =b_ c_ k∧xs.take k=d.take k∧Up w wr) (fun i _=>f - (intOf i).toNat)
     case atStart=>exact⟨0,fM,rfl,rfl,fK⟩
     case round=>
      obtain⟨k,hk,rfl,ht,A⟩:=hrel;have F:=gg ht;have g:=gg A;clear ht A;by_cases Q:k<f
      · have P:k<xs.length:=by rw[u.o];exact Q
        have J:k<d.length:=by rw[D.o];exact Q
        have ab:k<l.length:=by rw[B.o.1];exact P
        have Z:k<n.length:=by rw[H.o.1];exact J
        have g1:wr.cell? ⟨b,o+k,none⟩=some l[k]:=(g.o.cell (p:=⟨b,o+k,none⟩) U).trans (HC.o k _ (by simp[ab]));have Y:wr.cell? ⟨S,C+k,none⟩=some n[k]:=(g.o.cell (p:=⟨S,C+k,none⟩) ah).trans (ac.o k _ (by simp[Z]));have r:=gg (gl.own (gy (B.o.2 k l[k] xs[k] gb gb) g.o) (tI _));have q:=gg (gl.own (gy (H.o.2 k n[k] d[k] gb gb) g.o) (tI _));obtain⟨p1,p2,R⟩:=r.o.shape;obtain⟨p3,p4,G⟩:=q.o.shape;rw[R] at g1 r;rw[G] at Y q;clear R G;by_cases m:xs[k]=d[k]
        · have O:=gg m;clear m
          have t:gi (decide (xs[k]=d[k])=true):=gg (decide_eq_true O.o);have af:=gg (fP P);have T:=gg (fP J);generalize xs[k]=xk at *
          generalize d[k]=yk at *
          go_wp2_with (go_at_call 101;((with_reducible refine(Ig _ _ xk yk true _ r.o q.o t.o).mono ?_);rintro e w1 ⟨rfl,x⟩))
          go_roundw
          case rel=>exact⟨k+1,by omega,by go_num,by rw[af.o,T.o,F.o,O.o],gj g.o x⟩
          case measure=>simp[intOf];omega
        · have j:gi (decide (xs=d)=false):=gg (decide_eq_false (fun e=>m (by subst e;rfl)))
          have t:gi (decide (xs[k]=d[k])=false):=gg (decide_eq_false m);clear m;generalize xs[k]=xk at *
          generalize d[k]=yk at *
          go_wp2_with (go_at_call 101;((with_reducible refine(Ig _ _ xk yk false _ r.o q.o t.o).mono ?_);rintro e w1 ⟨rfl,x⟩))
          go_ret;exact⟨gt (iO j.o.symm),gj g.o x⟩
      · have j:gi (decide (xs=d)=true):=gg (decide_eq_true (by
         have s:=F.o;have ad:k=f:=by omega
         rw[ad,←u.o,List.take_length,u.o,←D.o,List.take_length] at s;exact s))
        go_wp2
        go_ret;exact⟨gt (iO j.o.symm),g.o⟩
 · have L:(((xs.length:Nat):Int) != ((d.length:Nat):Int))=true:=by simp;omega
   have j:decide (xs=d)=false:=decide_eq_false (fun e=>hl (by rw[e]));rw[j];clear hl j;go_in
   go_wp2
   go_ret;exact⟨gt (iO rfl),fK⟩
theorem wS (a b:kS):decide (a=b)=(decide (a.words=b.words) && (decide (a.res=b.res) && decide (a.pend=b.pend))):=by
 obtain⟨x,y,z⟩:=a;obtain⟨e,c,d⟩:=b;rw[Bool.eq_iff_iff];simp;intro _;exact and_comm
theorem D3 v b xs a r (w0 w) (h:gl w0 1 xs.length v (gz xs)) (d:gl w0 1 a.length b (gz a)) (c:Up w0 w) (f:decide (xs=a)=r) :
 Calls gd 52 #[v,b] w fun e w'=>e =fH (fJ r)∧Up w w':=by subst f;exact FJ v b xs a w (h.below c) (d.below c)
theorem xZ v q a b w (h:gM w v a) (m:gM w q b) :
 Calls gd 54 #[v,q] w fun e w'=>e =fH (fJ (decide (a=b)))∧Up w w':=by
 obtain⟨a1,c1,a2,O,a3,c3,z,rfl,r1,r2,r3,o⟩:=h.parts;obtain⟨G,N,M,L,I,P,B,rfl,x,s,t,p⟩:=m.parts;have j:=gg r1;have E:=gg r2;have u:=gg r3;have F:=gg o;have k:=gg x;have y:=gg s;have n:=gg t;have C:=gg p;clear h m r1 r2 r3 o x s t p;rw[wS];cases g:decide (a.words=b.words)
 · have i:=gg g;clear g
   go_in
   go_wp2_with (go_at_call 52;((with_reducible refine(D3 _ _ a.words b.words false w _ j.o k.o zB i.o).mono ?_);rintro e w1 ⟨rfl,c⟩))
   go_ret;exact⟨gt (iO rfl),zB⟩
 · have i:=gg g;clear g
   cases f:decide (a.res=b.res)
   · have l:=gg f;clear f
     go_in
     go_wp2_with fail
     refine(D3 _ _ a.words b.words true w _ j.o k.o zB i.o).mono ?_
     rintro e w1 ⟨rfl,c⟩;obtain⟨A,f1⟩:=jR c
     go_wp2_with fail
     refine(D3 _ _ a.res b.res false w _ u.o n.o zB l.o).mono ?_
     rintro e w2 ⟨rfl,r⟩
     go_wp2
     go_ret;exact⟨gt (iO rfl),zB⟩
   · have l:=gg f;clear f
     go_in
     go_wp2_with fail
     refine(D3 _ _ a.words b.words true w _ j.o k.o zB i.o).mono ?_
     rintro e w1 ⟨rfl,c⟩;obtain⟨A,f1⟩:=jR c;have J:w.heap.size<w1.heap.size:=by have:=c.size;simp at this;omega
     have K:w.heap.size+1<w1.heap.size:=by have:=c.size;simp at this;omega
     go_wp2_with fail
     refine(D3 _ _ a.res b.res true w _ u.o n.o zB l.o).mono ?_
     rintro e w2 ⟨rfl,r⟩;obtain⟨H,f2⟩:=jR r;have d:gi (Up w w2):=gg zB
     go_wp2_with fail
     refine(Mj _ _ _ _ z B a.pend b.pend _ (E.o.below d.o) (y.o.below d.o) (F.o.below d.o) (C.o.below d.o)).mono ?_
     rintro e Q ⟨rfl,D⟩
     go_wp2
     go_ret;exact⟨gt (iO gb),gj d.o D⟩
structure jA (m:kS) (H W:Nat):Prop where
 words:m.words.length=W
 pend:m.pend.length=H
 res:m.res.length=H
 few:∀ l∈m.pend,l.length≤8
 ats:∀ l∈m.pend,∀ x∈l,0≤x.1∧x.1<W
theorem jA.small {m H W} (g:jA m H W) (h1:H≤1000) (h2:W≤100000):jC m:=
 ⟨by rw[g.words];omega,by rw[g.pend];omega,by rw[g.res];omega,fun l hl=>fO (g.few l hl) f_⟩
theorem jA.hart {m H W} (g:jA m H W) {h:Int} (h0:0≤h) (h1:h<H):m6 m h=true:=by
 simp[m6,g.pend,g.res];omega
theorem Nk {m H W} (g:jA m H W) {h a} (b:jm m h a=true):0≤h∧h<H∧0≤a∧a<W:=by
 simp[jm,m6,g.pend,g.res,g.words] at b;omega
theorem Gc {m h} (a:m6 m h=true):iA m h∈m.pend:=by
 obtain⟨h0,h1,_⟩:=Ge a;unfold iA;rw[List.getD_eq_getElem?_getD,fQ f_];exact List.getElem_mem _
theorem jA.len {m H W} (g:jA m H W) {h} (a:m6 m h=true):(iA m h).length≤8:=g.few _ (Gc a)
theorem jA.at {m H W} (g:jA m H W) {h} (a:m6 m h=true) {x} (b:x∈iA m h):0≤x.1∧x.1<W:=g.ats _ (Gc a) x b
theorem vX (H W):jA (mX H W) H W:=by
 constructor <;> simp[mX]
 all_goals(intro l _ hl;subst hl;simp)
theorem IJ {m H W} (g:jA m H W) (h) {l:List (Int×Int)} (hl:l.length≤8) (b:∀ x∈l,0≤x.1∧x.1<W):jA (AZ m h l) H W:=by
 refine⟨g.words,by simp[AZ,g.pend],g.res,?_,?_⟩
 · intro l' a
   rcases List.mem_or_eq_of_mem_set a with h|h
   · exact g.few l' h
   · subst h;exact hl
 · intro l' a
   rcases List.mem_or_eq_of_mem_set a with h|h
   · exact g.ats l' h
   · subst h;exact b
theorem FH {m H W} (g:jA m H W) (h a n):jA (km m h a n) H W:=
 ⟨by simp[km,g.words],g.pend,by simp[km,yN,g.res],g.few,g.ats⟩
theorem FY {m H W} (g:jA m H W) (h a):jA (tH m h a) H W:=
 ⟨g.words,g.pend,by simp[tH,g.res],g.few,g.ats⟩
theorem qQ {m b h a n} (e:A2 m h a n=(b,0)):jm m h a=true∧(iA m h).length<8∧b=AZ m h (iA m h ++ [(a,wrap32 n)]):=by
 unfold A2 at e;split at e
 · rename_i c
   split at e
   · cases e
   · rename_i d
     injection e with e1 e2
     exact⟨c,by omega,e1.symm⟩
 · cases e
theorem Mc {m c H W h a n} (g:jA m H W) (e:A2 m h a n=(c,0)):jA c H W:=by
 obtain⟨d,i,rfl⟩:=qQ e;obtain⟨h0,h1,a0,a1⟩:=Nk g d;have f:=g.hart h0 h1;refine IJ g h (by simp;omega) ?_
 intro x b;rcases List.mem_append.1 b with b|b
 · exact g.at f b
 · simp at b;subst b;exact⟨a0,a1⟩
theorem pX {m d h k} (e:mV m h k=(d,0)):m6 m h=true∧0≤k∧(∃ x,(iA m h)[k.toNat]? = some x∧jm m h x.1=true ∧ ∀ y∈(iA m h).take k.toNat,y.1≠x.1)∧d=vk m h k.toNat:=by
 unfold mV at e;split at e
 · rename_i b
   simp only[Bool.and_eq_true,decide_eq_true_eq] at b;obtain⟨i,n,o⟩:=b;have a:k.toNat<(iA m h).length:=by omega
   split at e
   · rename_i j
     split at e
     · cases e
     · rename_i l
       injection e with e1 e2
       have c:(iA m h).getD k.toNat (0,0)=(iA m h)[k.toNat]:=by simp[List.getD,fQ a]
       refine⟨i,n,⟨(iA m h)[k.toNat],fQ a,c▸j,?_⟩,e1.symm⟩;intro y g f;apply l;unfold Er;rw[List.any_eq_true];exact⟨y,g,by rw[c];simp[f]⟩
   · cases e
 · cases e
theorem Kp {m H W h k} (g:jA m H W) (a:m6 m h=true):jA (vk m h k) H W:=by
 refine IJ (FH g _ _ _) h ?_ ?_
 · exact fO (List.length_eraseIdx_le _ _) (g.len a)
 · intro x b
   exact g.at a (List.mem_of_mem_eraseIdx b)
theorem Mf {m a H W h k} (g:jA m H W) (e:mV m h k=(a,0)):jA a H W:=by
 obtain⟨b,_,_,rfl⟩:=pX e;exact Kp g b
theorem Ix {m b h a u} (e:ow m h a=(u,b,0)):lu m h a=0∧u=kQ m a∧b=tH m h a:=by
 unfold ow at e;split at e
 · rename_i h0;injection e with e1 e2;injection e2 with e2 e3;exact⟨h0,e1.symm,e2.symm⟩
 · rename_i h0;injection e with e1 e2;injection e2 with e2 e3;exact absurd e3 h0
theorem Ka {m b H W h a u} (g:jA m H W) (e:ow m h a=(u,b,0)):jA b H W:=by
 obtain⟨_,_,rfl⟩:=Ix e;exact FY g _ _
theorem sQ {m c h a n u} (e:mM m h a n=(u,c,0)):lu m h a=0∧u=decide (pO m h=a)∧c=if pO m h=a then tH (km m h a (wrap32 n)) h (-1) else tH m h (-1):=by
 unfold mM at e;split at e
 · rename_i h0
   split at e
   · rename_i b;injection e with e1 e2;injection e2 with e2 e3;exact⟨h0,by rw[←e1];simp[b],by rw[if_pos b];exact e2.symm⟩
   · rename_i b;injection e with e1 e2;injection e2 with e2 e3;exact⟨h0,by rw[←e1];simp[b],by rw[if_neg b];exact e2.symm⟩
 · rename_i h0;injection e with e1 e2;injection e2 with e2 e3;exact absurd e3 h0
theorem Nn {m b H W h a n u} (g:jA m H W) (e:mM m h a n=(u,b,0)):jA b H W:=by
 obtain⟨_,_,rfl⟩:=sQ e;split
 · exact FY (FH g _ _ _) _ _
 · exact FY g _ _
theorem Jj {m b h a op n u} (e:ml m h a op n=(u,b,0)):lu m h a=0∧u=kQ m a∧b=km m h a (sJ op (kQ m a) n):=by
 unfold ml at e;split at e
 · rename_i h0;injection e with e1 e2;injection e2 with e2 e3
   refine⟨?_,e1.symm,e2.symm⟩;unfold rq at h0;split at h0
   · cases h0
   · exact h0
 · rename_i h0;injection e with e1 e2;injection e2 with e2 e3;exact absurd e3 h0
theorem Kr {m b H W h a op n u} (g:jA m H W) (e:ml m h a op n=(u,b,0)):jA b H W:=by
 obtain⟨_,_,rfl⟩:=Jj e;exact FH g _ _ _
end
