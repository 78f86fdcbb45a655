/- What the walks of this statement lean on: shown. -/
import Derived.Test.YtdobddiibgfeaaaGreatYa
import Derived.Laws.AppendOwnNone
import Derived.WalkKit
import Derived.Deep.QuietTactic
set_option linter.all false
set_option maxRecDepth 100000
set_option maxHeartbeats 16000000
namespace Go.Proofs.YtdobddiibgfeaaaGreat
open Value renaming slice→a_,int→b_,agg→e_,pointer→fG,tuple→fI,bool→fJ
open IntKind renaming i64→c_
open Obj renaming cells→d_
open Ending renaming returned→fH
open Go.Proofs.Tryz renaming prog→gd
section
section
open Go.RowKit
set_option maxRecDepth 100000
def BR (q:Nat) (w w':World):Prop:=w.heap.size≤w'.heap.size ∧ ∀ k,k<w.heap.size→k≠q→w'.heap[k]? = w.heap[k]?
theorem yu q (w):BR q w w:=⟨fL,fun _ _ _=>rfl⟩
theorem BR.up {q w w' b} (h:BR q w w') (c:Up w' b):BR q w b:=
 ⟨fO h.1 c.size,fun k a d=>by rw[c.block k (fN a h.1)];exact h.2 k a d⟩
theorem Aq {w u b o v} (c:Up w u) (a:b<w.heap.size) (h:w.cell? ⟨b,o,none⟩=some v):u.cell? ⟨b,o,none⟩=some v:=by
 rw[c.cell (p:=⟨b,o,none⟩) a];exact h
end
section
open Go.RowKit
set_option maxRecDepth 100000
def hZ (w:World) (b o:Nat) (v:Value):Prop:=b<w.heap.size∧w.cell? ⟨b,o,none⟩=some v
theorem hZ.up {w w' b o v} (h:hZ w b o v) (a:Up w w'):hZ w' b o v:=⟨fN h.1 a.size,Aq a h.1 h.2⟩
theorem jq {w a n c l} (h:gl w 2 n (a_ a n c) (gW l)) {i} {x} (j:l[i]? = some x) (g:0<n) :
 ∃ b o,a=some ⟨b,o,none⟩∧n≤c∧c≤9223372036854775807∧hZ w b (o+i*2) (b_ c_ x.1)∧hZ w b (o+i*2+1) (b_ c_ x.2):=by
 obtain⟨b,o,p,e,d,m,k,f⟩:=h.some g;injection e with e1 e2 e3
 subst e1 e3;obtain⟨h1,h2⟩:=Eg l i x j;unfold maxLen at k;exact⟨b,o,rfl,m,by omega,⟨d,f _ _ h1⟩,⟨d,f _ _ h2⟩⟩
end
section
open Go.RowKit
set_option maxRecDepth 100000
theorem jy v m h r w (c:gM w v m) (d:m6 m h=r) :
 Calls gd 93 #[v,b_ c_ h] w fun e w'=>e =fH (fJ r)∧Up w w':=by
 obtain⟨a1,c1,a2,g,a3,c3,rows,rfl,_,_,_,_⟩:=c.parts;subst d;unfold m6;generalize m.words.length=n1;generalize m.pend.length=b;generalize m.res.length=f;by_cases h0:0≤h
 · have a:decide (0≤h)=true:=decide_eq_true h0
   rw[a];cases h1:decide (h<(b:Int)) <;> cases h2:decide (h<(f:Int))
   all_goals
    go_enter Tryz.func93,Tryz.ntmps93
    go_wp2
    go_ret;exact⟨gt (iO rfl),gr _ _⟩
 · have a:decide (0≤h)=false:=decide_eq_false h0
   rw[a];go_enter Tryz.func93,Tryz.ntmps93
   go_wp2
   go_ret;exact⟨gt (iO rfl),gr _ _⟩
theorem g9 v m h a r w (g:gM w v m) (k:jm m h a=r) :
 Calls gd 177 #[v,b_ c_ h,b_ c_ a] w fun e w'=>e =fH (fJ r)∧Up w w':=by
 subst k;have i:=gg g;obtain⟨a1,c1,a2,l,a3,c3,rows,rfl,_,_,_,_⟩:=g.parts;clear g;unfold jm;cases c:m6 m h
 · have d:=gg c;clear c
   generalize m.words.length=j at *
   generalize m.pend.length=n2 at *
   generalize m.res.length=n3 at *
   go_enter Tryz.func177,Tryz.ntmps177
   go_wp2_with (go_at_call 93;((with_reducible refine(jy _ m h false _ (i.o.below (gr _ _)) d.o).mono ?_);rintro e w1 ⟨rfl,b⟩))
   go_ret;exact⟨gt (iO rfl),gj (gr _ _) b⟩
 · have d:=gg c;clear c
   generalize m.words.length=j at *
   generalize m.pend.length=n2 at *
   generalize m.res.length=n3 at *
   by_cases h0:0≤a
   · have f:decide (0≤a)=true:=decide_eq_true h0
     rw[f];cases hd2:decide (a<(j:Int))
     all_goals
      go_enter Tryz.func177,Tryz.ntmps177
      go_wp2_with (go_at_call 93;((with_reducible refine(jy _ m h true _ (i.o.below (gr _ _)) d.o).mono ?_);rintro e w1 ⟨rfl,b⟩;obtain⟨c1,f1⟩:=jR b))
      go_ret;exact⟨gt (iO rfl),gj (gr _ _) b⟩
   · have f:decide (0≤a)=false:=decide_eq_false h0
     rw[f];go_enter Tryz.func177,Tryz.ntmps177
     go_wp2_with (go_at_call 93;((with_reducible refine(jy _ m h true _ (i.o.below (gr _ _)) d.o).mono ?_);rintro e w1 ⟨rfl,b⟩))
     go_ret;exact⟨gt (iO rfl),gj (gr _ _) b⟩
theorem gM.word {w a1 a2 a3 d n k c1 f c3 m} (p:gM w (e_ #[a_ a1 d c1,a_ a2 n f,a_ a3 k c3]) m) {a:Int} (h0:0≤a) (h1:a<m.words.length) :
 ∃ b o,a1=some ⟨b,o,none⟩∧d=m.words.length∧d≤c1∧c1≤9223372036854775807∧hZ w b (o+a.toNat) (b_ c_ (kQ m a)):=by
 obtain⟨q,s,v,z,y,t,rows,e,r1,r2,r3,u⟩:=p.parts;injection e with e
 have g:(a_ q m.words.length s:Value) =a_ a1 d c1:=by
  have:=congrArg (fun x=>x[0]?) e
  simpa using this.symm
 rw[g] at r1;obtain⟨b,o,c,h,i,r,l,j⟩:=r1.some f_;injection h with e4 e5 e6
 subst e4 e5 e6;unfold maxLen at l;refine⟨b,o,rfl,rfl,r,by omega,i,j _ _ ?_⟩;rw[En _ _ (by omega:a.toNat<m.words.length)];unfold kQ;simp[List.getD,fQ (by omega:a.toNat<m.words.length)]
theorem gM.resv {w a1 a2 a3 g p d c1 h c3 m} (q:gM w (e_ #[a_ a1 g c1,a_ a2 p h,a_ a3 d c3]) m) {a:Int} (h0:0≤a) (h1:a<m.res.length) :
 ∃ b o,a3=some ⟨b,o,none⟩∧d=m.res.length∧d≤c3∧c3≤9223372036854775807∧hZ w b (o+a.toNat) (b_ c_ (pO m a)):=by
 obtain⟨v,z,u,y,s,f,rows,e,r1,r2,r3,t⟩:=q.parts;injection e with e
 have i:(a_ s m.res.length f:Value) =a_ a3 d c3:=by
  have:=congrArg (fun x=>x[2]?) e
  simpa using this.symm
 rw[i] at r3;obtain⟨b,o,c,j,k,r,n,l⟩:=r3.some f_;injection j with e4 e5 e6
 subst e4 e5 e6;unfold maxLen at n;refine⟨b,o,rfl,rfl,r,by omega,k,l _ _ ?_⟩;rw[En _ _ (by omega:a.toNat<m.res.length)];unfold pO;simp[List.getD,fQ (by omega:a.toNat<m.res.length)]
theorem rS (l:List (Int×Int)) (a d) {i} {x} (c:l[i]? = some x):nG (l.take (i+1)) a d=if x.1=a then x.2 else nG (l.take i) a d:=by
 obtain⟨b,rfl⟩:=fR c;rw[fP b,I_]
 rfl
theorem uy v m h a r w (c:gM w v m) (I:jC m) (hr:CT m h a=r) :
 Calls gd 133 #[v,b_ c_ h,b_ c_ a] w fun e w'=>e =fH (fI #[b_ c_ r.1,b_ c_ r.2])∧Up w w':=by
 subst hr;unfold CT;have p:=gg c;cases f:jm m h a
 · have l:=gg f;clear f
   obtain⟨a1,c1,a2,S,a3,c3,rows,rfl,_,_,_,_⟩:=c.parts;clear c;generalize m.words.length=n1 at *
   generalize m.pend.length=n2 at *
   generalize m.res.length=n3 at *
   go_enter Tryz.func133,Tryz.ntmps133
   go_wp2_with (go_at_call 177;((with_reducible refine(g9 _ m h a false _ (p.o.below (gr _ _)) l.o).mono ?_);rintro e w1 ⟨rfl,g⟩))
   go_ret2
   exact⟨rfl,gj (gr _ _) g⟩
 · have l:=gg f
   obtain⟨H,D,q3,P,q5⟩:=uN f;obtain⟨a1,c1,a2,S,a3,c3,rows,rfl,_,_,_,_⟩:=c.parts;obtain⟨b,o,ra,rc,rfl,Z,q6,q7,T,y,t⟩:=c.row D H;obtain⟨wb,wo,rfl,W,ag,ac,B,E⟩:=c.word P q5
   have K:(iA m h).length≤1000:=by
    have:=yS D H;exact I.each _ (List.mem_of_getElem? this)
   clear Z W f c I;have Q:gi (nQ m h a=nG (iA m h) a (kQ m a)):=gg rfl;generalize nQ m h a=res at *
   generalize iA m h=L at *
   obtain⟨n,u⟩:∃ n,L.length=n:=⟨_,rfl⟩;rw[u] at y t K;have C:=gg u;clear u;have F:=gg t;clear t;generalize kQ m a=wd at *
   generalize m.words.length=n1 at *
   generalize m.pend.length=n2 at *
   generalize m.res.length=n3 at *
   go_enter Tryz.func133,Tryz.ntmps133
   go_wp2_with fail
   refine(g9 _ m h a true _ (p.o.below (gr _ _)) l.o).mono ?_
   rintro e w1 ⟨rfl,g⟩;have d:=gg (gj (gr _ _) g);have q:=gk g (gH w _);obtain⟨⟨k0,k1,k2⟩,_⟩:=iK q;have ae:=gn q;have V:=hZ.up ⟨T,y⟩ d.o;have Y:=hZ.up ⟨B,E⟩ d.o;have aa:=gg (F.o.below d.o);have B1:=d;clear g q F p y B E d;obtain⟨t1,v1⟩:=V;obtain⟨t2,v2⟩:=Y
   go_wp2_with fail
   go_loopw [9,10] (fun s i wr=>∃ j:Nat,j≤n∧s =b_ c_ (nG (L.take j) a wd)∧i =b_ c_ j∧wr=w1) (fun _ i _=>n - (intOf i).toNat)
   case atStart=>exact⟨0,fM,rfl,rfl,rfl⟩
   case round=>
    obtain⟨j,hj,rfl,rfl,rfl⟩:=hrel;by_cases U:j<n
    · obtain⟨⟨X,N⟩,z⟩:∃ x,L[j]? = some x:=⟨_,fQ (by rw[C.o];exact U)⟩
      have k:=gg (rS L a wd z);obtain⟨xb,xo,rfl,ad,ah,⟨ab,M⟩,⟨af,R⟩⟩:=jq aa.o z f_;simp only at M R;clear z;cases G:(X == a)
      · have A:gi (nG (L.take (j+1)) a wd=nG (L.take j) a wd):=gg (by rw[k.o,if_neg (by simpa using G)])
        clear k;generalize nG (L.take j) a wd=lj at *
        go_wp2_with fail
        exact⟨⟨j+1,by omega,by rw[A.o],by go_num,by trivial⟩,by simp[intOf];omega⟩
      · have A:gi (nG (L.take (j+1)) a wd=N):=gg (by rw[k.o,if_pos (by simpa using G)])
        clear k;generalize nG (L.take j) a wd=lj at *
        go_wp2_with fail
        exact⟨⟨j+1,by omega,by rw[A.o],by go_num,by trivial⟩,by simp[intOf];omega⟩
    · have O:j=n:=by omega
      subst O;have J:gi (nG (L.take j) a wd=res):=gg (by rw[Q.o,←C.o,List.take_length]);rw[J.o]
      go_wp2_with fail
      go_ret2
      exact⟨rfl,B1.o⟩
end
section
open Go.RowKit
set_option maxRecDepth 100000
theorem jc {P} w {g rest o a} {Q:Exit→Act→World→Prop} (m:o.guard=none) (s x) (t e)
 (f:o.op = .call { callee:=.builtin .append,args:=#[s,x],argTypes:=#[t,t] }) (i) (z) (size bytes) (ht:P.underlying t=some (.slice e)) (p:P.info? e=some i) (I:i.zero=some z)
 (L:i.size=size) (C:i.bytes=bytes) (D:z.cells.size=size) (E:0<size) (q:a.eval s =a_ none 0 0) (v) (n) (xs) (l:a.eval x=v) (J:gl w size n v xs) (H:n*bytes≤140737488355328)
 (h:∀ d w',w'.ownsRow w.heap.size e size d n xs→Up w w'→wpList P g Q rest (a.put o.dst d) w'):wpList P g Q (o :: rest) a w:=by
 obtain⟨hl,h1,h2⟩:=J;rcases h2 with⟨rfl,rfl⟩|⟨b,K,c,rfl,M,N,O,B⟩
 · have G:xs=[]:=fT (by simpa using hl)
   subst G;exact wpList_append_own_none m s x t f w.heap.size e i size ht p _ 0 [] q (World.ownsRow_nil _ _ _ _) l (h _ _ (World.ownsRow_nil _ _ _ _) fK)
 · refine wpList_append_own w m s x t f w.heap.size e i z size bytes ht p I L C D E _ 0 [] q (World.ownsRow_nil _ _ _ _) ⟨b,K,none⟩ n c xs l hl (fun j u r=>by rw[kx];exact B j u r) h1 f_ (by rw[Nat.zero_add];exact H) fL ?_
   intro d w' A F _;exact h d w' (by simpa using A) (fK.grown F fL (fun k y=>by simp[Value.ownBlock] at y))
theorem h_ {w:World} {B e k n b j T:Nat} {u v xs cs} (a:w.ownsRow B e k v n xs) (d:w.heap[b]? = some (d_ cs T (0,0))) (f:e≠T):(w.setCell ⟨b,j,none⟩ u).ownsRow B e k v n xs:=
 lH a fun g h=>iY (fun c=>gS a d f (by rw[←c];exact h))
def oX (p q:Nat) (x y z u1 u2 u3:Value) (w:World):Prop:=
 w.heap[p]? = some (d_ #[x,y,z] 33 (0,0))∧w.heap[p+1]? = some (d_ #[a_ none 0 0,a_ none 0 0,a_ none 0 0] 33 (0,0))∧w.heap[q]? = some (d_ #[u1,u2,u3] 33 (0,0))
theorem oX.up {p q x y z u1 u2 u3 w w'} (h:oX p q x y z u1 u2 u3 w) (a:Up w w'):oX p q x y z u1 u2 u3 w':=⟨gk a h.1,gk a h.2.1,gk a h.2.2⟩
theorem gE.set3 {w B p T m d c b rows} (h:gE w B p T m d c b rows) {r g k f} (x y z) (a:w.heap[r]? = some (d_ #[g,k,f] 33 (0,0))) (e:p≠r) :
 gE (((w.setCell ⟨r,0,none⟩ x).setCell ⟨r,1,none⟩ y).setCell ⟨r,2,none⟩ z) B p T m d c b rows where
 at_:=((jT a).2 p e).trans h.at_
 base:=h.base
 words:=sI x y z h.words a fZ
 pend:=sI x y z h.pend a fZ
 res:=sI x y z h.res a fZ
 len:=h.len
 each:=fun i v l j hl=>sI x y z (h.each i v l j hl) a fZ
 apart:=h.apart
 rowsApart:=h.rowsApart
theorem xP v m w (hm:gM w v m) (hs:jC m) :
 Calls gd 140 #[v] w fun e w'=>∃ q J B C rows,e =fH (e_ #[J,B,C])∧gE w' w.heap.size q 33 m J B C rows∧Up w w':=by
 obtain⟨a1,c1,a2,A,a3,c3,rows,rfl,h1,h2,h3,h4⟩:=hm.parts;have s1:=hs.words;have s2:=hs.pend;have s3:=hs.res;have H1:=gg h1;have H2:=gg h2;have H3:=gg h3;have H4:=gg h4;have HS:=gg hs.each;clear hm h1 h2 h3 h4 hs;obtain⟨a,am⟩:∃ n,m.words.length=n:=⟨_,rfl⟩;obtain⟨f,aj⟩:∃ n,m.pend.length=n:=⟨_,rfl⟩;obtain⟨d,af⟩:∃ n,m.res.length=n:=⟨_,rfl⟩;rw[am] at H1 s1;rw[aj] at H2 s2;rw[af] at H3 s3;rw[am,aj,af];have bF:=gg am;have ba:=gg aj;have bM:=gg af;clear am aj af;obtain⟨i0,hi,bB,bq,bf⟩:=info_parts Ej;obtain⟨j0,hj,aY,aR,aW⟩:=info_parts yT;obtain⟨l0,hl,bu,bj,bn⟩:=info_parts BN;go_enter Tryz.func140,Tryz.ntmps140;go_upto_region 2 with(fail)
 obtain⟨W0,al⟩:∃ W0,((w.alloc (d_ #[a_ a1 a c1,a_ a2 f A,a_ a3 d c3] 33)).alloc (d_ #[a_ none 0 0,a_ none 0 0,a_ none 0 0] 33)).alloc (d_ #[a_ none 0 0,a_ none 0 0,a_ none 0 0] 33)=W0:=⟨_,rfl⟩
 have U:oX w.heap.size (w.heap.size+1+1) (a_ a1 a c1) (a_ a2 f A) (a_ a3 d c3) (a_ none 0 0) (a_ none 0 0) (a_ none 0 0) W0:=by
  subst al;refine⟨gk (gr _ _) (gk (gr _ _) (gH w _)),gk (gr _ _) ?_,?_⟩
  · have:=gH (w.alloc (d_ #[a_ a1 a c1,a_ a2 f A,a_ a3 d c3] 33)) (d_ #[a_ none 0 0,a_ none 0 0,a_ none 0 0] 33)
    rwa [World.size_alloc] at this
  · have:=gH ((w.alloc (d_ #[a_ a1 a c1,a_ a2 f A,a_ a3 d c3] 33)).alloc (d_ #[a_ none 0 0,a_ none 0 0,a_ none 0 0] 33)) (d_ #[a_ none 0 0,a_ none 0 0,a_ none 0 0] 33)
    rwa [World.size_alloc,World.size_alloc] at this
 have aV:Up w W0:=by subst al;exact gj (gj (gr _ _) (gr _ _)) (gr _ _)
 rw[al];clear al;obtain⟨q,hq⟩:∃ q,w.heap.size+1+1=q:=⟨_,rfl⟩;have l:w.heap.size≤q∧w.heap.size≠q∧w.heap.size+1≠q:=by omega
 rw[hq] at U ⊢
 clear hq;have C0:=gg U;have B0:=gg aV;obtain⟨⟨aa,ad,ab⟩,_⟩:=iK U.1;obtain⟨⟨e30,F,G⟩,Q,O,T⟩:=iK U.2.2;have t1:=gn U.1;have D:=gn U.2.2;clear U aV;go_upto_region 3 with(at_builtin;refine jc _ rfl _ _ 24 3 rfl j0 (b_ c_ 0) 1 8 Tryz.underlying24 hj aY aR aW rfl fZ rfl _ a _ rfl (H1.o.below B0.o) f_ ?_;intro v1 W1 au az;have P:=gg (C0.o.up az);have V:=gg au;have R:=gg (gj B0.o az);obtain⟨K,t,rfl⟩:=gN au;clear aa ad ab e30 F G Q O T t1 D au az;obtain⟨⟨e30,F,G⟩,Q,O,T⟩:=iK P.o.2.2;have D:=gn P.o.2.2)
 have N:oX w.heap.size q (a_ a1 a c1) (a_ a2 f A) (a_ a3 d c3) (a_ K a t) (a_ none 0 0) (a_ none 0 0) (W1.setCell ⟨q,0,none⟩ (a_ K a t)):=
  ⟨(iY l.2.1).trans P.o.1,(iY l.2.2).trans P.o.2.1,jb P.o.2.2 0 _⟩
 have aE:=h_ (j:=0) (u:=a_ K a t) V.o P.o.2.2 fZ;have ar:=gO R.o l.1 (a_ K a t) (o:=0);have aK:W1.heap.size≤(W1.setCell ⟨q,0,none⟩ (a_ K a t)).heap.size:=by simp only[kj];exact fL
 obtain⟨W2,aU⟩:∃ W2,W1.setCell ⟨q,0,none⟩ (a_ K a t)=W2:=⟨_,rfl⟩;rw[aU] at N aE ar aK ⊢
 have C2:=gg N;have O2:=gg aE;have B2:=gg ar;have SZ:=gg aK;clear aU aE ar aK e30 F G Q O T D;obtain⟨⟨aa,ad,ab⟩,_⟩:=iK N.1;obtain⟨⟨e30,F,G⟩,Q,O,T⟩:=iK N.2.2;have t1:=gn N.1;have D:=gn N.2.2;clear N;go_upto_region 4 with(at_builtin;refine jc _ rfl _ _ 24 3 rfl j0 (b_ c_ 0) 1 8 Tryz.underlying24 hj aY aR aW rfl fZ rfl _ d _ rfl (H3.o.below B2.o) f_ ?_;intro v3 W3 aH ah;have H:=gg (C2.o.up ah);have O3:=gg aH;have aS:=gg (gy O2.o ah);have B3:=gg (gj B2.o ah);obtain⟨S,E,rfl⟩:=gN aH;clear aa ad ab e30 F G Q O T t1 D aH ah;obtain⟨⟨e30,F,G⟩,Q,O,T⟩:=iK H.o.2.2;have D:=gn H.o.2.2)
 have ag:oX w.heap.size q (a_ a1 a c1) (a_ a2 f A) (a_ a3 d c3) (a_ K a t) (a_ none 0 0) (a_ S d E) (W3.setCell ⟨q,2,none⟩ (a_ S d E)):=
  ⟨(iY l.2.1).trans H.o.1,(iY l.2.2).trans H.o.2.1,jb H.o.2.2 2 _⟩
 have aD:=jW (h_ (j:=2) (u:=a_ S d E) aS.o H.o.2.2 fZ) B0.o.size;have aw:=jW (h_ (j:=2) (u:=a_ S d E) O3.o H.o.2.2 fZ) B2.o.size;have ap:=gO B3.o l.1 (a_ S d E) (o:=2);obtain⟨W4,aP⟩:∃ W4,W3.setCell ⟨q,2,none⟩ (a_ S d E)=W4:=⟨_,rfl⟩;rw[aP] at ag aD aw ap ⊢
 have HO:=gg (D5 ag.2.2 l.1 aD aw (Bv V.o O3.o SZ.o));have C4:=gg ag;have HB:=gg ap;clear aP aD aw ap e30 F G Q O T D ag C0 P C2 H B0 R B2 B3 V O2 O3 aS SZ;generalize (a_ K a t:Value)=J at *
 generalize (a_ S d E:Value)=C at *
 go_wp2_with fail
 go_loopw [4] (fun i wr=>∃ (k:Nat) (B:Value) (rs:List Value),k≤f∧i =b_ c_ k∧gE wr w.heap.size q 33 ⟨m.words,m.pend.take k,m.res⟩ J B C rs∧Up w wr∧oX w.heap.size q (a_ a1 a c1) (a_ a2 f A) (a_ a3 d c3) J B C wr) (fun i _=>f - (intOf i).toNat)
 case atStart=>exact⟨0,_,_,fM,rfl,by simpa using HO.o,HB.o,C4.o⟩
 case round=>
  obtain⟨k,B,rs,hk,rfl,aM,aX,a7⟩:=hrel;have av:=gg aM;have aq:=gg aX;have s:=gg a7;clear aM aX a7;obtain⟨⟨aa,ad,ab⟩,_⟩:=iK s.o.1;have t1:=gn s.o.1;by_cases bm:k<f
  · obtain⟨b,o,c,e2,bd,hc2,bh,bc⟩:=H2.o.some f_
    injection e2 with e3 e4 e5
    subst e3 e5;have aL:k<m.pend.length:=by rw[ba.o];exact bm
    have bK:k<rows.length:=by rw[H4.o.1];exact aL
    have an:=(H4.o.2 k rows[k] m.pend[k] gb gb);obtain⟨ra,rc,aN⟩:=gN an;have ao:=bc k rows[k] gb;rw[aN] at ao an;have HR:=gg (gl.own an (tI _));have bg:=gg (hZ.up ⟨bd,ao⟩ aq.o);have bE:=HS.o m.pend[k] gb;unfold maxLen at bh;clear bc aN an e4 ao;have bp:gi (m.pend.take (k+1)=m.pend.take k ++ [m.pend[k]]):=gg (fP aL);have aQ:gi ((m.pend.take k).length=k):=gg (by simp;omega);generalize m.pend[k]=L at *
    go_wp2_with fail
    clear aa ad ab t1;have ik:(k:Int)<(f:Int):=by omega
    have bD:(0:Int)≤(k:Int):=by omega
    refine fY (fun w'=>oX w.heap.size q (a_ a1 a c1) (a_ (some ⟨b,o,none⟩) f A) (a_ a3 d c3) J B C w'∧hZ w' b (o+k) (a_ ra L.length rc)) 10 [true,true,true,true,true,true,true] (fun _ _ h hu=>⟨h.1.up hu,h.2.up hu⟩) ⟨s.o,bg.o⟩ ?a2 ?h2 ?ht2
    case h2=>
     intro w0 ⟨ac,aJ⟩;obtain⟨⟨bk,aT,bx⟩,_⟩:=iK ac.1;obtain⟨⟨be,a0,bt⟩,_⟩:=iK ac.2.2;have t:=fun x=>gD (gn ac.1) aT x
     have E:=fun x=>gD (gn ac.2.2) a0 x
     have y4:=fun x=>gD aJ.1 aJ.2 x
     clear bk aT bx be a0 bt ac aJ;simp only[jd];repeat(go_big_quiet_step (fail))
     refine wpQuiet_nil ?_
     rfl
    case ht2=>
     change kD _ _ _ _ _ _ 3 _ _ _;refine jQ (i:=7) ga fZ rfl ?_
     intro w1 bs ⟨hc1,a9⟩;have ay:Up wr w1:=(by repeat(first|(with_reducible exact Below.refl _ _)|(with_reducible refine gO ?_ ?_ _)|(with_reducible apply iS)|(with_reducible refine gj ?_ (by with_reducible assumption))|(with_reducible apply iR)|omega));have V:=gg (av.o.below ay);have R:gi (Up w w1):=gg (gj aq.o ay);clear ay bs;refine jc _ rfl _ _ 57 127 rfl l0 (e_ #[b_ c_ 0,b_ c_ 0]) 2 16 Tryz.underlying57 hl bu bj bn rfl fZ rfl _ L.length _ rfl (HR.o.below R.o) f_ ?_
     intro v2 w2 aI ak;obtain⟨xr,yr,rfl⟩:=gN aI;have bl:=gg aI;clear aI;have B2:=gg ak
     go_wp2_with fail
     refine⟨⟨hc1.up ak,a9.up ak⟩,?_⟩;clear ak hc1 a9;refine jQ (i:=8) ga fZ rfl ?_
     intro r ax ⟨a6,a5⟩;have B3:=gg (gj B2.o ax);have br:=gg (gy bl.o ax);clear ax
     go_wp2_with fail
     refine⟨⟨a6.up (gr r _),a5.up (gr r _)⟩,?_⟩;clear a6 a5;refine jQ (i:=9) ga fZ rfl ?_
     intro w4 aG ⟨p,ae⟩;have a4:w4.cell? ⟨r.heap.size,0,none⟩=some (a_ xr L.length yr):=gv (gk aG (gH r _)) rfl;have aB:Up r w4:=gj (gr r _) aG;have B4:=gg (gj B3.o aB);have bo:=gg (gy br.o aB);have O4:=gg (V.o.below B4.o)
     have bC:gi (∀ j u,[a_ xr L.length yr][j]? = some u→w4.cell? ((⟨r.heap.size,0,none⟩:Addr).add j)=some u):=gg (fun j u hj=>by
      have:j=0:=by
       have:=(fR hj).1;simp at this;exact this
      subst this;simp at hj;subst hj;rw[kx];exact a4)
     have bw:w.heap.size≤w4.heap.size:=(gj R.o B4.o).size;clear aG aB a4;have M:gi (w4.ownsRow w.heap.size 57 1 B k rs):=gg (by have:=O4.o.pend;simp only at this;rwa [aQ.o] at this);obtain⟨W,Z,rfl⟩:=gN M.o;have bv:(k+1)*24≤140737488355328:=by omega
     have bi:k+1≤maxLen:=by unfold maxLen;omega
     refine wpList_append_own _ rfl _ _ 31 rfl w.heap.size 57 i0 (a_ none 0 0) 1 24 Tryz.underlying31 hi bB bq bf rfl fZ _ _ _ rfl M.o ⟨r.heap.size,0,none⟩ 1 1 [a_ xr L.length yr] rfl rfl bC.o (by simp[Value.oneCell']) bi bv bw ?_
     intro v' w5 aA bb _;obtain⟨X,Y,rfl⟩:=gN aA;have bA:=gg aA;have I:=gg bb;clear aA bb
     have a8:oX w.heap.size q (a_ a1 a c1) (a_ (some ⟨b,o,none⟩) f A) (a_ a3 d c3) J (a_ W k Z) C w5:=
      ⟨(I.o.block _ (gn p.1) (fun e=>gS M.o p.1 fZ e.symm)).trans p.1,(I.o.block _ (gn p.2.1) (fun e=>gS M.o p.2.1 fZ e.symm)).trans p.2.1,(I.o.block _ (gn p.2.2) (fun e=>gS M.o p.2.2 fZ e.symm)).trans p.2.2⟩
     have aO:hZ w5 b (o+k) (a_ ra L.length rc):=by
      have e:=I.o.block b ae.1 (fun e=>by have:=(M.o.lt b e.symm).1;omega);refine⟨fN ae.1 I.o.size,?_⟩;have h2:=ae.2;unfold World.cell? at h2 ⊢
      simp only[e];exact h2
     go_wp2_with fail
     refine⟨⟨a8,aO⟩,?_⟩;clear a8 aO p ae;refine lR ga ?_
     intro w6 aZ ⟨ai,_⟩;obtain⟨⟨k0,k1,k2⟩,f0,f1,f2⟩:=iK ai.2.2;have t6:=gn ai.2.2;have aF:=gg aZ;have aC:=gg ai;clear aZ ai;have P6:=gg (V.o.push fZ fZ fZ B4.o bo.o (pv':=a_ X (k+1) Y) (w2:=w6) (by have:=gy bA.o aF.o;simpa[aQ.o] using this) (BA I.o I.o.size aF.o) R.o.size);simp only[List.drop_succ_cons,List.drop_zero]
     go_wp2
     go_roundw
     case rel=>exact⟨k+1,_,_,by omega,by go_num,by rw[bp.o];exact P6.o,(gO (gj (yY (gj R.o B4.o) I.o (by intro g e;exact(M.o.lt g e).1)) aF.o) l.1 _),(iY l.2.1).trans aC.o.1,(iY l.2.2).trans aC.o.2.1,jb aC.o.2.2 1 _⟩
     case measure=>simp[intOf];omega
  · have bz:k=f:=by omega
    subst bz
    have O7:gi (gE wr w.heap.size q 33 m J B C rs):=gg (by
     have:=av.o;rw[←ba.o,List.take_length] at this;exact this)
    clear av HS;obtain⟨xw,yw,rfl⟩:=gN O7.o.words;obtain⟨W,Z,rfl⟩:=gN O7.o.pend;obtain⟨X,Y,rfl⟩:=gN O7.o.res;obtain⟨⟨e30,F,G⟩,_⟩:=iK s.o.2.2;obtain⟨⟨bG,bL,bI⟩,bH,bN,bJ⟩:=iK s.o.2.1;have t2:=gn s.o.2.1;have D:=gn s.o.2.2
    go_wp2_with fail
    have s3:=jT (x:=a_ xw m.words.length yw) (y:=a_ W m.pend.length Z) (z:=a_ X m.res.length Y) s.o.2.1;obtain⟨k0,k1,k2⟩:=iv s3.1;have OE:=gg (O7.o.set3 (a_ xw m.words.length yw) (a_ W m.pend.length Z) (a_ X m.res.length Y) s.o.2.1 (Ne.symm l.2.2));have BE:=gg (kt (x:=a_ xw m.words.length yw) (y:=a_ W m.pend.length Z) (z:=a_ X m.res.length Y) aq.o (by omega:w.heap.size≤w.heap.size+1));exact bodyPost_ret (v:=e_ #[a_ xw m.words.length yw,a_ W m.pend.length Z,a_ X m.res.length Y]) (by simp[results,Tryz.results140,go_sem,k0,k1,k2]) rfl ⟨_,_,_,_,_,rfl,OE.o,BE.o⟩
end
section
open Go.RowKit
set_option maxRecDepth 100000
theorem gE.low {w B d p T m e b c rows} (h:gE w B p T m e b c rows) (a:d≤B):gE w d p T m e b c rows where
 at_:=h.at_
 base:=fO a h.base
 words:=jW h.words a
 pend:=jW h.pend a
 res:=jW h.res a
 len:=h.len
 each:=fun i v l f hl=>jW (h.each i v l f hl) a
 apart:=h.apart
 rowsApart:=h.rowsApart
def rG (w:World) (m:kS) (e:Ending) (w':World):Prop:=∃ q a1 b a2 c a3 a rows,e =fH (e_ #[a_ a1 m.words.length b,a_ a2 m.pend.length c,a_ a3 m.res.length a])∧gE w' w.heap.size q 33 m (a_ a1 m.words.length b) (a_ a2 m.pend.length c) (a_ a3 m.res.length a) rows∧Up w w'
theorem lO v m w (f:gM w v m) (g:jC m):Calls gd 140 #[v] w (rG w m):=
 (xP v m w f g).mono fun e w' h=>by
  obtain⟨q,l,k,j,rows,rfl,a,d⟩:=h;obtain⟨a1,c,rfl⟩:=gN a.words;obtain⟨a2,i,rfl⟩:=gN a.pend;obtain⟨a3,b,rfl⟩:=gN a.res;exact⟨q,a1,c,a2,i,a3,b,rows,rfl,a,d⟩
abbrev mh:Obj:=d_ #[a_ none 0 0,a_ none 0 0,a_ none 0 0] 33 (0,0)
theorem jF {w:World} {B e k n g j b T:Nat} {u v xs cs} (c:w.ownsRow B e k v n xs) (d:v.ownBlock=some g) (a:w.heap[b]? = some (d_ cs T (0,0))) (f:e≠T):(w.setCell ⟨g,j,none⟩ u).heap[b]? = some (d_ cs T (0,0)):=
 (iY (fun h=>gS c a f (by rw[d,h]))).trans a
theorem lQ v m (h a n:Int) w (hm:gM w v m) (L:jC m) (ha:0≤a∧a<m.words.length) :
 Calls gd 94 #[v,b_ c_ h,b_ c_ a,b_ c_ n] w (rG w (km m h a n)):=by
 have Y:=gg hm;have HS:=gg L;have sw:=L.words;have sr:=L.res;have sp:=L.pend;obtain⟨a1,c1,a2,R,a3,c3,ax,rfl,_,_,_,_⟩:=hm.parts;clear hm L;obtain⟨b,af,aj⟩:∃ k:Nat,a=k∧k<m.words.length:=⟨a.toNat,by omega,by omega⟩;subst af;have HX:gi (∃ x,m.words[b]? = some x):=gg ⟨_,fQ aj⟩;clear ha;unfold rG;have M:gi ((km m h b n).words.length=m.words.length∧(km m h b n).pend.length=m.pend.length∧(km m h b n).res.length=m.res.length):=gg ⟨by simp[km],rfl,by simp[km,yN]⟩;rw[M.o.1,M.o.2.1,M.o.2.2];obtain⟨f,Q⟩:∃ n,m.words.length=n:=⟨_,rfl⟩;obtain⟨j,T⟩:∃ n,m.pend.length=n:=⟨_,rfl⟩;obtain⟨d,N⟩:∃ n,m.res.length=n:=⟨_,rfl⟩;have P:=gg Q;have al:=gg T;have J:=gg N;rw[Q,T,N] at Y ⊢
 rw[Q] at sw;rw[N] at sr;rw[T] at sp;clear Q T N M;go_enter Tryz.func94,Tryz.ntmps94
 go_wp2_with fail
 have V:=gg (gj (gr w (d_ #[a_ a1 f c1,a_ a2 j R,a_ a3 d c3] 33)) (gr (w.alloc (d_ #[a_ a1 f c1,a_ a2 j R,a_ a3 d c3] 33)) (d_ #[a_ none 0 0,a_ none 0 0,a_ none 0 0] 33)))
 have R0:gi (((w.alloc (d_ #[a_ a1 f c1,a_ a2 j R,a_ a3 d c3] 33)).alloc (d_ #[a_ none 0 0,a_ none 0 0,a_ none 0 0] 33)).heap[w.heap.size+1]? = some mh):=gg (by
  have:=gH (w.alloc (d_ #[a_ a1 f c1,a_ a2 j R,a_ a3 d c3] 33)) (d_ #[a_ none 0 0,a_ none 0 0,a_ none 0 0] 33)
  rwa [World.size_alloc] at this)
 refine(lO _ m _ (Y.o.below V.o) HS.o).mono ?_
 rintro e w1 ⟨q0,U,o,p,s,t,l,rows,rfl,I,C⟩;rw[P.o,al.o,J.o] at I ⊢
 have R1:=gg (gk C R0.o);have B1:=gg (gj V.o C);have O1:=gg (I.low V.o.size);clear I C R0 V Y HS;go_upto_region 2 with fail
 have D:=O1.o.move (gH w1 (d_ #[a_ U f o,a_ p j s,a_ t d l] 33)) B1.o.size (gr w1 _);have hR:=gk (gr w1 (d_ #[a_ U f o,a_ p j s,a_ t d l] 33)) R1.o;have hB:=gj B1.o (gr w1 (d_ #[a_ U f o,a_ p j s,a_ t d l] 33));obtain⟨Z,K⟩:∃ W,w1.alloc (d_ #[a_ U f o,a_ p j s,a_ t d l] 33)=W:=⟨_,rfl⟩;rw[K] at D hR hB ⊢
 have ah:w.heap.size+1<w1.heap.size:=gn R1.o;obtain⟨q,hq⟩:∃ q,w1.heap.size=q:=⟨_,rfl⟩;rw[hq] at D ah ⊢
 clear K hq O1 R1 B1;have H:=D.words;rw[P.o] at H;obtain⟨x,hx⟩:=HX.o;obtain⟨g,c,e1,hc1,hc2⟩:=pB H (by have:=P.o;omega);injection e1 with e1 e2 X
 subst e1 X;clear e2;have hg:w.heap.size≤g:=(H.lt g rfl).1;unfold maxLen at hc2;have af:b<f:=by have:=P.o;have:=(fR hx).1;omega
 obtain⟨q1,q2⟩:=tD (k:=b) (u:=b_ c_ x) H (by unfold gz;rw[List.getElem?_map,hx];rfl);obtain⟨⟨p0,p1,p2⟩,_⟩:=iK D.at_;have tq:=gn D.at_;have H1:=gg (D.setWord fZ rfl b n);have R3:gi ((Z.setCell ⟨g,b,none⟩ (b_ c_ n)).heap[w.heap.size+1]? = some mh):=gg (jF H rfl hR fZ);have B3:gi (Up w (Z.setCell ⟨g,b,none⟩ (b_ c_ n))):=gg (gO hB hg _);clear D hR hB H hx HX;go_upto_region 3 with fail
 obtain⟨W3,K⟩:∃ W,Z.setCell ⟨g,b,none⟩ (b_ c_ n)=W:=⟨_,rfl⟩;rw[K] at H1 R3 B3 ⊢
 clear K q1 q2 p0 p1 p2 tq
 go_wp2_with fail
 go_loopw [10] (fun i wr=>∃ k:Nat,k≤d∧i =b_ c_ k∧gE wr w.heap.size q 33 ⟨m.words.set b n,m.pend,kJ h b k m.res⟩ (a_ (some ⟨g,0,none⟩) f o) (a_ p j s) (a_ t d l) rows∧Up w wr∧wr.heap[w.heap.size+1]? = some mh) (fun i _=>d - (intOf i).toNat)
 case atStart=>exact⟨0,fM,rfl,H1.o,B3.o,R3.o⟩
 case round=>
  obtain⟨k,A,rfl,I,C,G⟩:=hrel;have F:=gg I;have O:=gg C;have E:=gg G;clear I C G;obtain⟨⟨t0,t1,t2⟩,_⟩:=iK F.o.at_;have tq:=gn F.o.at_;by_cases am:k<d
  · have ac:k<m.res.length:=by rw[J.o];exact am
    have aa:=tp h b k m.res ac;have ak:gi ((kJ h b k m.res).length=d):=gg (by rw[qF];exact J.o);have S:gi (wr.ownsRow w.heap.size 3 1 (a_ t d l) d (gz (kJ h b k m.res))):=gg (by have:=F.o.res;simp only at this;rwa [ak.o] at this);obtain⟨B,c3,X,aq,ag⟩:=pB S.o f_;injection X with e4 e6 e5
    subst e4 e5;clear e6;have an:w.heap.size≤B:=(S.o.lt B rfl).1;unfold maxLen at ag;obtain⟨u1,u2⟩:=tD S.o (k:=k) (u:=b_ c_ m.res[k]) (by simp[gz,aa]);have ab:=gg (Ja h b k m.res ac);have ad:=gg (qN (kJ h b k m.res) k m.res[k] aa);have ae:=fun x=>F.o.setResv fZ (g:=B) (n:=d) (c:=l) rfl k x
    have ai:=gg ae;clear ae aa;have ao:gi ((wr.setCell ⟨B,k,none⟩ (b_ c_ (-1))).heap[w.heap.size+1]? = some mh):=gg (jF S.o rfl E.o fZ);generalize m.res[k]=r at *
    by_cases A:(k:Int)=h
    · have e:gi (gE wr w.heap.size q 33 ⟨m.words.set b n,m.pend,kJ h b (k+1) m.res⟩ (a_ (some ⟨g,0,none⟩) f o) (a_ p j s) (a_ (some ⟨B,0,none⟩) d l) rows):=gg (by
       rw[ab.o,if_neg (by simp[A]),ad.o];exact F.o)
      have C:((k:Int) != h)=false:=by simp[A]
      have HK:=gg A;clear A
      go_wp2
      go_roundw
      case rel=>exact⟨k+1,by omega,by go_num,e.o,O.o,E.o⟩
      case measure=>simp[intOf];omega
    · have C:((k:Int) != h)=true:=by simp[A]
      cases G:(r == (b:Int))
      · have e:gi (gE wr w.heap.size q 33 ⟨m.words.set b n,m.pend,kJ h b (k+1) m.res⟩ (a_ (some ⟨g,0,none⟩) f o) (a_ p j s) (a_ (some ⟨B,0,none⟩) d l) rows):=gg (by
         rw[ab.o,if_neg (by simp at G;simp[G]),ad.o];exact F.o)
        have HK:=gg A;clear A
        go_wp2
        go_roundw
        case rel=>exact⟨k+1,by omega,by go_num,e.o,O.o,E.o⟩
        case measure=>simp[intOf];omega
      · have e:gi (gE (wr.setCell ⟨B,k,none⟩ (b_ c_ (-1))) w.heap.size q 33 ⟨m.words.set b n,m.pend,kJ h b (k+1) m.res⟩ (a_ (some ⟨g,0,none⟩) f o) (a_ p j s) (a_ (some ⟨B,0,none⟩) d l) rows):=gg (by
         rw[ab.o,if_pos (by simp at G;simp[G,A])];exact ai.o (-1))
        have HK:=gg A;clear A
        go_wp2
        go_roundw
        case rel=>exact⟨k+1,by omega,by go_num,e.o,gO O.o an _,ao.o⟩
        case measure=>simp[intOf];omega
  · have ap:k=d:=by omega
    subst ap
    have e:gi (gE wr w.heap.size q 33 (km m h b n) (a_ (some ⟨g,0,none⟩) f o) (a_ p j s) (a_ t k l) rows):=gg (by
     have:=F.o;rw[←J.o,qE] at this;exact(by rw[←J.o];exact this))
    obtain⟨⟨au,aw,az⟩,ay,aA,ar⟩:=iK E.o;have av:=gn E.o
    go_wp2_with fail
    have s3:=jT (x:=a_ (some ⟨g,0,none⟩) f o) (y:=a_ p j s) (z:=a_ t k l) E.o;obtain⟨k0,k1,k2⟩:=iv s3.1;have OE:=gg (e.o.set3 (a_ (some ⟨g,0,none⟩) f o) (a_ p j s) (a_ t k l) E.o f_);have BE:=gg (kt (x:=a_ (some ⟨g,0,none⟩) f o) (y:=a_ p j s) (z:=a_ t k l) O.o (by omega:w.heap.size≤w.heap.size+1));exact bodyPost_ret (v:=e_ #[a_ (some ⟨g,0,none⟩) f o,a_ p j s,a_ t k l]) (by simp[results,Tryz.results94,go_sem,k0,k1,k2]) rfl ⟨_,_,_,_,_,_,_,_,rfl,OE.o,BE.o⟩
end
section
open Go.RowKit
set_option maxRecDepth 100000
theorem AA h n (w) (a:¬ (1≤h∧h≤4∧0≤n∧n≤4096)) :
 Calls gd 38 #[b_ c_ h,b_ c_ n] w (oj w w.heap.size (lY,1)):=by
 unfold oj;have e:(h<1)∨(1≤h∧4<h)∨(1≤h∧h≤4∧n<0)∨(1≤h∧h≤4∧0≤n∧4096<n):=by omega
 clear a;rcases e with e|e|e|e
 all_goals
  go_enter Tryz.func38,Tryz.ntmps38
  go_wp2_with fail
  exact bodyPost_ret (v:=fI #[e_ #[a_ none 0 0,a_ none 0 0,a_ none 0 0],b_ c_ 1]) (by simp[results,Tryz.results38,go_sem]) rfl ⟨_,rfl,lX _,gr _ _⟩
theorem pj {e:Nat} (w:World) (u):∀ j v,[u][j]? = some v→(w.alloc (d_ #[u] e)).cell? ((⟨w.heap.size,0,none⟩:Addr).add j)=some v:=fun j v a=>by
 have:j=0:=by
  have:=(fR a).1;simp at this;exact this
 subst this;simp at a;subst a;rw[kx];exact gv (gH w _) rfl
theorem oK k (x):gz (List.replicate k x) ++ [b_ c_ x]=gz (List.replicate (k+1) x):=by
 simp[gz,List.replicate_succ',List.map_replicate]
set_option maxRecDepth 100000 in
theorem xO (F K:Nat) w (hh:1≤F∧F≤4) (hn:K≤4096) :
 Calls gd 38 #[b_ c_ F,b_ c_ K] w (oj w w.heap.size (mX F K,0)):=by
 unfold oj;obtain⟨i0,hi,aP,aG,aE⟩:=info_parts Ej;obtain⟨j0,hj,ay,aq,aw⟩:=info_parts yT;go_enter Tryz.func38,Tryz.ntmps38;go_upto_region 4 with fail
 have al:=gk (gr (w.alloc (d_ #[a_ none 0 0,a_ none 0 0,a_ none 0 0] 33)) (d_ #[a_ none 0 0,a_ none 0 0,a_ none 0 0] 33)) (gH w (d_ #[a_ none 0 0,a_ none 0 0,a_ none 0 0] 33));have aa:=gH (w.alloc (d_ #[a_ none 0 0,a_ none 0 0,a_ none 0 0] 33)) (d_ #[a_ none 0 0,a_ none 0 0,a_ none 0 0] 33);rw[World.size_alloc] at aa;have ai:=gj (gr w (d_ #[a_ none 0 0,a_ none 0 0,a_ none 0 0] 33)) (gr (w.alloc (d_ #[a_ none 0 0,a_ none 0 0,a_ none 0 0] 33)) (d_ #[a_ none 0 0,a_ none 0 0,a_ none 0 0] 33));obtain⟨W0,hW⟩:∃ W,(w.alloc (d_ #[a_ none 0 0,a_ none 0 0,a_ none 0 0] 33)).alloc (d_ #[a_ none 0 0,a_ none 0 0,a_ none 0 0] 33)=W:=⟨_,rfl⟩;rw[hW] at al aa ai ⊢
 obtain⟨q,G⟩:∃ q,w.heap.size+1=q:=⟨_,rfl⟩;have Z:w.heap.size<q:=by omega
 rw[G] at aa ⊢
 have aL:=gg al;have aK:=gg aa;have B0:=gg ai;clear hW G al aa ai
 go_wp2_with fail
 go_loopw [7] (fun i wr=>∃ (k:Nat) (pv rv:Value),k≤F∧i =b_ c_ k∧wr.heap[q]? = some (d_ #[a_ none 0 0,pv,rv] 33 (0,0))∧wr.ownsRow w.heap.size 57 1 pv k (List.replicate k (a_ none 0 0))∧wr.ownsRow w.heap.size 3 1 rv k (gz (List.replicate k (-1)))∧wr.heap[w.heap.size]? = some (d_ #[a_ none 0 0,a_ none 0 0,a_ none 0 0] 33 (0,0))∧Up w wr) (fun i _=>F - (intOf i).toNat)
 case atStart=>exact⟨0,_,_,fM,rfl,aK.o,World.ownsRow_nil _ _ _ _,World.ownsRow_nil _ _ _ _,aL.o,B0.o⟩
 case round=>
  obtain⟨k,pv,rv,a1,rfl,G,hp,hr,hz,f⟩:=hrel;have E:=gg G;have Q:=gg hp;have O3:=gg hr;have HZ:=gg hz;have HB:=gg f;obtain⟨R,U,rfl⟩:=gN hp;obtain⟨J,L,rfl⟩:=gN hr;clear G hp hr hz f;by_cases aZ:k<F
  · as_aux_lemma=>
    have ae:k+1≤maxLen:=by unfold maxLen;omega
    have an:(k+1)*24≤140737488355328:=by omega
    have aN:(k+1)*8≤140737488355328:=by omega
    have aT:=HB.o.size;have Y:w.heap.size≤(wr.alloc (d_ #[a_ none 0 0] 57)).heap.size:=by simp;omega
    obtain⟨⟨t,n,r⟩,f0,f1,f2⟩:=iK E.o;have C:=gn E.o;have m:=gg (gy Q.o (gr wr (d_ #[a_ none 0 0] 57)));have s:=gg (gy O3.o (gr wr (d_ #[a_ none 0 0] 57)));have c:=gg (gk (gr wr (d_ #[a_ none 0 0] 57)) E.o);have H:=gg (gk (gr wr (d_ #[a_ none 0 0] 57)) HZ.o);have X:=gg (gj HB.o (gr wr (d_ #[a_ none 0 0] 57)));clear E Q O3 HZ HB;go_upto_region 8 with(at_builtin;refine wpList_append_own _ rfl _ _ 31 rfl w.heap.size 57 i0 (a_ none 0 0) 1 24 Tryz.underlying31 hi aP aG aE rfl fZ _ _ _ rfl m.o ⟨wr.heap.size,0,none⟩ 1 1 [a_ none 0 0] rfl rfl (pj wr _) (by simp[Value.oneCell']) ae an Y ?_;intro v' w7 d a _;obtain⟨M,N,rfl⟩:=gN d;have ap:=gg d;have T:=gg ((a.block q (gn c.o) (fun e=>gS m.o c.o fZ e.symm)).trans c.o);have aB:=gg ((a.block w.heap.size (gn H.o) (fun e=>gS m.o H.o fZ e.symm)).trans H.o);have ax:=gg (lH s.o (fun g e=>a.block g (s.o.lt g e).2 (Ne.symm (ku s.o m.o fZ e))));have aC:=gg (yY X.o a (fun g e=>(m.o.lt g e).1));clear d a t n r f0 f1 f2 C;obtain⟨⟨t,n,r⟩,f0,f1,f2⟩:=iK T.o;have C:=gn T.o)
    have O:=jb T.o 1 (a_ M (k+1) N);have p:=h_ (j:=1) (u:=a_ M (k+1) N) ap.o T.o fZ;have ac:=h_ (j:=1) (u:=a_ M (k+1) N) ax.o T.o fZ;have ab:(w7.setCell ⟨q,1,none⟩ (a_ M (k+1) N)).heap[w.heap.size]? = _:=(iY (Nat.ne_of_lt Z)).trans aB.o;have I:=gO aC.o (Nat.le_of_lt Z) (a_ M (k+1) N) (o:=1);obtain⟨D,hW⟩:∃ W,w7.setCell ⟨q,1,none⟩ (a_ M (k+1) N)=W:=⟨_,rfl⟩;rw[hW] at O p ac ab I ⊢
    rw[←List.replicate_succ'] at p;have ad:=gg (show D.heap[q]? = some (d_ #[a_ none 0 0,a_ M (k+1) N,a_ J k L] 33 (0,0)) from O);have az:=gg p;have aA:=gg ac;have ar:=gg ab;have ag:=gg I;clear hW O p ac ab I t n r f0 f1 f2 C m s c H X ap T aB ax aC Y;have a3:=ag.o.size;have Y:w.heap.size≤(D.alloc (d_ #[b_ c_ (-1)] 3)).heap.size:=by simp;omega
    obtain⟨⟨t,n,r⟩,f0,f1,f2⟩:=iK ad.o;have C:=gn ad.o;have m:=gg (gy az.o (gr D (d_ #[b_ c_ (-1)] 3)));have s:=gg (gy aA.o (gr D (d_ #[b_ c_ (-1)] 3)));have c:=gg (gk (gr D (d_ #[b_ c_ (-1)] 3)) ad.o);have H:=gg (gk (gr D (d_ #[b_ c_ (-1)] 3)) ar.o);have X:=gg (gj ag.o (gr D (d_ #[b_ c_ (-1)] 3)));clear ad az aA ar ag
    go_wp2_with (at_builtin;refine wpList_append_own _ rfl _ _ 24 rfl w.heap.size 3 j0 (b_ c_ 0) 1 8 Tryz.underlying24 hj ay aq aw rfl fZ _ _ _ rfl s.o ⟨D.heap.size,0,none⟩ 1 1 [b_ c_ (-1)] rfl rfl (pj D _) (by simp[Value.oneCell']) ae aN Y ?_;intro v' w9 d a _;obtain⟨h,l,rfl⟩:=gN d;have ah:=gg d;have A:=gg ((a.block q (gn c.o) (fun e=>gS s.o c.o fZ e.symm)).trans c.o);have aJ:=gg ((a.block w.heap.size (gn H.o) (fun e=>gS s.o H.o fZ e.symm)).trans H.o);have aD:=gg (lH m.o (fun g e=>a.block g (m.o.lt g e).2 (Ne.symm (ku m.o s.o fZ e))));have am:=gg (yY X.o a (fun g e=>(s.o.lt g e).1));clear d a t n r f0 f1 f2 C;obtain⟨⟨t,n,r⟩,f0,f1,f2⟩:=iK A.o;have C:=gn A.o)
    have O:=jb A.o 2 (a_ h (k+1) l);have p:=h_ (j:=2) (u:=a_ h (k+1) l) ah.o A.o fZ;have ac:=h_ (j:=2) (u:=a_ h (k+1) l) aD.o A.o fZ;have ab:(w9.setCell ⟨q,2,none⟩ (a_ h (k+1) l)).heap[w.heap.size]? = _:=(iY (Nat.ne_of_lt Z)).trans aJ.o;have I:=gO am.o (Nat.le_of_lt Z) (a_ h (k+1) l) (o:=2);rw[oK] at p;exact⟨⟨k+1,_,_,by omega,by go_num,O,ac,p,ab,I⟩,by simp[intOf];omega⟩
  · have aM:k=F:=by omega
    subst aM;obtain⟨V,hV⟩:∃ u,u=wr:=⟨_,rfl⟩;subst hV
    go_wp2_with fail
    go_loopw [8] (fun i wt=>∃ (j:Nat) (wv:Value),j≤K∧i =b_ c_ j∧wt.heap[q]? = some (d_ #[wv,a_ R k U,a_ J k L] 33 (0,0))∧wt.ownsRow V.heap.size 3 1 wv j (gz (List.replicate j 0))∧BR q V wt∧Up w wt) (fun i _=>K - (intOf i).toNat)
    case atStart=>exact⟨0,_,fM,rfl,E.o,World.ownsRow_nil _ _ _ _,yu _ _,HB.o⟩
    case round=>
     obtain⟨j,wv,aV,rfl,G,aj,hu,f⟩:=hrel;have S:=gg G;have OW:=gg aj;have P:=gg hu;have ak:=gg f;obtain⟨x1,y1,rfl⟩:=gN aj;clear G aj hu f;by_cases aQ:j<K
     · as_aux_lemma=>
       have ae:j+1≤maxLen:=by unfold maxLen;omega
       have an:(j+1)*8≤140737488355328:=by omega
       have aI:=HB.o.size;have aR:=P.o.1;have a0:=gn E.o;have Y:V.heap.size≤(wr.alloc (d_ #[b_ c_ 0] 3)).heap.size:=by simp;omega
       obtain⟨⟨t,n,r⟩,f0,f1,f2⟩:=iK S.o;have C:=gn S.o;have A1:=gg (gy OW.o (gr wr (d_ #[b_ c_ 0] 3)));have c:=gg (gk (gr wr (d_ #[b_ c_ 0] 3)) S.o);have AU:=gg (P.o.up (gr wr (d_ #[b_ c_ 0] 3)));have X:=gg (gj ak.o (gr wr (d_ #[b_ c_ 0] 3)));clear S OW P ak
       go_wp2_with (at_builtin;refine wpList_append_own _ rfl _ _ 24 rfl V.heap.size 3 j0 (b_ c_ 0) 1 8 Tryz.underlying24 hj ay aq aw rfl fZ _ _ _ rfl A1.o ⟨wr.heap.size,0,none⟩ 1 1 [b_ c_ 0] rfl rfl (pj wr _) (by simp[Value.oneCell']) ae an Y ?_;intro v' w9 d a _;obtain⟨h,l,rfl⟩:=gN d;have ah:=gg d;have A:=gg ((a.block q (gn c.o) (fun e=>gS A1.o c.o fZ e.symm)).trans c.o);have av:gi (BR q V w9):=gg ⟨fO AU.o.1 a.size,fun b f hn=>(a.block b (fN f AU.o.1) (fun e=>Nat.lt_irrefl _ (fN f (A1.o.lt b e.symm).1))).trans (AU.o.2 b f hn)⟩;have am:=gg (yY X.o a (fun g e=>fO aI (A1.o.lt g e).1));clear d a t n r f0 f1 f2 C;obtain⟨⟨t,n,r⟩,f0,f1,f2⟩:=iK A.o;have C:=gn A.o)
       have O:=jb A.o 0 (a_ h (j+1) l);have p:=h_ (j:=0) (u:=a_ h (j+1) l) ah.o A.o fZ;have aF:BR q V (w9.setCell ⟨q,0,none⟩ (a_ h (j+1) l)):=⟨by simp only[kj];exact av.o.1,fun b f hn=>(iY hn).trans (av.o.2 b f hn)⟩;have I:=gO am.o (Nat.le_of_lt Z) (a_ h (j+1) l) (o:=0);rw[oK] at p;exact⟨⟨j+1,_,by omega,by go_num,O,p,aF,I⟩,by simp[intOf];omega⟩
     · have aH:j=K:=by omega
       subst aH;have au:=gg (lH Q.o (fun g e=>P.o.2 g (Q.o.lt g e).2 (fun e'=>gS Q.o E.o fZ (by rw[←e'];exact e))));have ao:=gg (lH O3.o (fun g e=>P.o.2 g (O3.o.lt g e).2 (fun e'=>gS O3.o E.o fZ (by rw[←e'];exact e))));have af:=gg ((P.o.2 w.heap.size (gn HZ.o) (Nat.ne_of_lt Z)).trans HZ.o)
       have HM:gi (gM wr (e_ #[a_ x1 j y1,a_ R k U,a_ J k L]) (mX k j)):=gg ⟨_,_,_,List.replicate k (a_ none 0 0),rfl,by
        have:=jW OW.o fM
        simpa[mX] using this,by
        have:=jW au.o fM
        simpa[mX] using this,by
        have:=jW ao.o fM
        simpa[mX] using this,⟨by simp[mX],qI (B:=0) (Below.refl 0 wr)⟩⟩
       clear Q O3 HZ OW P au ao E;obtain⟨⟨t,n,r⟩,_⟩:=iK S.o;have C:=gn S.o;obtain⟨⟨aU,aX,a2⟩,aY,a4,aS⟩:=iK af.o;have aW:=gn af.o
       go_wp2_with fail
       obtain⟨s0,s1,s2⟩:=iv (jT (x:=a_ x1 j y1) (y:=a_ R k U) (z:=a_ J k L) af.o).1;have aO:=gg (pJ (a_ x1 j y1) (a_ R k U) (a_ J k L) HM.o af.o);have BW:=gg (kt (x:=a_ x1 j y1) (y:=a_ R k U) (z:=a_ J k L) ak.o fL);exact bodyPost_ret (v:=fI #[e_ #[a_ x1 j y1,a_ R k U,a_ J k L],b_ c_ 0]) (by simp[results,Tryz.results38,go_sem,s0,s1,s2]) rfl ⟨_,rfl,aO.o,BW.o⟩
theorem xN h n (w):Calls gd 38 #[b_ c_ h,b_ c_ n] w (oj w w.heap.size (oo h n)):=by
 unfold oo;by_cases a:1≤h∧h≤4∧0≤n∧n≤4096
 · rw[if_pos a]
   obtain⟨b,rfl⟩:∃ k:Nat,h=k:=⟨h.toNat,by omega⟩;obtain⟨c,rfl⟩:∃ k:Nat,n=k:=⟨n.toNat,by omega⟩;simp only[Int.toNat_natCast];exact xO _ _ w f_ f_
 · rw[if_neg a];exact AA h n w a
end
section
open Go.RowKit
set_option maxRecDepth 100000
theorem sx v m h a n w (hm:gM w v m) (hs:jC m) (hn:iy n) :
 Calls gd 134 #[v,b_ c_ h,b_ c_ a,b_ c_ n] w (oj w w.heap.size (A2 m h a n)):=by
 have HM:=gg hm;have HS:=gg hs;have HI:=gg hn;clear hn;obtain⟨a1,c1,a2,B,a3,c3,rows,rfl,_,_,_,_⟩:=hm.parts;unfold oj A2;cases hh:jm m h a
 · rw[if_neg fZ]
   have HH:=gg hh;clear hh hm;generalize S:m.words.length=n1 at *
   generalize M:m.pend.length=n2 at *
   generalize K:m.res.length=n3 at *
   clear S M K;go_enter Tryz.func134,Tryz.ntmps134
   go_wp2_with fail
   refine(g9 _ m h a false _ (HM.o.below (by repeat(first|(with_reducible exact Below.refl _ _)|(with_reducible refine gO ?_ ?_ _)|(with_reducible apply iS)|(with_reducible refine gj ?_ (by with_reducible assumption))|(with_reducible apply iR)|omega))) HH.o).mono ?_
   rintro e w1 ⟨rfl,c⟩;have G:w1.heap[w.heap.size+1]? = some (d_ #[a_ none 0 0,a_ none 0 0,a_ none 0 0] 33 (0,0)):=gk c (by have:=gH (w.alloc (d_ #[a_ a1 n1 c1,a_ a2 n2 B,a_ a3 n3 c3] 33)) zM;simpa using this);have E:w1.heap[w.heap.size]? = some (d_ #[a_ a1 n1 c1,a_ a2 n2 B,a_ a3 n3 c3] 33 (0,0)):=gk c (gk (gr _ _) (gH w _));have F:gi (Up w w1):=gg ((by repeat(first|(with_reducible exact Below.refl _ _)|(with_reducible refine gO ?_ ?_ _)|(with_reducible apply iS)|(with_reducible refine gj ?_ (by with_reducible assumption))|(with_reducible apply iR)|omega)));have I:=gg G;have Z:=gg E;have az:w.heap.size+1+1≤w1.heap.size:=by have:=c.size;simpa using this
   clear G E c;obtain⟨⟨Q,N,P⟩,f0,f1,f2⟩:=iK I.o;obtain⟨s0,s1,s2⟩:=iv (jT (x:=a_ none 0 0) (y:=a_ none 0 0) (z:=a_ none 0 0) I.o).1
   go_wp2_with fail
   exact bodyPost_ret (v:=fI #[e_ #[a_ none 0 0,a_ none 0 0,a_ none 0 0],b_ c_ 1]) (by simp[results,Tryz.results134,go_sem,s0,s1,s2]) rfl ⟨_,rfl,lX _,kt F.o f_⟩
 · rw[if_pos rfl]
   obtain⟨h0,h1,h2,h3,h4⟩:=uN hh;obtain⟨T,U,ar,bi,rfl,e0,e1,e2,e3,aI,aX⟩:=hm.row h1 h0;have HH:=gg hh;have ai:=gg aI;clear hh hm aI aX e0;have aP:(iA m h).length≤1000:=HS.o.each _ (List.mem_of_getElem? (yS h1 h0));by_cases ag:8≤(iA m h).length
   · rw[if_pos ag]
     generalize S:m.words.length=n1 at *
     generalize M:m.pend.length=n2 at *
     generalize K:m.res.length=n3 at *
     clear S M K;generalize X:(iA m h).length=d at *
     clear X;go_enter Tryz.func134,Tryz.ntmps134
     go_wp2_with fail
     refine(g9 _ m h a true _ (HM.o.below (by repeat(first|(with_reducible exact Below.refl _ _)|(with_reducible refine gO ?_ ?_ _)|(with_reducible apply iS)|(with_reducible refine gj ?_ (by with_reducible assumption))|(with_reducible apply iR)|omega))) HH.o).mono ?_
     rintro e w1 ⟨rfl,c⟩;have G:w1.heap[w.heap.size+1]? = some (d_ #[a_ none 0 0,a_ none 0 0,a_ none 0 0] 33 (0,0)):=gk c (by have:=gH (w.alloc (d_ #[a_ a1 n1 c1,a_ (some ⟨T,U,none⟩) n2 B,a_ a3 n3 c3] 33)) zM;simpa using this);have E:w1.heap[w.heap.size]? = some (d_ #[a_ a1 n1 c1,a_ (some ⟨T,U,none⟩) n2 B,a_ a3 n3 c3] 33 (0,0)):=gk c (gk (gr _ _) (gH w _));have F:gi (Up w w1):=gg ((by repeat(first|(with_reducible exact Below.refl _ _)|(with_reducible refine gO ?_ ?_ _)|(with_reducible apply iS)|(with_reducible refine gj ?_ (by with_reducible assumption))|(with_reducible apply iR)|omega)));have I:=gg G;have Z:=gg E;have az:w.heap.size+1+1≤w1.heap.size:=by have:=c.size;simpa using this
     clear G E c;have kk:=(iv Z.o).2.1;have kr:=(F.o.cell (p:=⟨T,U+h.toNat,none⟩) e3).trans ai.o;obtain⟨⟨Q,N,P⟩,f0,f1,f2⟩:=iK I.o;obtain⟨s0,s1,s2⟩:=iv (jT (x:=a_ none 0 0) (y:=a_ none 0 0) (z:=a_ none 0 0) I.o).1
     go_wp2_with fail
     exact bodyPost_ret (v:=fI #[e_ #[a_ none 0 0,a_ none 0 0,a_ none 0 0],b_ c_ 90]) (by simp[results,Tryz.results134,go_sem,s0,s1,s2]) rfl ⟨_,rfl,lX _,kt F.o f_⟩
   · rw[if_neg ag]
     have a0:(iA m h).length<8:=by omega
     clear ag;generalize S:m.words.length=n1 at *
     generalize M:m.pend.length=n2 at *
     generalize K:m.res.length=n3 at *
     have aT:=gg S;have am:=gg M;have bc:=gg K;clear S M K;obtain⟨d,X⟩:∃ d,(iA m h).length=d:=⟨_,rfl⟩;rw[X] at ai a0 aP;have av:=gg X;clear X;obtain⟨i0,hi,bg,a8,aO⟩:=info_parts BN;go_enter Tryz.func134,Tryz.ntmps134
     go_wp2_with fail
     refine(g9 _ m h a true _ (HM.o.below (by repeat(first|(with_reducible exact Below.refl _ _)|(with_reducible refine gO ?_ ?_ _)|(with_reducible apply iS)|(with_reducible refine gj ?_ (by with_reducible assumption))|(with_reducible apply iR)|omega))) HH.o).mono ?_
     rintro e w1 ⟨rfl,c⟩;have G:w1.heap[w.heap.size+1]? = some (d_ #[a_ none 0 0,a_ none 0 0,a_ none 0 0] 33 (0,0)):=gk c (by have:=gH (w.alloc (d_ #[a_ a1 n1 c1,a_ (some ⟨T,U,none⟩) n2 B,a_ a3 n3 c3] 33)) zM;simpa using this);have E:w1.heap[w.heap.size]? = some (d_ #[a_ a1 n1 c1,a_ (some ⟨T,U,none⟩) n2 B,a_ a3 n3 c3] 33 (0,0)):=gk c (gk (gr _ _) (gH w _));have F:gi (Up w w1):=gg ((by repeat(first|(with_reducible exact Below.refl _ _)|(with_reducible refine gO ?_ ?_ _)|(with_reducible apply iS)|(with_reducible refine gj ?_ (by with_reducible assumption))|(with_reducible apply iR)|omega)));have I:=gg G;have Z:=gg E;have az:w.heap.size+1+1≤w1.heap.size:=by have:=c.size;simpa using this
     clear G E c;have kk:=(iv Z.o).2.1;have kr:=(F.o.cell (p:=⟨T,U+h.toNat,none⟩) e3).trans ai.o;obtain⟨Q,N,P⟩:=iv Z.o
     go_wp2_with fail
     refine(lO _ m _ (HM.o.below F.o) HS.o).mono ?_
     rintro e w2 ⟨q0,k,s,ap,f,o,l,rs,rfl,an,V⟩;rw[aT.o,am.o,bc.o] at an ⊢
     clear Q N P kk kr;go_upto_region 7 with fail
     have t:=an.move (gH w2 (d_ #[a_ k n1 s,a_ ap n2 f,a_ o n3 l] 33)) V.size (gr w2 _);have hQ:=gk (gj V (gr w2 (d_ #[a_ k n1 s,a_ ap n2 f,a_ o n3 l] 33))) I.o;have hB:=gj F.o (gj V (gr w2 (d_ #[a_ k n1 s,a_ ap n2 f,a_ o n3 l] 33)));have ba:w.heap.size+1<w2.heap.size:=fN (gn I.o) V.size;obtain⟨W3,hW⟩:∃ W,w2.alloc (d_ #[a_ k n1 s,a_ ap n2 f,a_ o n3 l] 33)=W:=⟨_,rfl⟩;rw[hW] at t hQ hB ⊢
     obtain⟨p,hp⟩:∃ q,w2.heap.size=q:=⟨_,rfl⟩;rw[hp] at t ba ⊢
     clear hW hp an V w2;obtain⟨w2,aM⟩:∃ u,u=W3:=⟨_,rfl⟩;subst aM;have aj:=gg hQ;have B2:gi (Up w w2):=gg hB;obtain⟨b,bm,r,e9,a5,bj,hr,aJ,bo,af⟩:=t.rowAt h0 (by rw[am.o];exact h1);injection e9 with e9 e8 e7
     subst e9 e7;clear e8;obtain⟨xr,yr,rfl⟩:=gN af;rw[av.o] at hr aJ af;rw[am.o] at a5;have bn:w1.heap.size≤b:=by have:=t.pend;exact(this.lt b rfl).1
     have bl:=t.base;have aY:=(t.pend.lt b rfl).2;have aH:=gg t;have HR:=gg hr;have bb:=gg af;have lp:=gn t.at_;clear t hr af hQ hB;have bk:w.heap.size+1<w2.heap.size:=gn aj.o
     refine fY (fun w'=>(p<w'.heap.size∧b<w'.heap.size)∧w'.heap[p]? = some (d_ #[a_ k n1 s,a_ (some ⟨b,0,none⟩) n2 f,a_ o n3 l] 33 (0,0))∧w'.cell? ⟨b,h.toNat,none⟩=some (a_ xr d yr)) 14 [true,true,true,true,true,true,true,true,true,true]
      (fun w1 w2 h hu=>⟨⟨fN h.1.1 hu.size,fN h.1.2 hu.size⟩,gk hu h.2.1,by rw[hu.cell (p:=⟨b,_,none⟩) h.1.2];exact h.2.2⟩) ⟨⟨lp,aY⟩,aH.o.at_,aJ⟩ ?a' ?h ?ht
     case h=>
      intro w0 ⟨⟨l1,l2⟩,c1,B⟩;obtain⟨Q,N,P⟩:=iv c1;have y0:=fun x=>gD l1 Q x
      have y1:=fun x=>gD l1 N x
      have y2:=fun x=>gD l1 P x
      have y3:=fun x=>gD l2 B x
      clear c1 B Q N P;simp only[jd];repeat(go_big_quiet_step (fail))
      refine wpQuiet_nil ?_
      rfl
     case ht=>
      change kD _ _ _ _ _ _ 4 _ _ _;refine jQ (i:=10) ga fZ rfl ?_
      intro w3 ay aB;have aK:gi (Up w2 w3):=gg (nE ay);have aV:=gg aB;clear ay aB
      go_wp2_with (go_at_call 95;((with_reducible refine(gI n _ HI.o).mono ?_);rintro e w' ⟨rfl,rfl⟩))
      refine⟨aV.o,?_⟩;refine jQ (i:=11) ga fZ rfl ?_
      intro w4 aG aA;have aW:=gg (mI aK.o aG);have bh:=gg aA;clear aG aA
      go_wp2_with fail
      refine⟨bh.o,?_⟩;refine jQ (i:=12) ga fZ rfl ?_
      intro A ao aE;have aQ:=gg (mI aW.o ao);have aa:=gg aE;clear ao aE
      go_wp2_with fail
      refine⟨⟨⟨fN aa.o.1.1 (gr A _).size,fN aa.o.1.2 (gr A _).size⟩,gk (gr A _) aa.o.2.1,by rw[(gr A _).cell (p:=⟨b,_,none⟩) aa.o.1.2];exact aa.o.2.2⟩,?_⟩;refine jQ (i:=13) ga fZ rfl ?_
      intro L ak ax;have au:gi (L.heap[A.heap.size]? = some (d_ #[b_ c_ a,b_ c_ (wrap32 n)] 127 (0,0))):=gg (gk ak (gH A _));have J:gi (Up w2 L):=gg (mI aQ.o (mI (gr A _) ak));have H:=gg ax;clear ak ax;have ae:=gg (aH.o.below J.o);have R:=gg (gy bb.o J.o)
      have a4:gi (∀ j u,(gW [(a,wrap32 n)])[j]? = some u→L.cell? ((⟨A.heap.size,0,none⟩:Addr).add j)=some u):=gg (fun j u hj=>by
       rw[kx];have bf:=(fR hj).1;simp only[gW,List.length_cons,List.length_nil] at bf;rcases(by omega:j=0∨j=1) with rfl|rfl
       · simp[gW] at hj;subst hj;exact gv au.o rfl
       · simp[gW] at hj;subst hj;exact gv au.o rfl)
      have be:(d+1)*16≤140737488355328:=by omega
      have aS:d+1≤maxLen:=by unfold maxLen;omega
      have bd:w1.heap.size≤L.heap.size:=by have:=J.o.size;omega
      refine wpList_append_own _ rfl _ _ 57 rfl w1.heap.size 127 i0 (e_ #[b_ c_ 0,b_ c_ 0]) 2 16 Tryz.underlying57 hi bg a8 aO rfl fZ _ _ _ rfl R.o ⟨A.heap.size,0,none⟩ 1 1 (gW [(a,wrap32 n)]) rfl rfl a4.o (tI _) aS be bd ?_
      intro v' D ab aq _;obtain⟨xv,yv,rfl⟩:=gN ab;rw[←Fc] at ab;have aR:=gg ab;have C:=gg aq;clear ab aq;have q1:D.heap[p]? = L.heap[p]?:=C.o.block p H.o.1.1 (fun e=>gS R.o H.o.2.1 fZ e.symm);have q2:D.heap[b]? = L.heap[b]?:=C.o.block b H.o.1.2 (fun e=>ku ae.o.pend R.o fZ (g:=b) rfl e.symm);have ad:gi ((p<D.heap.size∧b<D.heap.size)∧D.heap[p]? = some (d_ #[a_ k n1 s,a_ (some ⟨b,0,none⟩) n2 f,a_ o n3 l] 33 (0,0))∧D.cell? ⟨b,h.toNat,none⟩=some (a_ xr d yr)):=gg ⟨⟨fN H.o.1.1 C.o.size,fN H.o.1.2 C.o.size⟩,by rw[q1];exact H.o.2.1,by rw[World.cell?_of_block (a:=⟨b,h.toNat,none⟩) q2];exact H.o.2.2⟩;have aF:D.heap[w.heap.size+1]? = some (d_ #[a_ none 0 0,a_ none 0 0,a_ none 0 0] 33 (0,0)):=by rw[C.o.block (w.heap.size+1) (by have:=J.o.size;omega) (fun e=>gS R.o (gk J.o aj.o) fZ e.symm)];exact gk J.o aj.o
      have a9:=gg aF;clear aF q1 q2;have B7:gi (Up w D):=gg (yY (gj B2.o J.o) C.o (fun g e=>by have:=(R.o.lt g e).1;omega))
      go_wp2_with fail
      refine⟨ad.o,?_⟩;refine lR ga ?_
      intro Y aC aL;have O:=gg aC;clear aC aL;have al:=gg (ae.o.stored fZ fZ HR.o (BA C.o C.o.size O.o) (r':=a_ xv (d+1) yv) (l':=iA m h ++ [(a,wrap32 n)]) (by simp only[List.length_append,List.length_cons,List.length_nil,av.o];exact gy aR.o O.o) rfl);obtain⟨cc,aD⟩:=pE ae.o.pend (g:=b) rfl;have aZ:Y.frozen? ⟨b,h.toNat,none⟩=false:=gC (show Y.heap[b]? = some (d_ cc _ (0,0)) by rw[O.o.block b ad.o.1.2,C.o.block b H.o.1.2 (fun e=>ku ae.o.pend R.o fZ (g:=b) rfl e.symm)];exact aD) _;have aN:=(O.o.cell (p:=⟨b,h.toNat,none⟩) ad.o.1.2).trans ad.o.2.2;have a6:=gg (gk O.o a9.o);have B8:=gg (gj B7.o O.o);clear aD;have ac:gi ((Y.setCell ⟨b,h.toNat,none⟩ (a_ xv (d+1) yv)).heap[w.heap.size+1]? = some (d_ #[a_ none 0 0,a_ none 0 0,a_ none 0 0] 33 (0,0))):=gg (by rw[iY f_];exact a6.o);have B9:gi (Up w (Y.setCell ⟨b,h.toNat,none⟩ (a_ xv (d+1) yv))):=gg (gO B8.o f_ _);simp only[List.drop_succ_cons,List.drop_zero];go_upto_region 8 with(fail)
      obtain⟨w9,ah⟩:∃ w9,Y.setCell ⟨b,h.toNat,none⟩ (a_ xv (d+1) yv)=w9:=⟨_,rfl⟩;rw[ah] at ac B9 al;rw[ah];clear ah aZ aN;obtain⟨⟨f0,f1,f2⟩,g0,g1,g2⟩:=iK ac.o;obtain⟨t0,t1,t2⟩:=iv al.o.1;obtain⟨s0,s1,s2⟩:=iv (jT (x:=a_ k n1 s) (y:=a_ (some ⟨b,0,none⟩) n2 f) (z:=a_ o n3 l) ac.o).1;have a7:=gg (pJ (a_ k n1 s) (a_ (some ⟨b,0,none⟩) n2 f) (a_ o n3 l) al.o.2 ac.o);have aU:=gg (kt (x:=a_ k n1 s) (y:=a_ (some ⟨b,0,none⟩) n2 f) (z:=a_ o n3 l) B9.o (show w.heap.size≤w.heap.size+1 by omega))
      go_wp2_with fail
      exact bodyPost_ret (v:=fI #[e_ #[a_ k n1 s,a_ (some ⟨b,0,none⟩) n2 f,a_ o n3 l],b_ c_ 0]) (by simp[results,Tryz.results134,go_sem,s0,s1,s2]) rfl ⟨_,rfl,a7.o,aU.o⟩
end
end
section
section
open Go.RowKit
set_option maxRecDepth 100000
theorem pi {m h a} (b:jm m h a=false):lu m h a=1:=by unfold lu;rw[b];rfl
theorem lP {m h a} (b:jm m h a=true) (hl:(iA m h).length≠0):lu m h a=92:=by unfold lu;rw[if_pos b,if_neg hl]
theorem lN {m h a} (b:jm m h a=true) (hl:(iA m h).length=0):lu m h a=0:=by unfold lu;rw[if_pos b,if_pos hl]
theorem px v m h a w (I:gM w v m) (hs:jC m) :
 Calls gd 135 #[v,b_ c_ h,b_ c_ a] w (tF w w.heap.size (b_ c_ (ow m h a).1) (ow m h a).2):=by
 have Y:=gg I;have HS:=gg hs;obtain⟨a1,c1,a2,b,a3,c3,rows,rfl,_,_,_,_⟩:=I.parts;clear hs;unfold tF;cases U:jm m h a
 case false=>
  have E:=gg (show ow m h a=(0,lY,1) by unfold ow;rw[pi U];rfl);rw[E.o];have N:=gg U;clear U I;generalize D:m.words.length=n1 at *
  generalize C:m.pend.length=n2 at *
  generalize B:m.res.length=n3 at *
  have ac:=gg D;have ae:=gg C;have T:=gg B;clear D C B;go_enter Tryz.func135,Tryz.ntmps135
  go_wp2_with fail
  have k:=gj (gr w (d_ #[a_ a1 n1 c1,a_ a2 n2 b,a_ a3 n3 c3] 33)) (gr (w.alloc (d_ #[a_ a1 n1 c1,a_ a2 n2 b,a_ a3 n3 c3] 33)) (d_ #[a_ none 0 0,a_ none 0 0,a_ none 0 0] 33));have A:=gk (gr (w.alloc (d_ #[a_ a1 n1 c1,a_ a2 n2 b,a_ a3 n3 c3] 33)) (d_ #[a_ none 0 0,a_ none 0 0,a_ none 0 0] 33)) (gH w (d_ #[a_ a1 n1 c1,a_ a2 n2 b,a_ a3 n3 c3] 33));have l:=gH (w.alloc (d_ #[a_ a1 n1 c1,a_ a2 n2 b,a_ a3 n3 c3] 33)) (d_ #[a_ none 0 0,a_ none 0 0,a_ none 0 0] 33);rw[World.size_alloc] at l;refine(g9 _ m h a false _ (Y.o.below k) N.o).mono ?_
  rintro e w1 ⟨rfl,c⟩;have r:gi (w1.heap[w.heap.size+1]? = some mh):=gg (gk c l);have F:=gg (gk c A);have i:=gg (gj k c);clear k A l c;obtain⟨⟨p,s,t⟩,f0,f1,f2⟩:=iK r.o;have tq:=gn r.o;obtain⟨s0,s1,s2⟩:=iv (jT (x:=a_ none 0 0) (y:=a_ none 0 0) (z:=a_ none 0 0) r.o).1
  go_wp2_with fail
  exact bodyPost_ret (v:=fI #[b_ c_ 0,e_ #[a_ none 0 0,a_ none 0 0,a_ none 0 0],b_ c_ 1]) (by simp[results,Tryz.results135,go_sem,s0,s1,s2]) rfl ⟨_,rfl,lX _,kt i.o f_⟩
 case true=>
  obtain⟨h0,h1,h2,h3,h4⟩:=uN U;obtain⟨n,o,ar,aA,al,e0,e1,e2,e3,ak,_⟩:=I.row h1 h0;obtain⟨f,d,ao,aw,aN,aD,au,ag⟩:=I.word h3 h4;subst al ao;have N:=gg U;have Z:=gg (show hZ w n (o+h.toNat) _ from⟨e3,ak⟩);have ad:=gg (show hZ w f (d+a.toNat) _ from⟨au,ag⟩);clear e0 aw ak ag e3;by_cases hl:(iA m h).length=0
  rotate_left
  · have E:=gg (show ow m h a=(0,lY,92) by unfold ow;rw[lP N.o hl];rfl)
    rw[E.o];clear I;obtain⟨ln,ah⟩:∃ ln,(iA m h).length=ln:=⟨_,rfl⟩;rw[ah] at Z hl;clear ah;generalize D:m.words.length=n1 at *
    generalize C:m.pend.length=n2 at *
    generalize B:m.res.length=n3 at *
    have ac:=gg D;have ae:=gg C;have T:=gg B;clear D C B;go_enter Tryz.func135,Tryz.ntmps135
    go_wp2_with fail
    have k:=gj (gr w (d_ #[a_ (some ⟨f,d,none⟩) n1 c1,a_ (some ⟨n,o,none⟩) n2 b,a_ a3 n3 c3] 33)) (gr (w.alloc (d_ #[a_ (some ⟨f,d,none⟩) n1 c1,a_ (some ⟨n,o,none⟩) n2 b,a_ a3 n3 c3] 33)) (d_ #[a_ none 0 0,a_ none 0 0,a_ none 0 0] 33));have A:=gk (gr (w.alloc (d_ #[a_ (some ⟨f,d,none⟩) n1 c1,a_ (some ⟨n,o,none⟩) n2 b,a_ a3 n3 c3] 33)) (d_ #[a_ none 0 0,a_ none 0 0,a_ none 0 0] 33)) (gH w (d_ #[a_ (some ⟨f,d,none⟩) n1 c1,a_ (some ⟨n,o,none⟩) n2 b,a_ a3 n3 c3] 33));have l:=gH (w.alloc (d_ #[a_ (some ⟨f,d,none⟩) n1 c1,a_ (some ⟨n,o,none⟩) n2 b,a_ a3 n3 c3] 33)) (d_ #[a_ none 0 0,a_ none 0 0,a_ none 0 0] 33);rw[World.size_alloc] at l;refine(g9 _ m h a true _ (Y.o.below k) N.o).mono ?_
    rintro e w1 ⟨rfl,c⟩;have r:gi (w1.heap[w.heap.size+1]? = some mh):=gg (gk c l);have F:=gg (gk c A);have i:=gg (gj k c);clear k A l c;obtain⟨⟨p,s,t⟩,_⟩:=iK F.o;have tx:=gn F.o;obtain⟨tr,vr⟩:=Z.o.up i.o;obtain⟨tw,S⟩:=ad.o.up i.o;have aG:0<ln:=by omega
    have HL:=gg hl;clear hl
    go_upto_if 24 with fail
    clear p s t;obtain⟨⟨p,s,t⟩,f0,f1,f2⟩:=iK r.o;have tq:=gn r.o;obtain⟨s0,s1,s2⟩:=iv (jT (x:=a_ none 0 0) (y:=a_ none 0 0) (z:=a_ none 0 0) r.o).1
    go_wp2_with fail
    exact bodyPost_ret (v:=fI #[b_ c_ 0,e_ #[a_ none 0 0,a_ none 0 0,a_ none 0 0],b_ c_ 92]) (by simp[results,Tryz.results135,go_sem,s0,s1,s2]) rfl ⟨_,rfl,lX _,kt i.o f_⟩
  have E:=gg (show ow m h a=(kQ m a,tH m h a,0) by unfold ow;rw[lN N.o hl];rfl);rw[E.o];rw[hl] at Z;clear I hl;generalize kQ m a=wd at *
  generalize D:m.words.length=n1 at *
  generalize C:m.pend.length=n2 at *
  generalize B:m.res.length=n3 at *
  have ac:=gg D;have ae:=gg C;have T:=gg B;clear D C B;go_enter Tryz.func135,Tryz.ntmps135
  go_wp2_with fail
  have k:=gj (gr w (d_ #[a_ (some ⟨f,d,none⟩) n1 c1,a_ (some ⟨n,o,none⟩) n2 b,a_ a3 n3 c3] 33)) (gr (w.alloc (d_ #[a_ (some ⟨f,d,none⟩) n1 c1,a_ (some ⟨n,o,none⟩) n2 b,a_ a3 n3 c3] 33)) (d_ #[a_ none 0 0,a_ none 0 0,a_ none 0 0] 33));have A:=gk (gr (w.alloc (d_ #[a_ (some ⟨f,d,none⟩) n1 c1,a_ (some ⟨n,o,none⟩) n2 b,a_ a3 n3 c3] 33)) (d_ #[a_ none 0 0,a_ none 0 0,a_ none 0 0] 33)) (gH w (d_ #[a_ (some ⟨f,d,none⟩) n1 c1,a_ (some ⟨n,o,none⟩) n2 b,a_ a3 n3 c3] 33));have l:=gH (w.alloc (d_ #[a_ (some ⟨f,d,none⟩) n1 c1,a_ (some ⟨n,o,none⟩) n2 b,a_ a3 n3 c3] 33)) (d_ #[a_ none 0 0,a_ none 0 0,a_ none 0 0] 33);rw[World.size_alloc] at l;refine(g9 _ m h a true _ (Y.o.below k) N.o).mono ?_
  rintro e w1 ⟨rfl,c⟩;have r:gi (w1.heap[w.heap.size+1]? = some mh):=gg (gk c l);have F:=gg (gk c A);have i:=gg (gj k c);clear k A l c;obtain⟨⟨p,s,t⟩,_⟩:=iK F.o;have tx:=gn F.o;obtain⟨tr,vr⟩:=Z.o.up i.o;obtain⟨tw,S⟩:=ad.o.up i.o
  go_wp2_with fail
  clear p s t tx tr vr tw S;refine(lO _ m _ (Y.o.below i.o) HS.o).mono ?_
  rintro e w2 ⟨q0,H,J,K,L,y3,G,rs,rfl,af,V⟩;rw[ac.o,ae.o,T.o] at af ⊢
  go_upto_region 7 with fail
  have X:=af.move (gH w2 (d_ #[a_ H n1 J,a_ K n2 L,a_ y3 n3 G] 33)) V.size (gr w2 _);have P:=gj V (gr w2 (d_ #[a_ H n1 J,a_ K n2 L,a_ y3 n3 G] 33));have az:w.heap.size+1<w2.heap.size:=fN (gn r.o) V.size;obtain⟨W,R⟩:∃ W,w2.alloc (d_ #[a_ H n1 J,a_ K n2 L,a_ y3 n3 G] 33)=W:=⟨_,rfl⟩;rw[R] at X P ⊢
  obtain⟨q,hq⟩:∃ q,w2.heap.size=q:=⟨_,rfl⟩;rw[hq] at X az ⊢
  clear R hq af V;have O:=gg (X.low i.o.size);have ai:=gg (gk P r.o);have aj:=gg (gk P F.o);have BU:=gg P;have B2:=gg (gj i.o P);clear X P;obtain⟨g3,o3,e7,av,aP,aL,tg,vg⟩:=gM.resv O.o.isMem h0 (by show h<(m.res.length:Int);rw[T.o];exact h2);have M:=O.o.res;rw[T.o] at M;obtain⟨g,cg,e9,aJ,aM⟩:=pB M f_;injection e9 with e9 e8 e6
  subst e9 e6;clear e8;injection e7 with e7
  injection e7 with e7 e5 e71
  subst e7 e5;clear av e71;obtain⟨⟨m0,m1,m2⟩,_⟩:=iK O.o.at_;have Q:=gn O.o.at_;have H3:=gg (O.o.setResv fZ rfl h.toNat a);have R3:gi ((W.setCell ⟨g,h.toNat,none⟩ (b_ c_ a)).heap[w.heap.size+1]? = some mh):=gg (jF M rfl ai.o fZ);have X3:=gg (jF (j:=h.toNat) (u:=b_ c_ a) M rfl aj.o fZ);have am:w.heap.size≤g:=(M.lt g rfl).1
  have ap:W.frozen? ⟨g,h.toNat,none⟩=false:=by
   obtain⟨cc,ay⟩:=pE M (g:=g) rfl;exact gC ay _
  have B3:gi (Up w (W.setCell ⟨g,h.toNat,none⟩ (b_ c_ a))):=gg (gO B2.o am _);rw[Nat.zero_add] at vg;go_upto_region 8 with fail
  obtain⟨W3,R⟩:∃ W',W.setCell ⟨g,h.toNat,none⟩ (b_ c_ a)=W':=⟨_,rfl⟩;rw[R] at H3 R3 X3 B3 ⊢
  clear R m0 m1 m2 Q tg vg ap O ai aj M BU B2;obtain⟨⟨m0,m1,m2⟩,_⟩:=iK H3.o.at_;have Q:=gn H3.o.at_;obtain⟨⟨p,s,t⟩,_⟩:=iK X3.o;have tx:=gn X3.o;obtain⟨tw,S⟩:=ad.o.up B3.o;refine ov 7 ga ga ?_
  simp only[List.take_succ_cons,List.take_zero,List.drop_succ_cons,List.drop_zero];have p0:=fun x=>gD Q m0 x
  have p1:=fun x=>gD Q m1 x
  have p2:=fun x=>gD Q m2 x
  have p3:=fun x=>gD tx p x
  have p4:=fun x=>gD tw S x
  clear m0 m1 m2 p s t S;repeat(go_big_quiet_step (fail))
  refine wpQuiet_nil ?_
  rintro w9 ⟨⟨aE,aa⟩,rfl⟩;have an:=gg (H3.o.below aa);have ab:=gg (gk aa R3.o);have ax:=gg (gj B3.o aa);clear p0 p1 p2 p3 p4 aa;obtain⟨⟨aB,aK,aH⟩,aF,aO,aI⟩:=iK ab.o;have aC:=gn ab.o
  go_wp2_with fail
  obtain⟨p,s,t⟩:=iv (jT (x:=a_ H n1 J) (y:=a_ K n2 L) (z:=a_ (some ⟨g,0,none⟩) n3 G) ab.o).1;have aq:=gg (pJ (a_ H n1 J) (a_ K n2 L) (a_ (some ⟨g,0,none⟩) n3 G) an.o.isMem ab.o);have BW:=gg (kt (x:=a_ H n1 J) (y:=a_ K n2 L) (z:=a_ (some ⟨g,0,none⟩) n3 G) ax.o (by omega:w.heap.size≤w.heap.size+1));exact bodyPost_ret (v:=fI #[b_ c_ wd,e_ #[a_ H n1 J,a_ K n2 L,a_ (some ⟨g,0,none⟩) n3 G],b_ c_ 0]) (by simp[results,Tryz.results135,go_sem,p,s,t]) rfl ⟨_,rfl,aq.o,BW.o⟩
theorem uu v m h a n w (hm:gM w v m) (hs:jC m) (hn:iy n) :
 Calls gd 136 #[v,b_ c_ h,b_ c_ a,b_ c_ n] w (tF w w.heap.size (fJ (mM m h a n).1) (mM m h a n).2):=by
 have HM:=gg hm;have HS:=gg hs;have HI:=gg hn;obtain⟨a1,c1,a2,b,a3,c3,rows,rfl,_,_,_,_⟩:=hm.parts;clear hs hn;unfold tF;cases hh:jm m h a
 case false=>
  have E:=gg (show mM m h a n=(false,lY,1) by unfold mM;rw[pi hh];rfl);rw[E.o];have HH:=gg hh;clear hh hm;generalize M:m.words.length=n1 at *
  generalize I:m.pend.length=n2 at *
  generalize G:m.res.length=n3 at *
  have ad:=gg M;have ah:=gg I;have ac:=gg G;clear M I G;go_enter Tryz.func136,Tryz.ntmps136
  go_wp2_with fail
  have s:=gj (gr w (d_ #[a_ a1 n1 c1,a_ a2 n2 b,a_ a3 n3 c3] 33)) (gr (w.alloc (d_ #[a_ a1 n1 c1,a_ a2 n2 b,a_ a3 n3 c3] 33)) (d_ #[a_ none 0 0,a_ none 0 0,a_ none 0 0] 33));have F:=gk (gr (w.alloc (d_ #[a_ a1 n1 c1,a_ a2 n2 b,a_ a3 n3 c3] 33)) (d_ #[a_ none 0 0,a_ none 0 0,a_ none 0 0] 33)) (gH w (d_ #[a_ a1 n1 c1,a_ a2 n2 b,a_ a3 n3 c3] 33));have t:=gH (w.alloc (d_ #[a_ a1 n1 c1,a_ a2 n2 b,a_ a3 n3 c3] 33)) (d_ #[a_ none 0 0,a_ none 0 0,a_ none 0 0] 33);rw[World.size_alloc] at t;refine(g9 _ m h a false _ (HM.o.below s) HH.o).mono ?_
  rintro e w1 ⟨rfl,c⟩;have D:gi (w1.heap[w.heap.size+1]? = some mh):=gg (gk c t);have J:=gg (gk c F);have d:=gg (gj s c);clear s F t c;obtain⟨⟨j,f,i⟩,f0,f1,f2⟩:=iK D.o;have tq:=gn D.o;obtain⟨s0,s1,s2⟩:=iv (jT (x:=a_ none 0 0) (y:=a_ none 0 0) (z:=a_ none 0 0) D.o).1
  go_wp2_with fail
  exact bodyPost_ret (v:=fI #[fJ false,e_ #[a_ none 0 0,a_ none 0 0,a_ none 0 0],b_ c_ 1]) (by simp[results,Tryz.results136,go_sem,s0,s1,s2]) rfl ⟨_,rfl,lX _,kt d.o f_⟩
 case true=>
  obtain⟨h0,h1,h2,h3,h4⟩:=uN hh;obtain⟨p,r,ar,aV,aI,e0,e1,e2,e3,aF,_⟩:=hm.row h1 h0;obtain⟨l,o,aN,aQ,a6,aW,aP,aC⟩:=hm.resv h0 h2;subst aI aN;have HH:=gg hh;have af:=gg (show hZ w p (r+h.toNat) _ from⟨e3,aF⟩);have az:=gg (show hZ w l (o+h.toNat) _ from⟨aP,aC⟩);clear e0 aQ aF aC e3;by_cases hl:(iA m h).length=0
  rotate_left
  · have E:=gg (show mM m h a n=(false,lY,92) by unfold mM;rw[lP HH.o hl];rfl)
    rw[E.o];clear hm;obtain⟨ln,aD⟩:∃ ln,(iA m h).length=ln:=⟨_,rfl⟩;rw[aD] at af hl;clear aD;generalize M:m.words.length=n1 at *
    generalize I:m.pend.length=n2 at *
    generalize G:m.res.length=n3 at *
    have ad:=gg M;have ah:=gg I;have ac:=gg G;clear M I G;go_enter Tryz.func136,Tryz.ntmps136
    go_wp2_with fail
    have s:=gj (gr w (d_ #[a_ a1 n1 c1,a_ (some ⟨p,r,none⟩) n2 b,a_ (some ⟨l,o,none⟩) n3 c3] 33)) (gr (w.alloc (d_ #[a_ a1 n1 c1,a_ (some ⟨p,r,none⟩) n2 b,a_ (some ⟨l,o,none⟩) n3 c3] 33)) (d_ #[a_ none 0 0,a_ none 0 0,a_ none 0 0] 33));have F:=gk (gr (w.alloc (d_ #[a_ a1 n1 c1,a_ (some ⟨p,r,none⟩) n2 b,a_ (some ⟨l,o,none⟩) n3 c3] 33)) (d_ #[a_ none 0 0,a_ none 0 0,a_ none 0 0] 33)) (gH w (d_ #[a_ a1 n1 c1,a_ (some ⟨p,r,none⟩) n2 b,a_ (some ⟨l,o,none⟩) n3 c3] 33));have t:=gH (w.alloc (d_ #[a_ a1 n1 c1,a_ (some ⟨p,r,none⟩) n2 b,a_ (some ⟨l,o,none⟩) n3 c3] 33)) (d_ #[a_ none 0 0,a_ none 0 0,a_ none 0 0] 33);rw[World.size_alloc] at t;refine(g9 _ m h a true _ (HM.o.below s) HH.o).mono ?_
    rintro e w1 ⟨rfl,c⟩;have D:gi (w1.heap[w.heap.size+1]? = some mh):=gg (gk c t);have J:=gg (gk c F);have d:=gg (gj s c);clear s F t c;obtain⟨⟨j,f,i⟩,_⟩:=iK J.o;have tx:=gn J.o;obtain⟨tr,vr⟩:=af.o.up d.o;obtain⟨tw,vw⟩:=az.o.up d.o;have aY:0<ln:=by omega
    have HL:=gg hl;clear hl
    go_upto_if 27 with fail
    clear j f i;obtain⟨⟨j,f,i⟩,f0,f1,f2⟩:=iK D.o;have tq:=gn D.o;obtain⟨s0,s1,s2⟩:=iv (jT (x:=a_ none 0 0) (y:=a_ none 0 0) (z:=a_ none 0 0) D.o).1
    go_wp2_with fail
    exact bodyPost_ret (v:=fI #[fJ false,e_ #[a_ none 0 0,a_ none 0 0,a_ none 0 0],b_ c_ 92]) (by simp[results,Tryz.results136,go_sem,s0,s1,s2]) rfl ⟨_,rfl,lX _,kt d.o f_⟩
  by_cases ai:pO m h=a
  rotate_left
  · have E:=gg (show mM m h a n=(false,tH m h (-1),0) by unfold mM;rw[lN HH.o hl,if_pos rfl,if_neg ai])
    rw[E.o];rw[hl] at af;have aH:(pO m h == a)=false:=by simp[ai]
    clear hm hl ai;generalize pO m h=rv at *
    generalize M:m.words.length=n1 at *
    generalize I:m.pend.length=n2 at *
    generalize G:m.res.length=n3 at *
    have ad:=gg M;have ah:=gg I;have ac:=gg G;clear M I G;go_enter Tryz.func136,Tryz.ntmps136
    go_wp2_with fail
    have s:=gj (gr w (d_ #[a_ a1 n1 c1,a_ (some ⟨p,r,none⟩) n2 b,a_ (some ⟨l,o,none⟩) n3 c3] 33)) (gr (w.alloc (d_ #[a_ a1 n1 c1,a_ (some ⟨p,r,none⟩) n2 b,a_ (some ⟨l,o,none⟩) n3 c3] 33)) (d_ #[a_ none 0 0,a_ none 0 0,a_ none 0 0] 33));have F:=gk (gr (w.alloc (d_ #[a_ a1 n1 c1,a_ (some ⟨p,r,none⟩) n2 b,a_ (some ⟨l,o,none⟩) n3 c3] 33)) (d_ #[a_ none 0 0,a_ none 0 0,a_ none 0 0] 33)) (gH w (d_ #[a_ a1 n1 c1,a_ (some ⟨p,r,none⟩) n2 b,a_ (some ⟨l,o,none⟩) n3 c3] 33));have t:=gH (w.alloc (d_ #[a_ a1 n1 c1,a_ (some ⟨p,r,none⟩) n2 b,a_ (some ⟨l,o,none⟩) n3 c3] 33)) (d_ #[a_ none 0 0,a_ none 0 0,a_ none 0 0] 33);rw[World.size_alloc] at t;refine(g9 _ m h a true _ (HM.o.below s) HH.o).mono ?_
    rintro e w1 ⟨rfl,c⟩;have D:gi (w1.heap[w.heap.size+1]? = some mh):=gg (gk c t);have J:=gg (gk c F);have d:=gg (gj s c);clear s F t c;obtain⟨⟨j,f,i⟩,_⟩:=iK J.o;have tx:=gn J.o;obtain⟨tr,vr⟩:=af.o.up d.o;obtain⟨tw,vw⟩:=az.o.up d.o
    go_wp2_with fail
    clear j f i tx tr vr tw vw;refine(lO _ m _ (HM.o.below d.o) HS.o).mono ?_
    rintro e w2 ⟨q0,L,N,O,P,y3,K,rs,rfl,ae,Q⟩;rw[ad.o,ah.o,ac.o] at ae ⊢
    go_upto_region 8 with fail
    have R:=ae.move (gH w2 (d_ #[a_ L n1 N,a_ O n2 P,a_ y3 n3 K] 33)) Q.size (gr w2 _);have C:=gj Q (gr w2 (d_ #[a_ L n1 N,a_ O n2 P,a_ y3 n3 K] 33));have aA:w.heap.size+1<w2.heap.size:=fN (gn D.o) Q.size;obtain⟨W,B⟩:∃ W,w2.alloc (d_ #[a_ L n1 N,a_ O n2 P,a_ y3 n3 K] 33)=W:=⟨_,rfl⟩;rw[B] at R C ⊢
    obtain⟨q,hq⟩:∃ q,w2.heap.size=q:=⟨_,rfl⟩;rw[hq] at R aA ⊢
    clear B hq ae Q;have HO:=gg (R.low d.o.size);have am:=gg (gk C D.o);have an:=gg (gk C J.o);have BU:=gg C;have B2:=gg (gj d.o C);clear R C;go_upto_region 10 with fail
    have A:=HO.o.res;rw[ac.o] at A;obtain⟨g,cg,e9,aS,aB⟩:=pB A f_;injection e9 with e9 e8 e6
    subst e9 e6;clear e8;unfold maxLen at aB;obtain⟨xr,ak⟩:∃ x,(m).res[h.toNat]? = some x:=⟨_,fQ (by rw[ac.o];omega)⟩;obtain⟨vg,av⟩:=tD (k:=h.toNat) (u:=b_ c_ xr) A (by unfold gz;rw[List.getElem?_map,ak];rfl);obtain⟨⟨m0,Y,T⟩,_⟩:=iK HO.o.at_;have H:=gn HO.o.at_;have tg:=(A.lt g rfl).2;have H3:=gg (HO.o.setResv fZ rfl h.toNat (-1));have R3:gi ((W.setCell ⟨g,h.toNat,none⟩ (b_ c_ (-1))).heap[w.heap.size+1]? = some mh):=gg (jF A rfl am.o fZ);have aq:w.heap.size≤g:=(A.lt g rfl).1;have B3:gi (Up w (W.setCell ⟨g,h.toNat,none⟩ (b_ c_ (-1)))):=gg (gO B2.o aq _);go_upto_region 11 with fail
    obtain⟨W3,B⟩:∃ W',W.setCell ⟨g,h.toNat,none⟩ (b_ c_ (-1))=W':=⟨_,rfl⟩;rw[B] at H3 R3 B3 ⊢
    clear B m0 Y T H tg vg av HO am A B2 ak;obtain⟨⟨m0,Y,T⟩,_⟩:=iK H3.o.at_;have H:=gn H3.o.at_;refine ov 3 ga ga ?_
    simp only[List.take_succ_cons,List.take_zero,List.drop_succ_cons,List.drop_zero];have p0:=fun x=>gD H m0 x
    have p1:=fun x=>gD H Y x
    have p2:=fun x=>gD H T x
    clear m0 Y T;repeat(go_big_quiet_step (fail))
    refine wpQuiet_nil ?_
    rintro w9 ⟨⟨aL,U⟩,rfl⟩;have au:=gg (H3.o.below U);have V:=gg (gk U R3.o);have ax:=gg (gj B3.o U);clear p0 p1 p2 U;obtain⟨⟨aJ,aT,aO⟩,aM,aU,aR⟩:=iK V.o;have aK:=gn V.o
    go_wp2_with fail
    obtain⟨j,f,i⟩:=iv (jT (x:=a_ L n1 N) (y:=a_ O n2 P) (z:=a_ (some ⟨g,0,none⟩) n3 K) V.o).1;have aw:=gg (pJ (a_ L n1 N) (a_ O n2 P) (a_ (some ⟨g,0,none⟩) n3 K) au.o.isMem V.o);have BW:=gg (kt (x:=a_ L n1 N) (y:=a_ O n2 P) (z:=a_ (some ⟨g,0,none⟩) n3 K) ax.o (by omega:w.heap.size≤w.heap.size+1));exact bodyPost_ret (v:=fI #[fJ false,e_ #[a_ L n1 N,a_ O n2 P,a_ (some ⟨g,0,none⟩) n3 K],b_ c_ 0]) (by simp[results,Tryz.results136,go_sem,j,f,i]) rfl ⟨_,rfl,aw.o,BW.o⟩
  have E:=gg (show mM m h a n=(true,tH (km m h a (wrap32 n)) h (-1),0) by unfold mM;rw[lN HH.o hl,if_pos rfl,if_pos ai]);rw[E.o];rw[hl] at af;have aH:(pO m h == a)=true:=by simp[ai]
  clear hm hl ai;generalize pO m h=rv at *
  generalize M:m.words.length=n1 at *
  generalize I:m.pend.length=n2 at *
  generalize G:m.res.length=n3 at *
  have ad:=gg M;have ah:=gg I;have ac:=gg G;clear M I G;go_enter Tryz.func136,Tryz.ntmps136
  go_wp2_with fail
  have s:=gj (gr w (d_ #[a_ a1 n1 c1,a_ (some ⟨p,r,none⟩) n2 b,a_ (some ⟨l,o,none⟩) n3 c3] 33)) (gr (w.alloc (d_ #[a_ a1 n1 c1,a_ (some ⟨p,r,none⟩) n2 b,a_ (some ⟨l,o,none⟩) n3 c3] 33)) (d_ #[a_ none 0 0,a_ none 0 0,a_ none 0 0] 33));have F:=gk (gr (w.alloc (d_ #[a_ a1 n1 c1,a_ (some ⟨p,r,none⟩) n2 b,a_ (some ⟨l,o,none⟩) n3 c3] 33)) (d_ #[a_ none 0 0,a_ none 0 0,a_ none 0 0] 33)) (gH w (d_ #[a_ a1 n1 c1,a_ (some ⟨p,r,none⟩) n2 b,a_ (some ⟨l,o,none⟩) n3 c3] 33));have t:=gH (w.alloc (d_ #[a_ a1 n1 c1,a_ (some ⟨p,r,none⟩) n2 b,a_ (some ⟨l,o,none⟩) n3 c3] 33)) (d_ #[a_ none 0 0,a_ none 0 0,a_ none 0 0] 33);rw[World.size_alloc] at t;refine(g9 _ m h a true _ (HM.o.below s) HH.o).mono ?_
  rintro e w1 ⟨rfl,c⟩;have D:gi (w1.heap[w.heap.size+1]? = some mh):=gg (gk c t);have J:=gg (gk c F);have d:=gg (gj s c);clear s F t c;obtain⟨⟨j,f,i⟩,_⟩:=iK J.o;have tx:=gn J.o;obtain⟨tr,vr⟩:=af.o.up d.o;obtain⟨tw,vw⟩:=az.o.up d.o
  go_wp2_with fail
  clear j f i tx tr vr tw vw;refine(lO _ m _ (HM.o.below d.o) HS.o).mono ?_
  rintro e w2 ⟨q0,L,N,O,P,y3,K,rs,rfl,ae,Q⟩;rw[ad.o,ah.o,ac.o] at ae ⊢
  go_upto_region 8 with fail
  have R:=ae.move (gH w2 (d_ #[a_ L n1 N,a_ O n2 P,a_ y3 n3 K] 33)) Q.size (gr w2 _);have C:=gj Q (gr w2 (d_ #[a_ L n1 N,a_ O n2 P,a_ y3 n3 K] 33));have aA:w.heap.size+1<w2.heap.size:=fN (gn D.o) Q.size;obtain⟨W,B⟩:∃ W,w2.alloc (d_ #[a_ L n1 N,a_ O n2 P,a_ y3 n3 K] 33)=W:=⟨_,rfl⟩;rw[B] at R C ⊢
  obtain⟨q,hq⟩:∃ q,w2.heap.size=q:=⟨_,rfl⟩;rw[hq] at R aA ⊢
  clear B hq ae Q;have HO:=gg (R.low d.o.size);have am:=gg (gk C D.o);have an:=gg (gk C J.o);have BU:=gg C;have B2:=gg (gj d.o C);clear R C;have LG:gi ((km m h a (wrap32 n)).words.length=n1∧(km m h a (wrap32 n)).pend.length=n2∧(km m h a (wrap32 n)).res.length=n3):=gg ⟨by simp[km,ad.o],ah.o,by simp[km,yN,ac.o]⟩;obtain⟨⟨j,f,i⟩,_⟩:=iK an.o;have tx:=gn an.o;go_upto_region 9 with fail
  refine ov 5 ga ga ?_
  simp only[List.take_succ_cons,List.take_zero,List.drop_succ_cons,List.drop_zero];have p0:=fun x=>gD tx j x
  have p1:=fun x=>gD tx f x
  have p2:=fun x=>gD tx i x
  clear j f i;repeat(go_big_quiet_step ((go_at_call 95;with_reducible exact oA (gI n _ HI.o))))
  refine wpQuiet_nil ?_
  rintro w5 ⟨⟨aZ,aj⟩,rfl⟩;clear p0 p1 p2;have a4:=gg (gk aj an.o);have aG:=gg (gk aj am.o);have B5:=gg (gj B2.o aj);have ay:=gg (gk aj HO.o.at_);clear aj an am B2 HO
  go_wp2_with fail
  refine(lQ _ m h a (wrap32 n) _ (HM.o.below B5.o) HS.o ⟨h3,by rw[ad.o];exact h4⟩).mono ?_
  rintro e w6 ⟨q6,Z,ab,X,aa,al,S,a5,rfl,ao,ap⟩;rw[LG.o.1,LG.o.2.1,LG.o.2.2] at ao ⊢
  have aE:=gg (gk ap aG.o);have ag:=gg (gk ap ay.o);have B6:=gg (gj B5.o ap);have a0:w5.heap.size≤q6:=ao.base;have aX:=gn ay.o;have O6:=gg (ao.low B5.o.size);clear ao ap ay aG B5;obtain⟨⟨j,f,i⟩,f0,f1,f2⟩:=iK ag.o;have tq:=gn ag.o;have O7:=gg ((O6.o.set3 (a_ Z n1 ab) (a_ X n2 aa) (a_ al n3 S) ag.o f_).move (jT (x:=a_ Z n1 ab) (y:=a_ X n2 aa) (z:=a_ al n3 S) ag.o).1 f_ fK);have Q7:gi ((((w6.setCell ⟨q,0,none⟩ (a_ Z n1 ab)).setCell ⟨q,1,none⟩ (a_ X n2 aa)).setCell ⟨q,2,none⟩ (a_ al n3 S)).heap[w.heap.size+1]? = some mh):=gg (((jT ag.o).2 _ f_).trans aE.o);have B7:=gg (kt (x:=a_ Z n1 ab) (y:=a_ X n2 aa) (z:=a_ al n3 S) B6.o (by omega:w.heap.size≤q));go_upto_region 10 with fail
  obtain⟨W7,B⟩:∃ W',((w6.setCell ⟨q,0,none⟩ (a_ Z n1 ab)).setCell ⟨q,1,none⟩ (a_ X n2 aa)).setCell ⟨q,2,none⟩ (a_ al n3 S)=W':=⟨_,rfl⟩;rw[B] at O7 Q7 B7 ⊢
  clear B j f i f0 f1 f2 tq O6 aE ag B6;have A:=O7.o.res;rw[LG.o.2.2] at A;obtain⟨g,cg,e9,aS,aB⟩:=pB A f_;injection e9 with e9 e8 e6
  subst e9 e6;clear e8;unfold maxLen at aB;obtain⟨xr,ak⟩:∃ x,(km m h a (wrap32 n)).res[h.toNat]? = some x:=⟨_,fQ (by rw[LG.o.2.2];omega)⟩;obtain⟨vg,av⟩:=tD (k:=h.toNat) (u:=b_ c_ xr) A (by unfold gz;rw[List.getElem?_map,ak];rfl);obtain⟨⟨m0,Y,T⟩,_⟩:=iK O7.o.at_;have H:=gn O7.o.at_;have tg:=(A.lt g rfl).2;have H3:=gg (O7.o.setResv fZ rfl h.toNat (-1));have R3:gi ((W7.setCell ⟨g,h.toNat,none⟩ (b_ c_ (-1))).heap[w.heap.size+1]? = some mh):=gg (jF A rfl Q7.o fZ);have aq:w.heap.size≤g:=(A.lt g rfl).1;have B3:gi (Up w (W7.setCell ⟨g,h.toNat,none⟩ (b_ c_ (-1)))):=gg (gO B7.o aq _);go_upto_region 11 with fail
  obtain⟨W3,B⟩:∃ W',W7.setCell ⟨g,h.toNat,none⟩ (b_ c_ (-1))=W':=⟨_,rfl⟩;rw[B] at H3 R3 B3 ⊢
  clear B m0 Y T H tg vg av O7 Q7 A B7 ak;obtain⟨⟨m0,Y,T⟩,_⟩:=iK H3.o.at_;have H:=gn H3.o.at_;refine ov 3 ga ga ?_
  simp only[List.take_succ_cons,List.take_zero,List.drop_succ_cons,List.drop_zero];have p0:=fun x=>gD H m0 x
  have p1:=fun x=>gD H Y x
  have p2:=fun x=>gD H T x
  clear m0 Y T;repeat(go_big_quiet_step (fail))
  refine wpQuiet_nil ?_
  rintro w9 ⟨⟨aL,U⟩,rfl⟩;have au:=gg (H3.o.below U);have V:=gg (gk U R3.o);have ax:=gg (gj B3.o U);clear p0 p1 p2 U;obtain⟨⟨aJ,aT,aO⟩,aM,aU,aR⟩:=iK V.o;have aK:=gn V.o
  go_wp2_with fail
  obtain⟨j,f,i⟩:=iv (jT (x:=a_ Z n1 ab) (y:=a_ X n2 aa) (z:=a_ (some ⟨g,0,none⟩) n3 S) V.o).1;have aw:=gg (pJ (a_ Z n1 ab) (a_ X n2 aa) (a_ (some ⟨g,0,none⟩) n3 S) au.o.isMem V.o);have BW:=gg (kt (x:=a_ Z n1 ab) (y:=a_ X n2 aa) (z:=a_ (some ⟨g,0,none⟩) n3 S) ax.o (by omega:w.heap.size≤w.heap.size+1));exact bodyPost_ret (v:=fI #[fJ true,e_ #[a_ Z n1 ab,a_ X n2 aa,a_ (some ⟨g,0,none⟩) n3 S],b_ c_ 0]) (by simp[results,Tryz.results136,go_sem,j,f,i]) rfl ⟨_,rfl,aw.o,BW.o⟩
theorem qB v m h a op n w (J:gM w v m) (hs:jC m) (hn:iy n) (aA:iy (kQ m a)) :
 Calls gd 137 #[v,b_ c_ h,b_ c_ a,b_ c_ op,b_ c_ n] w (tF w w.heap.size (b_ c_ (ml m h a op n).1) (ml m h a op n).2):=by
 have Y:=gg J;have HS:=gg hs;have HI:=gg hn;have az:=gg aA;obtain⟨a1,c1,a2,b,a3,c3,rows,rfl,_,_,_,_⟩:=J.parts;clear hs hn aA;unfold tF;cases hh:jm m h a
 case false=>
  have E:=gg (show ml m h a op n=(0,lY,1) by unfold ml rq;rw[pi hh];split <;> rfl);rw[E.o];have H:=gg hh;clear hh J;generalize B:m.words.length=n1 at *
  generalize A:m.pend.length=n2 at *
  generalize u:m.res.length=n3 at *
  have M:=gg B;have ac:=gg A;have ad:=gg u;clear B A u;go_enter Tryz.func137,Tryz.ntmps137
  go_wp2_with fail
  have k:=gj (gr w (d_ #[a_ a1 n1 c1,a_ a2 n2 b,a_ a3 n3 c3] 33)) (gr (w.alloc (d_ #[a_ a1 n1 c1,a_ a2 n2 b,a_ a3 n3 c3] 33)) (d_ #[a_ none 0 0,a_ none 0 0,a_ none 0 0] 33));have t:=gk (gr (w.alloc (d_ #[a_ a1 n1 c1,a_ a2 n2 b,a_ a3 n3 c3] 33)) (d_ #[a_ none 0 0,a_ none 0 0,a_ none 0 0] 33)) (gH w (d_ #[a_ a1 n1 c1,a_ a2 n2 b,a_ a3 n3 c3] 33));have l:=gH (w.alloc (d_ #[a_ a1 n1 c1,a_ a2 n2 b,a_ a3 n3 c3] 33)) (d_ #[a_ none 0 0,a_ none 0 0,a_ none 0 0] 33);rw[World.size_alloc] at l;refine(g9 _ m h a false _ (Y.o.below k) H.o).mono ?_
  rintro e w1 ⟨rfl,f⟩;have s:gi (w1.heap[w.heap.size+1]? = some mh):=gg (gk f l);have C:=gg (gk f t);have r:=gg (gj k f);clear k t l f;obtain⟨⟨q,o,p⟩,f0,f1,f2⟩:=iK s.o;have tq:=gn s.o;obtain⟨s0,s1,s2⟩:=iv (jT (x:=a_ none 0 0) (y:=a_ none 0 0) (z:=a_ none 0 0) s.o).1
  go_wp2_with fail
  exact bodyPost_ret (v:=fI #[b_ c_ 0,e_ #[a_ none 0 0,a_ none 0 0,a_ none 0 0],b_ c_ 1]) (by simp[results,Tryz.results137,go_sem,s0,s1,s2]) rfl ⟨_,rfl,lX _,kt r.o f_⟩
 case true=>
  obtain⟨h0,h1,h2,h3,h4⟩:=uN hh;obtain⟨g,j,ar,aQ,aC,e0,e1,e2,e3,aB,_⟩:=J.row h1 h0;obtain⟨d,c,aH,aL,aS,aR,aJ,ay⟩:=J.word h3 h4;subst aC aH;have H:=gg hh;have Z:=gg (show hZ w g (j+h.toNat) _ from⟨e3,aB⟩);have al:=gg (show hZ w d (c+a.toNat) _ from⟨aJ,ay⟩);clear e0 aL aB ay e3;by_cases G:op=0
  rotate_left
  by_cases K:yG op=0
  · have E:=gg (show ml m h a op n=(0,lY,1) by have ce:rq m h a op=1:=(by unfold rq;rw[if_pos ⟨G,K⟩]);unfold ml;rw[ce];rfl)
    rw[E.o];have ob:(op != 0)=true:=by simp[G]
    have aw:=gg K;clear J G K;generalize B:m.words.length=n1 at *
    generalize A:m.pend.length=n2 at *
    generalize u:m.res.length=n3 at *
    have M:=gg B;have ac:=gg A;have ad:=gg u;clear B A u;go_enter Tryz.func137,Tryz.ntmps137
    go_wp2_with fail
    have k:=gj (gr w (d_ #[a_ (some ⟨d,c,none⟩) n1 c1,a_ (some ⟨g,j,none⟩) n2 b,a_ a3 n3 c3] 33)) (gr (w.alloc (d_ #[a_ (some ⟨d,c,none⟩) n1 c1,a_ (some ⟨g,j,none⟩) n2 b,a_ a3 n3 c3] 33)) (d_ #[a_ none 0 0,a_ none 0 0,a_ none 0 0] 33));have t:=gk (gr (w.alloc (d_ #[a_ (some ⟨d,c,none⟩) n1 c1,a_ (some ⟨g,j,none⟩) n2 b,a_ a3 n3 c3] 33)) (d_ #[a_ none 0 0,a_ none 0 0,a_ none 0 0] 33)) (gH w (d_ #[a_ (some ⟨d,c,none⟩) n1 c1,a_ (some ⟨g,j,none⟩) n2 b,a_ a3 n3 c3] 33));have l:=gH (w.alloc (d_ #[a_ (some ⟨d,c,none⟩) n1 c1,a_ (some ⟨g,j,none⟩) n2 b,a_ a3 n3 c3] 33)) (d_ #[a_ none 0 0,a_ none 0 0,a_ none 0 0] 33);rw[World.size_alloc] at l;refine(g9 _ m h a true _ (Y.o.below k) H.o).mono ?_
    rintro e w1 ⟨rfl,f⟩;have s:gi (w1.heap[w.heap.size+1]? = some mh):=gg (gk f l);have C:=gg (gk f t);have r:=gg (gj k f);clear k t l f
    go_wp2_with fail
    refine(mf op _).mono ?_
    rintro e w2 ⟨rfl,F⟩;have P:=gg (gk F s.o);have ae:=gg (gk F C.o);have S:=gg (gj r.o F);clear F s C r;rw[aw.o];obtain⟨⟨q,o,p⟩,f0,f1,f2⟩:=iK P.o;have tq:=gn P.o;obtain⟨s0,s1,s2⟩:=iv (jT (x:=a_ none 0 0) (y:=a_ none 0 0) (z:=a_ none 0 0) P.o).1
    go_wp2_with fail
    exact bodyPost_ret (v:=fI #[b_ c_ 0,e_ #[a_ none 0 0,a_ none 0 0,a_ none 0 0],b_ c_ 1]) (by simp[results,Tryz.results137,go_sem,s0,s1,s2]) rfl ⟨_,rfl,lX _,kt S.o f_⟩
  · have L:gi (rq m h a op=lu m h a):=gg (by unfold rq;rw[if_neg (fun e=>K e.2)])
    by_cases hl:(iA m h).length=0
    rotate_left
    · have E:=gg (show ml m h a op n=(0,lY,92) by unfold ml;rw[L.o,lP H.o hl];rfl)
      rw[E.o];have ob:(op != 0)=true:=by simp[G]
      have lb:(yG op == 0)=false:=by simp[K]
      have aK:=gg G;have aw:=gg K;clear G K;clear J E L;obtain⟨ln,ah⟩:∃ ln,(iA m h).length=ln:=⟨_,rfl⟩;rw[ah] at Z hl;clear ah;generalize B:m.words.length=n1 at *
      generalize A:m.pend.length=n2 at *
      generalize u:m.res.length=n3 at *
      have M:=gg B;have ac:=gg A;have ad:=gg u;clear B A u;go_enter Tryz.func137,Tryz.ntmps137
      go_wp2_with fail
      have k:=gj (gr w (d_ #[a_ (some ⟨d,c,none⟩) n1 c1,a_ (some ⟨g,j,none⟩) n2 b,a_ a3 n3 c3] 33)) (gr (w.alloc (d_ #[a_ (some ⟨d,c,none⟩) n1 c1,a_ (some ⟨g,j,none⟩) n2 b,a_ a3 n3 c3] 33)) (d_ #[a_ none 0 0,a_ none 0 0,a_ none 0 0] 33));have t:=gk (gr (w.alloc (d_ #[a_ (some ⟨d,c,none⟩) n1 c1,a_ (some ⟨g,j,none⟩) n2 b,a_ a3 n3 c3] 33)) (d_ #[a_ none 0 0,a_ none 0 0,a_ none 0 0] 33)) (gH w (d_ #[a_ (some ⟨d,c,none⟩) n1 c1,a_ (some ⟨g,j,none⟩) n2 b,a_ a3 n3 c3] 33));have l:=gH (w.alloc (d_ #[a_ (some ⟨d,c,none⟩) n1 c1,a_ (some ⟨g,j,none⟩) n2 b,a_ a3 n3 c3] 33)) (d_ #[a_ none 0 0,a_ none 0 0,a_ none 0 0] 33);rw[World.size_alloc] at l;refine(g9 _ m h a true _ (Y.o.below k) H.o).mono ?_
      rintro e w1 ⟨rfl,f⟩;have s:gi (w1.heap[w.heap.size+1]? = some mh):=gg (gk f l);have C:=gg (gk f t);have r:=gg (gj k f);clear k t l f
      go_wp2_with fail
      refine(mf op _).mono ?_
      rintro e w2 ⟨rfl,F⟩;have P:=gg (gk F s.o);have ae:=gg (gk F C.o);have S:=gg (gj r.o F);clear F s C r;obtain⟨⟨q,o,p⟩,_⟩:=iK ae.o;have D:=gn ae.o;obtain⟨tr,vr⟩:=Z.o.up S.o;obtain⟨tw,vw⟩:=al.o.up S.o;have aG:0<ln:=by omega
      have HL:=gg hl;clear hl
      go_upto_if 37 with fail
      clear q o p;obtain⟨⟨q,o,p⟩,f0,f1,f2⟩:=iK P.o;have tq:=gn P.o;obtain⟨s0,s1,s2⟩:=iv (jT (x:=a_ none 0 0) (y:=a_ none 0 0) (z:=a_ none 0 0) P.o).1
      go_wp2_with fail
      exact bodyPost_ret (v:=fI #[b_ c_ 0,e_ #[a_ none 0 0,a_ none 0 0,a_ none 0 0],b_ c_ 92]) (by simp[results,Tryz.results137,go_sem,s0,s1,s2]) rfl ⟨_,rfl,lX _,kt S.o f_⟩
    have E:=gg (show ml m h a op n=(kQ m a,km m h a (sJ op (kQ m a) n),0) by unfold ml;rw[L.o,lN H.o hl];rfl);rw[E.o];have CN:gi (sJ op (kQ m a) n=gY op (kQ m a) n):=gg (by unfold sJ;rw[if_neg G]);rw[CN.o];rw[hl] at Z;clear J hl L E CN;generalize kQ m a=wd at *
    have ob:(op != 0)=true:=by simp[G]
    have lb:(yG op == 0)=false:=by simp[K]
    have aK:=gg G;have aw:=gg K;clear G K;generalize B:m.words.length=n1 at *
    generalize A:m.pend.length=n2 at *
    generalize u:m.res.length=n3 at *
    have M:=gg B;have ac:=gg A;have ad:=gg u;clear B A u;go_enter Tryz.func137,Tryz.ntmps137
    go_wp2_with fail
    have k:=gj (gr w (d_ #[a_ (some ⟨d,c,none⟩) n1 c1,a_ (some ⟨g,j,none⟩) n2 b,a_ a3 n3 c3] 33)) (gr (w.alloc (d_ #[a_ (some ⟨d,c,none⟩) n1 c1,a_ (some ⟨g,j,none⟩) n2 b,a_ a3 n3 c3] 33)) (d_ #[a_ none 0 0,a_ none 0 0,a_ none 0 0] 33));have t:=gk (gr (w.alloc (d_ #[a_ (some ⟨d,c,none⟩) n1 c1,a_ (some ⟨g,j,none⟩) n2 b,a_ a3 n3 c3] 33)) (d_ #[a_ none 0 0,a_ none 0 0,a_ none 0 0] 33)) (gH w (d_ #[a_ (some ⟨d,c,none⟩) n1 c1,a_ (some ⟨g,j,none⟩) n2 b,a_ a3 n3 c3] 33));have l:=gH (w.alloc (d_ #[a_ (some ⟨d,c,none⟩) n1 c1,a_ (some ⟨g,j,none⟩) n2 b,a_ a3 n3 c3] 33)) (d_ #[a_ none 0 0,a_ none 0 0,a_ none 0 0] 33);rw[World.size_alloc] at l;refine(g9 _ m h a true _ (Y.o.below k) H.o).mono ?_
    rintro e w1 ⟨rfl,f⟩;have s:gi (w1.heap[w.heap.size+1]? = some mh):=gg (gk f l);have C:=gg (gk f t);have r:=gg (gj k f);clear k t l f
    go_wp2_with fail
    refine(mf op _).mono ?_
    rintro e w2 ⟨rfl,F⟩;have P:=gg (gk F s.o);have ae:=gg (gk F C.o);have S:=gg (gj r.o F);clear F s C r;obtain⟨⟨q,o,p⟩,_⟩:=iK ae.o;have D:=gn ae.o;obtain⟨tr,vr⟩:=Z.o.up S.o;obtain⟨tw,vw⟩:=al.o.up S.o;have LG:gi (∀ x,(km m h a x).words.length=n1∧(km m h a x).pend.length=n2∧(km m h a x).res.length=n3):=gg (fun x=>⟨by simp[km,M.o],ac.o,by simp[km,yN,ad.o]⟩);go_upto_region 9 with(first|(go_at_call 95;(with_reducible refine(gI n _ HI.o).mono ?_);rintro e w' ⟨rfl,rfl⟩)|(go_at_call 99;(with_reducible refine(iw op wd n _ az.o HI.o).mono ?_);rintro e w' ⟨rfl,rfl⟩))
    clear q o p tr vr D;have XW:=gg (show hZ _ _ _ _ from⟨tw,vw⟩);clear tw vw;refine fY (fun w'=>w'.heap[w.heap.size]? = some (d_ #[a_ (some ⟨d,c,none⟩) n1 c1,a_ (some ⟨g,j,none⟩) n2 b,a_ a3 n3 c3] 33 (0,0))∧hZ w' d (c+a.toNat) (b_ c_ wd)) 11 [true,true,true,true,true,true,true,true,true] (fun _ _ h hu=>⟨gk hu h.1,h.2.up hu⟩) ⟨ae.o,XW.o⟩ ?ra2x ?rh2x ?rt2x
    case rh2x=>
     intro w0 ⟨hc,hd⟩;obtain⟨⟨q,o,p⟩,_⟩:=iK hc;have D:=gn hc;have p0:=fun x=>gD D q x
     have p1:=fun x=>gD D o x
     have p2:=fun x=>gD D p x
     have p3:=fun x=>gD hd.1 hd.2 x
     clear q o p hc hd D;simp only[jd];repeat(go_big_quiet_step (fail))
     refine wpQuiet_nil ?_
     rfl
    case rt2x=>
    change kD _ _ _ _ _ _ 2 _ _ _;refine jQ (i:=9) ga fZ rfl ?_
    intro w5 ag aj;have aa:=nE ag;have af:=gg aj;have ak:=gg (gk aa P.o);have B5:=gg (gj S.o aa);clear aa ag aj
    go_wp2_with fail
    refine(lQ _ m h a (gY op wd n) _ (Y.o.below B5.o) HS.o ⟨h3,by rw[M.o];exact h4⟩).mono ?_
    rintro e w6 ⟨q6,R,U,V,X,N,Q,aO,rfl,ab,I⟩;rw[(LG.o _).1,(LG.o _).2.1,(LG.o _).2.2] at ab ⊢
    have ao:=gg (gk I ak.o);have B6:=gg (gj B5.o I);have au:=gg ab;have ax:=gg (And.intro (gk I af.o.1) (af.o.2.up I));clear ab I ak B5 af
    go_wp2_with fail
    refine⟨ax.o,?_⟩;refine jQ (i:=10) ga fZ rfl ?_
    intro w7 W ai;have ap:=gg (gk W ao.o);have B7:=gg (gj B6.o W);have am:=gg (au.o.below W);clear W
    go_wp2_with fail
    refine⟨ai,?_⟩;clear ai;refine lR ga ?_
    intro w8 T _;have O:=gg (gk T ap.o);have av:=gg (gj B7.o T);have an:=gg (am.o.below T);clear T;simp only[List.drop_succ_cons,List.drop_zero];obtain⟨⟨aD,aN,aI⟩,aF,aP,aM⟩:=iK O.o;have aE:=gn O.o
    go_wp2_with fail
    obtain⟨q,o,p⟩:=iv (jT (x:=a_ R n1 U) (y:=a_ V n2 X) (z:=a_ N n3 Q) O.o).1;have aq:=gg (pJ (a_ R n1 U) (a_ V n2 X) (a_ N n3 Q) an.o.isMem O.o);have BW:=gg (kt (x:=a_ R n1 U) (y:=a_ V n2 X) (z:=a_ N n3 Q) av.o (by omega:w.heap.size≤w.heap.size+1));exact bodyPost_ret (v:=fI #[b_ c_ wd,e_ #[a_ R n1 U,a_ V n2 X,a_ N n3 Q],b_ c_ 0]) (by simp[results,Tryz.results137,go_sem,q,o,p]) rfl ⟨_,rfl,aq.o,BW.o⟩
  have L:gi (rq m h a op=lu m h a):=gg (by unfold rq;rw[if_neg (fun e=>e.1 G)]);by_cases hl:(iA m h).length=0
  rotate_left
  · have E:=gg (show ml m h a op n=(0,lY,92) by unfold ml;rw[L.o,lP H.o hl];rfl)
    rw[E.o];subst G;clear J E L;obtain⟨ln,ah⟩:∃ ln,(iA m h).length=ln:=⟨_,rfl⟩;rw[ah] at Z hl;clear ah;generalize B:m.words.length=n1 at *
    generalize A:m.pend.length=n2 at *
    generalize u:m.res.length=n3 at *
    have M:=gg B;have ac:=gg A;have ad:=gg u;clear B A u;go_enter Tryz.func137,Tryz.ntmps137
    go_wp2_with fail
    have k:=gj (gr w (d_ #[a_ (some ⟨d,c,none⟩) n1 c1,a_ (some ⟨g,j,none⟩) n2 b,a_ a3 n3 c3] 33)) (gr (w.alloc (d_ #[a_ (some ⟨d,c,none⟩) n1 c1,a_ (some ⟨g,j,none⟩) n2 b,a_ a3 n3 c3] 33)) (d_ #[a_ none 0 0,a_ none 0 0,a_ none 0 0] 33));have t:=gk (gr (w.alloc (d_ #[a_ (some ⟨d,c,none⟩) n1 c1,a_ (some ⟨g,j,none⟩) n2 b,a_ a3 n3 c3] 33)) (d_ #[a_ none 0 0,a_ none 0 0,a_ none 0 0] 33)) (gH w (d_ #[a_ (some ⟨d,c,none⟩) n1 c1,a_ (some ⟨g,j,none⟩) n2 b,a_ a3 n3 c3] 33));have l:=gH (w.alloc (d_ #[a_ (some ⟨d,c,none⟩) n1 c1,a_ (some ⟨g,j,none⟩) n2 b,a_ a3 n3 c3] 33)) (d_ #[a_ none 0 0,a_ none 0 0,a_ none 0 0] 33);rw[World.size_alloc] at l;refine(g9 _ m h a true _ (Y.o.below k) H.o).mono ?_
    rintro e w1 ⟨rfl,f⟩;have s:gi (w1.heap[w.heap.size+1]? = some mh):=gg (gk f l);have C:=gg (gk f t);have r:=gg (gj k f);clear k t l f;obtain⟨⟨q,o,p⟩,_⟩:=iK C.o;have D:=gn C.o;obtain⟨tr,vr⟩:=Z.o.up r.o;obtain⟨tw,vw⟩:=al.o.up r.o;have aG:0<ln:=by omega
    have HL:=gg hl;clear hl
    go_upto_if 37 with fail
    clear q o p;obtain⟨⟨q,o,p⟩,f0,f1,f2⟩:=iK s.o;have tq:=gn s.o;obtain⟨s0,s1,s2⟩:=iv (jT (x:=a_ none 0 0) (y:=a_ none 0 0) (z:=a_ none 0 0) s.o).1
    go_wp2_with fail
    exact bodyPost_ret (v:=fI #[b_ c_ 0,e_ #[a_ none 0 0,a_ none 0 0,a_ none 0 0],b_ c_ 92]) (by simp[results,Tryz.results137,go_sem,s0,s1,s2]) rfl ⟨_,rfl,lX _,kt r.o f_⟩
  have E:=gg (show ml m h a op n=(kQ m a,km m h a (sJ op (kQ m a) n),0) by unfold ml;rw[L.o,lN H.o hl];rfl);rw[E.o];have CN:gi (sJ op (kQ m a) n=wrap32 n):=gg (by unfold sJ;rw[if_pos G]);rw[CN.o];rw[hl] at Z;clear J hl L E CN;generalize kQ m a=wd at *
  subst G;generalize B:m.words.length=n1 at *
  generalize A:m.pend.length=n2 at *
  generalize u:m.res.length=n3 at *
  have M:=gg B;have ac:=gg A;have ad:=gg u;clear B A u;go_enter Tryz.func137,Tryz.ntmps137
  go_wp2_with fail
  have k:=gj (gr w (d_ #[a_ (some ⟨d,c,none⟩) n1 c1,a_ (some ⟨g,j,none⟩) n2 b,a_ a3 n3 c3] 33)) (gr (w.alloc (d_ #[a_ (some ⟨d,c,none⟩) n1 c1,a_ (some ⟨g,j,none⟩) n2 b,a_ a3 n3 c3] 33)) (d_ #[a_ none 0 0,a_ none 0 0,a_ none 0 0] 33));have t:=gk (gr (w.alloc (d_ #[a_ (some ⟨d,c,none⟩) n1 c1,a_ (some ⟨g,j,none⟩) n2 b,a_ a3 n3 c3] 33)) (d_ #[a_ none 0 0,a_ none 0 0,a_ none 0 0] 33)) (gH w (d_ #[a_ (some ⟨d,c,none⟩) n1 c1,a_ (some ⟨g,j,none⟩) n2 b,a_ a3 n3 c3] 33));have l:=gH (w.alloc (d_ #[a_ (some ⟨d,c,none⟩) n1 c1,a_ (some ⟨g,j,none⟩) n2 b,a_ a3 n3 c3] 33)) (d_ #[a_ none 0 0,a_ none 0 0,a_ none 0 0] 33);rw[World.size_alloc] at l;refine(g9 _ m h a true _ (Y.o.below k) H.o).mono ?_
  rintro e w1 ⟨rfl,f⟩;have s:gi (w1.heap[w.heap.size+1]? = some mh):=gg (gk f l);have C:=gg (gk f t);have r:=gg (gj k f);clear k t l f;obtain⟨⟨q,o,p⟩,_⟩:=iK C.o;have D:=gn C.o;obtain⟨tr,vr⟩:=Z.o.up r.o;obtain⟨tw,vw⟩:=al.o.up r.o;have LG:gi (∀ x,(km m h a x).words.length=n1∧(km m h a x).pend.length=n2∧(km m h a x).res.length=n3):=gg (fun x=>⟨by simp[km,M.o],ac.o,by simp[km,yN,ad.o]⟩);go_upto_region 9 with(first|(go_at_call 95;(with_reducible refine(gI n _ HI.o).mono ?_);rintro e w' ⟨rfl,rfl⟩)|(go_at_call 99;(with_reducible refine(iw op wd n _ az.o HI.o).mono ?_);rintro e w' ⟨rfl,rfl⟩))
  clear q o p tr vr D;have XW:=gg (show hZ _ _ _ _ from⟨tw,vw⟩);clear tw vw;refine fY (fun w'=>w'.heap[w.heap.size]? = some (d_ #[a_ (some ⟨d,c,none⟩) n1 c1,a_ (some ⟨g,j,none⟩) n2 b,a_ a3 n3 c3] 33 (0,0))∧hZ w' d (c+a.toNat) (b_ c_ wd)) 11 [true,true,true,true,true,true,true,true,true] (fun _ _ h hu=>⟨gk hu h.1,h.2.up hu⟩) ⟨C.o,XW.o⟩ ?ra1x ?rh1x ?rt1x
  case rh1x=>
   intro w0 ⟨hc,hd⟩;obtain⟨⟨q,o,p⟩,_⟩:=iK hc;have D:=gn hc;have p0:=fun x=>gD D q x
   have p1:=fun x=>gD D o x
   have p2:=fun x=>gD D p x
   have p3:=fun x=>gD hd.1 hd.2 x
   clear q o p hc hd D;simp only[jd];repeat(go_big_quiet_step (fail))
   refine wpQuiet_nil ?_
   rfl
  case rt1x=>
  change kD _ _ _ _ _ _ 2 _ _ _;refine jQ (i:=9) ga fZ rfl ?_
  intro w5 ag aj;have aa:=nE ag;have af:=gg aj;have ak:=gg (gk aa s.o);have B5:=gg (gj r.o aa);clear aa ag aj
  go_wp2_with fail
  refine(lQ _ m h a (wrap32 n) _ (Y.o.below B5.o) HS.o ⟨h3,by rw[M.o];exact h4⟩).mono ?_
  rintro e w6 ⟨q6,R,U,V,X,N,Q,aO,rfl,ab,I⟩;rw[(LG.o _).1,(LG.o _).2.1,(LG.o _).2.2] at ab ⊢
  have ao:=gg (gk I ak.o);have B6:=gg (gj B5.o I);have au:=gg ab;have ax:=gg (And.intro (gk I af.o.1) (af.o.2.up I));clear ab I ak B5 af
  go_wp2_with fail
  refine⟨ax.o,?_⟩;refine jQ (i:=10) ga fZ rfl ?_
  intro w7 W ai;have ap:=gg (gk W ao.o);have B7:=gg (gj B6.o W);have am:=gg (au.o.below W);clear W
  go_wp2_with fail
  refine⟨ai,?_⟩;clear ai;refine lR ga ?_
  intro w8 T _;have O:=gg (gk T ap.o);have av:=gg (gj B7.o T);have an:=gg (am.o.below T);clear T;simp only[List.drop_succ_cons,List.drop_zero];obtain⟨⟨aD,aN,aI⟩,aF,aP,aM⟩:=iK O.o;have aE:=gn O.o
  go_wp2_with fail
  obtain⟨q,o,p⟩:=iv (jT (x:=a_ R n1 U) (y:=a_ V n2 X) (z:=a_ N n3 Q) O.o).1;have aq:=gg (pJ (a_ R n1 U) (a_ V n2 X) (a_ N n3 Q) an.o.isMem O.o);have BW:=gg (kt (x:=a_ R n1 U) (y:=a_ V n2 X) (z:=a_ N n3 Q) av.o (by omega:w.heap.size≤w.heap.size+1));exact bodyPost_ret (v:=fI #[b_ c_ wd,e_ #[a_ R n1 U,a_ V n2 X,a_ N n3 Q],b_ c_ 0]) (by simp[results,Tryz.results137,go_sem,q,o,p]) rfl ⟨_,rfl,aq.o,BW.o⟩
end
section
open Go.RowKit
set_option maxRecDepth 100000
theorem vQ {α:Type} (l:List α) k (a:k<l.length):(l.take (k+1)).eraseIdx k=(l.take k).eraseIdx k:=by
 rw[List.eraseIdx_of_length_le (l:=l.take k) (by simp;omega),fP a,List.eraseIdx_append_of_length_le (by simp;omega)];simp[show min k l.length=k by omega]
theorem vR {α:Type} (l:List α) k j {x} (b:l[j]? = some x) (c:j≠k):(l.take (j+1)).eraseIdx k=(l.take j).eraseIdx k ++ [x]:=by
 obtain⟨a,rfl⟩:=fR b;rw[fP a];by_cases h:k<j
 · rw[List.eraseIdx_append_of_lt_length (by simp;omega)]
 · rw[List.eraseIdx_append_of_length_le (by simp;omega)]
   rw[List.eraseIdx_of_length_le (l:=l.take j) (by simp;omega)];congr 1;rw[show (l.take j).length=j by simp;omega];rw[List.eraseIdx_of_length_le (by simp;omega)]
theorem vY {w w'} (a:Up w w') (row):w.grownBy w' row:=⟨a.os,a.tape,a.output,a.size,fun b h _=>a.block b h⟩
theorem tW (w:World) (c b):∀ j u,(gW [(c,b)])[j]? = some u→(w.alloc (d_ #[b_ c_ c,b_ c_ b] 127)).cell? ((⟨w.heap.size,0,none⟩:Addr).add j)=some u:=fun j u a=>by
 rw[kx];have d:=(fR a).1;simp only[gW,List.length_cons,List.length_nil] at d;rcases(by omega:j=0∨j=1) with rfl|rfl
 · simp[gW] at a;subst a;exact gv (gH w _) rfl
 · simp[gW] at a;subst a;exact gv (gH w _) rfl
theorem tU {m h k} (a:m6 m h=false):mV m h k=(lY,1):=by unfold mV;rw[a];rfl
theorem tV {m} {h k:Int} (a:¬ (0≤k∧k<(iA m h).length)):mV m h k=(lY,1):=by
 unfold mV;rw[if_neg];simp only[Bool.and_eq_true,decide_eq_true_eq];exact fun e=>a e.2
theorem vL {m h} {k:Nat} {x} (b:m6 m h=true) (f:(iA m h)[k]? = some x) :
 mV m h k=if 0≤x.1∧x.1<m.words.length then (if mJ ((iA m h).take k) x.1 then (lY,91) else (AZ (km m h x.1 x.2) h ((iA m h).eraseIdx k),0)) else (lY,1):=by
 obtain⟨d,rfl⟩:=fR f;have a:(iA m h).getD k (0,0)=(iA m h)[k]:=by simp[List.getD,fQ d]
 unfold mV;rw[b,Bool.true_and,if_pos (by simp;omega)];simp only[Int.toNat_natCast];rw[a]
 have g:jm m h (iA m h)[k].1=decide (0≤(iA m h)[k].1∧(iA m h)[k].1<m.words.length):=by
  unfold jm;rw[b,Bool.true_and,Bool.decide_and]
 rw[g];have i:Er (iA m h) k=mJ ((iA m h).take k) (iA m h)[k].1:=by unfold Er mJ;rw[a]
 rw[i];have e:vk m h k=AZ (km m h (iA m h)[k].1 (iA m h)[k].2) h ((iA m h).eraseIdx k):=by unfold vk;rw[a]
 rw[e];by_cases c:0≤(iA m h)[k].1∧(iA m h)[k].1<m.words.length
 · rw[if_pos c,decide_eq_true c,if_pos rfl]
 · rw[if_neg c,decide_eq_false c];rfl
set_option maxRecDepth 100000 in
theorem rX v m h k w (hm:gM w v m) (hs:jC m) :
 Calls gd 49 #[v,b_ c_ h,b_ c_ k] w (oj w w.heap.size (mV m h k)):=by
 have HM:=gg hm;have HS:=gg hs;obtain⟨a1,c1,a2,f,a3,c3,rows,rfl,_,_,_,_⟩:=hm.parts;clear hs;unfold oj;cases hh:m6 m h
 case false=>
  rw[tU hh];have HH:=gg hh;clear hh hm;generalize ai:m.words.length=b at *
  generalize af:m.pend.length=n2 at *
  generalize ae:m.res.length=n3 at *
  have aC:=gg ai;have aQ:=gg af;have aR:=gg ae;clear ai af ae;go_enter Tryz.func49,Tryz.ntmps49
  go_wp2_with fail
  have E:=gj (gr w (d_ #[a_ a1 b c1,a_ a2 n2 f,a_ a3 n3 c3] 33)) (gr (w.alloc (d_ #[a_ a1 b c1,a_ a2 n2 f,a_ a3 n3 c3] 33)) (d_ #[a_ none 0 0,a_ none 0 0,a_ none 0 0] 33));have M:=gk (gr (w.alloc (d_ #[a_ a1 b c1,a_ a2 n2 f,a_ a3 n3 c3] 33)) (d_ #[a_ none 0 0,a_ none 0 0,a_ none 0 0] 33)) (gH w (d_ #[a_ a1 b c1,a_ a2 n2 f,a_ a3 n3 c3] 33));have F:=gH (w.alloc (d_ #[a_ a1 b c1,a_ a2 n2 f,a_ a3 n3 c3] 33)) (d_ #[a_ none 0 0,a_ none 0 0,a_ none 0 0] 33);rw[World.size_alloc] at F;refine(jy _ m h false _ (HM.o.below E) HH.o).mono ?_
  rintro e w1 ⟨rfl,l⟩;have G:gi (w1.heap[w.heap.size+1]? = some mh):=gg (gk l F);have I:=gg (gk l M);have C:=gg (gj E l);clear E M F l;obtain⟨⟨u,n,t⟩,f0,f1,f2⟩:=iK G.o;have tq:=gn G.o;obtain⟨X,Y,T⟩:=iv (jT (x:=a_ none 0 0) (y:=a_ none 0 0) (z:=a_ none 0 0) G.o).1
  go_wp2_with fail
  exact bodyPost_ret (v:=fI #[e_ #[a_ none 0 0,a_ none 0 0,a_ none 0 0],b_ c_ 1]) (by simp[results,Tryz.results49,go_sem,X,Y,T]) rfl ⟨_,rfl,lX _,kt C.o f_⟩
 case true=>
  obtain⟨h0,h1,h2⟩:=Ge hh;obtain⟨A,B,ar,bt,a8,e0,e1,e2,e3,a6,aZ⟩:=hm.row h1 h0;subst a8;have aX:(iA m h).length≤1000:=HS.o.each _ (List.mem_of_getElem? (yS h1 h0));have HH:=gg hh;have ad:=gg (show hZ w A (B+h.toNat) _ from⟨e3,a6⟩);have am:=gg aZ;clear e0 a6 e3 hh hm aZ;by_cases hk:0≤k∧k<(iA m h).length
  rotate_left
  · rw[tV hk]
    generalize hL:iA m h=L at *
    clear hL;generalize aq:L.length=ln at *
    clear aq am;generalize ai:m.words.length=b at *
    generalize af:m.pend.length=n2 at *
    generalize ae:m.res.length=n3 at *
    have aC:=gg ai;have aQ:=gg af;have aR:=gg ae;clear ai af ae;by_cases bp:0≤k
    · go_enter Tryz.func49,Tryz.ntmps49
      go_wp2_with fail
      have E:=gj (gr w (d_ #[a_ a1 b c1,a_ (some ⟨A,B,none⟩) n2 f,a_ a3 n3 c3] 33)) (gr (w.alloc (d_ #[a_ a1 b c1,a_ (some ⟨A,B,none⟩) n2 f,a_ a3 n3 c3] 33)) (d_ #[a_ none 0 0,a_ none 0 0,a_ none 0 0] 33));have M:=gk (gr (w.alloc (d_ #[a_ a1 b c1,a_ (some ⟨A,B,none⟩) n2 f,a_ a3 n3 c3] 33)) (d_ #[a_ none 0 0,a_ none 0 0,a_ none 0 0] 33)) (gH w (d_ #[a_ a1 b c1,a_ (some ⟨A,B,none⟩) n2 f,a_ a3 n3 c3] 33));have F:=gH (w.alloc (d_ #[a_ a1 b c1,a_ (some ⟨A,B,none⟩) n2 f,a_ a3 n3 c3] 33)) (d_ #[a_ none 0 0,a_ none 0 0,a_ none 0 0] 33);rw[World.size_alloc] at F;refine(jy _ m h true _ (HM.o.below E) HH.o).mono ?_
      rintro e w1 ⟨rfl,l⟩;have G:gi (w1.heap[w.heap.size+1]? = some mh):=gg (gk l F);have I:=gg (gk l M);have C:=gg (gj E l);clear E M F l;obtain⟨⟨u,n,t⟩,_⟩:=iK I.o;have H:=gn I.o;obtain⟨tr,vr⟩:=ad.o.up C.o;have bE:¬ k<(ln:Int):=fun e=>hk ⟨bp,e⟩
      clear hk
      go_upto_if 32 with fail
      clear u n t;obtain⟨⟨u,n,t⟩,f0,f1,f2⟩:=iK G.o;have tq:=gn G.o;obtain⟨X,Y,T⟩:=iv (jT (x:=a_ none 0 0) (y:=a_ none 0 0) (z:=a_ none 0 0) G.o).1
      go_wp2_with fail
      exact bodyPost_ret (v:=fI #[e_ #[a_ none 0 0,a_ none 0 0,a_ none 0 0],b_ c_ 1]) (by simp[results,Tryz.results49,go_sem,X,Y,T]) rfl ⟨_,rfl,lX _,kt C.o f_⟩
    · go_enter Tryz.func49,Tryz.ntmps49
      go_wp2_with fail
      have E:=gj (gr w (d_ #[a_ a1 b c1,a_ (some ⟨A,B,none⟩) n2 f,a_ a3 n3 c3] 33)) (gr (w.alloc (d_ #[a_ a1 b c1,a_ (some ⟨A,B,none⟩) n2 f,a_ a3 n3 c3] 33)) (d_ #[a_ none 0 0,a_ none 0 0,a_ none 0 0] 33));have M:=gk (gr (w.alloc (d_ #[a_ a1 b c1,a_ (some ⟨A,B,none⟩) n2 f,a_ a3 n3 c3] 33)) (d_ #[a_ none 0 0,a_ none 0 0,a_ none 0 0] 33)) (gH w (d_ #[a_ a1 b c1,a_ (some ⟨A,B,none⟩) n2 f,a_ a3 n3 c3] 33));have F:=gH (w.alloc (d_ #[a_ a1 b c1,a_ (some ⟨A,B,none⟩) n2 f,a_ a3 n3 c3] 33)) (d_ #[a_ none 0 0,a_ none 0 0,a_ none 0 0] 33);rw[World.size_alloc] at F;refine(jy _ m h true _ (HM.o.below E) HH.o).mono ?_
      rintro e w1 ⟨rfl,l⟩;have G:gi (w1.heap[w.heap.size+1]? = some mh):=gg (gk l F);have I:=gg (gk l M);have C:=gg (gj E l);clear E M F l;clear hk;obtain⟨⟨u,n,t⟩,f0,f1,f2⟩:=iK G.o;have tq:=gn G.o;obtain⟨X,Y,T⟩:=iv (jT (x:=a_ none 0 0) (y:=a_ none 0 0) (z:=a_ none 0 0) G.o).1
      go_wp2_with fail
      exact bodyPost_ret (v:=fI #[e_ #[a_ none 0 0,a_ none 0 0,a_ none 0 0],b_ c_ 1]) (by simp[results,Tryz.results49,go_sem,X,Y,T]) rfl ⟨_,rfl,lX _,kt C.o f_⟩
  obtain⟨c,rfl⟩:∃ c:Nat,k=c:=⟨k.toNat,by omega⟩;have aO:c<(iA m h).length:=by omega
  obtain⟨⟨a,J⟩,hx⟩:∃ x,(iA m h)[c]? = some x:=⟨_,fQ aO⟩;have DI:=gg (vL HH.o hx);rw[DI.o];clear DI;simp only;obtain⟨xb,xo,D,a5,bP,av,Z⟩:=jq am.o hx f_;subst D;simp only at av Z;have aT:=gg av;have aP:=gg Z;clear hk av Z;have bf:=gg (yS h1 h0);obtain⟨L,hL⟩:∃ L,iA m h=L:=⟨_,rfl⟩;rw[hL] at ad am aX aO hx a5 bf ⊢
  have bO:=gg hL;clear hL;obtain⟨ln,aq⟩:∃ ln,L.length=ln:=⟨_,rfl⟩;rw[aq] at ad am aX aO a5;have ao:=gg aq;have HX:=gg hx;clear aq hx;have bA:(c:Int)<(ln:Int):=by omega
  have bL:((ln:Int)≤(c:Int))=False:=by simp;omega
  generalize ai:m.words.length=b at *
  generalize af:m.pend.length=n2 at *
  generalize ae:m.res.length=n3 at *
  have aC:=gg ai;have aQ:=gg af;have aR:=gg ae;clear ai af ae;by_cases hc:0≤a∧a<(b:Int)
  rotate_left
  · rw[if_neg hc]
    go_enter Tryz.func49,Tryz.ntmps49
    go_wp2_with fail
    have E:=gj (gr w (d_ #[a_ a1 b c1,a_ (some ⟨A,B,none⟩) n2 f,a_ a3 n3 c3] 33)) (gr (w.alloc (d_ #[a_ a1 b c1,a_ (some ⟨A,B,none⟩) n2 f,a_ a3 n3 c3] 33)) (d_ #[a_ none 0 0,a_ none 0 0,a_ none 0 0] 33));have M:=gk (gr (w.alloc (d_ #[a_ a1 b c1,a_ (some ⟨A,B,none⟩) n2 f,a_ a3 n3 c3] 33)) (d_ #[a_ none 0 0,a_ none 0 0,a_ none 0 0] 33)) (gH w (d_ #[a_ a1 b c1,a_ (some ⟨A,B,none⟩) n2 f,a_ a3 n3 c3] 33));have F:=gH (w.alloc (d_ #[a_ a1 b c1,a_ (some ⟨A,B,none⟩) n2 f,a_ a3 n3 c3] 33)) (d_ #[a_ none 0 0,a_ none 0 0,a_ none 0 0] 33);rw[World.size_alloc] at F;refine(jy _ m h true _ (HM.o.below E) HH.o).mono ?_
    rintro e w1 ⟨rfl,l⟩;have G:gi (w1.heap[w.heap.size+1]? = some mh):=gg (gk l F);have I:=gg (gk l M);have C:=gg (gj E l);clear E M F l;obtain⟨⟨u,n,t⟩,_⟩:=iK I.o;have H:=gn I.o;obtain⟨tr,vr⟩:=ad.o.up C.o;obtain⟨ay,az⟩:=aT.o.up C.o;obtain⟨ax,aB⟩:=aP.o.up C.o;go_upto_region 5 with fail
    clear u n t H tr vr ay az ax aB;have R:=gH w1 (d_ #[b_ c_ a,b_ c_ J] 127);have N:=gr w1 (d_ #[b_ c_ a,b_ c_ J] 127);obtain⟨W,hW⟩:∃ W,w1.alloc (d_ #[b_ c_ a,b_ c_ J] 127)=W:=⟨_,rfl⟩;rw[hW] at R N ⊢
    obtain⟨q,Q⟩:∃ q,w1.heap.size=q:=⟨_,rfl⟩;have lq:w.heap.size+1<q:=by have:=gn G.o;omega
    have ab:gi (W.heap[w.heap.size+1]? = some mh):=gg (gk N G.o);have aa:=gg (gk N I.o);have B2:=gg (gj C.o N);rw[Q] at R ⊢
    have O:=gg R;clear hW N Q R G I C;have y1:W.cell? ⟨q,0,none⟩=some (b_ c_ a):=gv (j:=0) O.o rfl;have y2:W.cell? ⟨q,1,none⟩=some (b_ c_ J):=gv (j:=1) O.o rfl;have ty:=gn O.o;obtain⟨⟨u,n,t⟩,_⟩:=iK aa.o;have H:=gn aa.o;by_cases bi:0≤a
    · have hc1:¬ a<(b:Int):=fun e=>hc ⟨bi,e⟩
      clear hc
      go_upto_if 52 with fail
      clear u n t;obtain⟨⟨u,n,t⟩,f0,f1,f2⟩:=iK ab.o;have tq:=gn ab.o;obtain⟨X,Y,T⟩:=iv (jT (x:=a_ none 0 0) (y:=a_ none 0 0) (z:=a_ none 0 0) ab.o).1
      go_wp2_with fail
      exact bodyPost_ret (v:=fI #[e_ #[a_ none 0 0,a_ none 0 0,a_ none 0 0],b_ c_ 1]) (by simp[results,Tryz.results49,go_sem,X,Y,T]) rfl ⟨_,rfl,lX _,kt B2.o f_⟩
    · clear hc u n t
      obtain⟨⟨u,n,t⟩,f0,f1,f2⟩:=iK ab.o;have tq:=gn ab.o;obtain⟨X,Y,T⟩:=iv (jT (x:=a_ none 0 0) (y:=a_ none 0 0) (z:=a_ none 0 0) ab.o).1
      go_wp2_with fail
      exact bodyPost_ret (v:=fI #[e_ #[a_ none 0 0,a_ none 0 0,a_ none 0 0],b_ c_ 1]) (by simp[results,Tryz.results49,go_sem,X,Y,T]) rfl ⟨_,rfl,lX _,kt B2.o f_⟩
  rw[if_pos hc];cases aI:mJ (L.take c) a
  · as_aux_lemma=>
    rw[if_neg fZ];have aK:=gg aI;clear aI;go_enter Tryz.func49,Tryz.ntmps49
    go_wp2_with fail
    have E:=gj (gr w (d_ #[a_ a1 b c1,a_ (some ⟨A,B,none⟩) n2 f,a_ a3 n3 c3] 33)) (gr (w.alloc (d_ #[a_ a1 b c1,a_ (some ⟨A,B,none⟩) n2 f,a_ a3 n3 c3] 33)) (d_ #[a_ none 0 0,a_ none 0 0,a_ none 0 0] 33));have M:=gk (gr (w.alloc (d_ #[a_ a1 b c1,a_ (some ⟨A,B,none⟩) n2 f,a_ a3 n3 c3] 33)) (d_ #[a_ none 0 0,a_ none 0 0,a_ none 0 0] 33)) (gH w (d_ #[a_ a1 b c1,a_ (some ⟨A,B,none⟩) n2 f,a_ a3 n3 c3] 33));have F:=gH (w.alloc (d_ #[a_ a1 b c1,a_ (some ⟨A,B,none⟩) n2 f,a_ a3 n3 c3] 33)) (d_ #[a_ none 0 0,a_ none 0 0,a_ none 0 0] 33);rw[World.size_alloc] at F;refine(jy _ m h true _ (HM.o.below E) HH.o).mono ?_
    rintro e w1 ⟨rfl,l⟩;have G:gi (w1.heap[w.heap.size+1]? = some mh):=gg (gk l F);have I:=gg (gk l M);have C:=gg (gj E l);clear E M F l;obtain⟨⟨u,n,t⟩,_⟩:=iK I.o;have H:=gn I.o;obtain⟨tr,vr⟩:=ad.o.up C.o;obtain⟨ay,az⟩:=aT.o.up C.o;obtain⟨ax,aB⟩:=aP.o.up C.o;go_upto_region 5 with fail
    clear u n t H tr vr ay az ax aB;have R:=gH w1 (d_ #[b_ c_ a,b_ c_ J] 127);have N:=gr w1 (d_ #[b_ c_ a,b_ c_ J] 127);obtain⟨W,hW⟩:∃ W,w1.alloc (d_ #[b_ c_ a,b_ c_ J] 127)=W:=⟨_,rfl⟩;rw[hW] at R N ⊢
    obtain⟨q,Q⟩:∃ q,w1.heap.size=q:=⟨_,rfl⟩;have lq:w.heap.size+1<q:=by have:=gn G.o;omega
    have ab:gi (W.heap[w.heap.size+1]? = some mh):=gg (gk N G.o);have aa:=gg (gk N I.o);have B2:=gg (gj C.o N);rw[Q] at R ⊢
    have O:=gg R;clear hW N Q R G I C;have y1:W.cell? ⟨q,0,none⟩=some (b_ c_ a):=gv (j:=0) O.o rfl;have y2:W.cell? ⟨q,1,none⟩=some (b_ c_ J):=gv (j:=1) O.o rfl;have ty:=gn O.o;obtain⟨⟨u,n,t⟩,_⟩:=iK aa.o;have H:=gn aa.o;have hc1:=hc.1;have hc2:=hc.2;have aM:decide (a<0)=false:=by simp;omega
    go_upto_region 7 with fail
    clear u n t y1 y2 ty H aM;have aD:=gg (ad.o.up B2.o);have aG:=gg (am.o.below B2.o)
    go_wp2_with fail
    go_loopw [10] (fun i wr=>∃ j:Nat,j≤c∧i =b_ c_ j∧mJ (L.take j) a=false∧Up W wr) (fun i _=>c - (intOf i).toNat)
    case atStart=>exact⟨0,fM,rfl,rfl,fK⟩
    case round=>
     obtain⟨j,hj,rfl,aw,ag⟩:=hrel;have HA:=gg aw;have d:=gg ag;clear aw ag;by_cases aE:j<c
     · as_aux_lemma=>
       have ak:j<L.length:=by rw[ao.o];omega
       obtain⟨⟨P,z2⟩,S⟩:∃ x,L[j]? = some x:=⟨_,fQ ak⟩;have aj:gi (mJ (L.take (j+1)) a=(mJ (L.take j) a || decide (P=a))):=gg (by obtain⟨_,e⟩:=fR S;rw[fP ak,Gz,e]);have au:P=a→mJ (L.take c) a=true:=fun e=>Gy aE S e
       obtain⟨a4,a0,D,_,_,ah,_⟩:=jq (aG.o.below d.o) S f_;injection D with D
       injection D with D e8 _
       subst D e8;simp only at ah;obtain⟨tz,vz⟩:=ah;obtain⟨tr,vr⟩:=aD.o.up d.o;have Z:=gk d.o aa.o;have an:=gk d.o O.o;obtain⟨⟨u,n,t⟩,_⟩:=iK Z;have H:=gn Z;have y1:wr.cell? ⟨q,0,none⟩=some (b_ c_ a):=gv (j:=0) an rfl;have ty:=gn an;have jI:(j:Int)<(ln:Int):=by omega
       have bg:(0:Int)≤(j:Int):=by omega
       clear Z an S;cases Q:(P == a)
       · have aU:gi (mJ (L.take (j+1)) a=false):=gg (by rw[aj.o,HA.o];simp at Q;simp[Q])
         clear au
         go_wp2_with fail
         go_quiet (fail)
         go_wp2_with fail
         exact⟨⟨j+1,by omega,by go_num,aU.o,lJ d.o _⟩,by simp[intOf];omega⟩
       · exact absurd ((au (by simpa using Q)).symm.trans aK.o) fZ
     · have ac:c=j:=by omega
       subst ac;clear HA;have aF:=gg (gk d.o aa.o);have al:=gg (gk d.o ab.o);have aH:=gg (gk d.o O.o);have B3:=gg (gj B2.o d.o);clear d aa ab O aD aG;obtain⟨⟨u,n,t⟩,_⟩:=iK aF.o;have H:=gn aF.o;have y1:wr.cell? ⟨q,0,none⟩=some (b_ c_ a):=gv (j:=0) aH.o rfl;have y2:wr.cell? ⟨q,1,none⟩=some (b_ c_ J):=gv (j:=1) aH.o rfl;have ty:=gn aH.o;have LG:gi ((km m h a J).words.length=b∧(km m h a J).pend.length=n2∧(km m h a J).res.length=n3):=gg ⟨by simp[km,aC.o],aQ.o,by simp[km,yN,aR.o]⟩
       go_wp2_with fail
       refine(lQ _ m h a J _ (HM.o.below B3.o) HS.o ⟨hc1,by rw[aC.o];exact hc2⟩).mono ?_
       rintro e w4 ⟨q4,Y1,Z1,Y2,Z2,Y3,Z3,rs,rfl,aN,aJ⟩;rw[LG.o.1,LG.o.2.1,LG.o.2.2] at aN ⊢
       clear u n t H y1 y2 ty;go_upto_region 13 with fail
       have hO:=aN.move (gH w4 (d_ #[a_ Y1 b Z1,a_ Y2 n2 Z2,a_ Y3 n3 Z3] 33)) aJ.size (gr w4 _);have hU:=gj aJ (gr w4 (d_ #[a_ Y1 b Z1,a_ Y2 n2 Z2,a_ Y3 n3 Z3] 33));have bN:w.heap.size+1<wr.heap.size:=gn al.o;obtain⟨V,hV⟩:∃ W',w4.alloc (d_ #[a_ Y1 b Z1,a_ Y2 n2 Z2,a_ Y3 n3 Z3] 33)=W':=⟨_,rfl⟩;rw[hV] at hO hU ⊢
       obtain⟨p,hp⟩:∃ p,w4.heap.size=p:=⟨_,rfl⟩;have bJ:w.heap.size+1<p:=by have:=aJ.size;omega
       rw[hp] at hO ⊢
       clear hV hp aN aJ;have HO:=gg (hO.low B3.o.size);have be:=gg (gk hU al.o);have aY:=gg (gk hU aF.o);have B4:=gg (gj B3.o hU);clear hO hU aF al aH B3;have ba:=gg (ad.o.up B4.o);have bb:=gg (am.o.below B4.o);obtain⟨l0,hl,bm,av,Z⟩:=info_parts BN
       go_wp2_with fail
       go_loopw [12,13] (fun s i wr=>∃ (j:Nat) (lv:Value),j≤ln∧s=lv∧i =b_ c_ j∧wr.ownsRow V.heap.size 127 2 lv ((L.take j).eraseIdx c).length (gW ((L.take j).eraseIdx c))∧Up V wr) (fun _ i _=>ln - (intOf i).toNat)
       case atStart=>exact⟨0,_,fM,rfl,rfl,by simpa[gW] using World.ownsRow_nil _ _ _ _,fK⟩
       case round=>
        obtain⟨j,lv,bF,rfl,rfl,aS,ag⟩:=hrel;have HL:=gg aS;have d:=gg ag;obtain⟨xl,yl,rfl⟩:=gN aS;clear aS ag;obtain⟨⟨u,n,t⟩,_⟩:=iK (gk d.o aY.o);have H:=gn (gk d.o aY.o);obtain⟨tr,vr⟩:=ba.o.up d.o;by_cases aE:j<ln
        · as_aux_lemma=>
          have ak:j<L.length:=by rw[ao.o];omega
          obtain⟨⟨P,z2⟩,S⟩:∃ x,L[j]? = some x:=⟨_,fQ ak⟩;by_cases ac:j=c
          · have aj:gi ((L.take (j+1)).eraseIdx c=(L.take j).eraseIdx c):=gg (by rw[ac];exact vQ L c (by rw[ao.o];omega))
            have hb:((j:Int) != (c:Int))=false:=by simp[ac]
            clear ac S
            go_wp2_with fail
            exact⟨⟨j+1,_,by omega,rfl,by go_num,by rw[aj.o];exact HL.o,d.o⟩,by simp[intOf];omega⟩
          · have aj:gi ((L.take (j+1)).eraseIdx c=(L.take j).eraseIdx c ++ [(P,z2)]):=gg (vR L c j S ac)
            have hb:((j:Int) != (c:Int))=true:=by simp;omega
            obtain⟨a4,a0,D,_,_,ah,aW⟩:=jq (bb.o.below d.o) S f_;injection D with D
            injection D with D e8 _
            subst D e8;simp only at ah aW;obtain⟨tz,vz⟩:=ah;obtain⟨bM,bK⟩:=aW;clear ac S
            have bH:((L.take j).eraseIdx c).length≤1000:=by
             have h1:=List.length_eraseIdx_le (L.take j) c;have h2:(L.take j).length≤L.length:=by rw[List.length_take];exact Nat.min_le_right _ _
             rw[ao.o] at h2;omega
            generalize (L.take j).eraseIdx c=K at *
            have bo:(K.length+1)*16≤140737488355328:=by omega
            have a9:K.length+1≤maxLen:=by unfold maxLen;omega
            have bq:V.heap.size≤(wr.alloc (d_ #[b_ c_ P,b_ c_ z2] 127)).heap.size:=by have:=d.o.size;simp;omega
            go_wp2_with (at_builtin;refine wpList_append_own _ rfl _ _ 57 rfl V.heap.size 127 l0 (e_ #[b_ c_ 0,b_ c_ 0]) 2 16 Tryz.underlying57 hl bm av Z rfl fZ _ _ _ rfl (gy HL.o (gr wr (d_ #[b_ c_ P,b_ c_ z2] 127))) ⟨wr.heap.size,0,none⟩ 1 1 (gW [(P,z2)]) rfl rfl (tW wr P z2) (tI _) a9 bo bq ?_;intro v' w7 aV a7 _;obtain⟨xv,yv,rfl⟩:=gN aV)
            exact⟨⟨j+1,_,by omega,rfl,by go_num,by rw[aj.o,List.length_append,Fc];exact aV,yY (gj d.o (gr wr (d_ #[b_ c_ P,b_ c_ z2] 127))) a7 (fun g e=>((gy HL.o (gr wr (d_ #[b_ c_ P,b_ c_ z2] 127))).lt g e).1)⟩,by simp[intOf];omega⟩
        · have bj:j=ln:=by omega
          subst bj
          have bl:gi (wr.ownsRow V.heap.size 127 2 (a_ xl ((L.take j).eraseIdx c).length yl) (L.eraseIdx c).length (gW (L.eraseIdx c))):=gg (by
           have:=HL.o;rw[show L.take j=L by rw[←ao.o,List.take_length]] at this ⊢
           exact this)
          have ap:=gg (HO.o.below d.o);have bk:=gg (gk d.o be.o);have B5:=gg (gj B4.o d.o);obtain⟨gp,cp,r,D,bh,bz,hr,bn,bs,br⟩:=ap.o.rowAt h0 (by show h<((km m h a J).pend.length:Int);rw[LG.o.2.1];exact h1);injection D with D e8 e7
          subst D e7;clear e8;rw[LG.o.2.1] at bh;have bB:=gg hr;have bc:=(ap.o.pend.lt gp rfl).1;have bC:=(ap.o.pend.lt gp rfl).2;have ST:=gg (HO.o.stored fZ fZ hr (w1:=wr) (vY d.o _) (r':=a_ xl ((L.take j).eraseIdx c).length yl) (l':=L.eraseIdx c) (jW bl.o (by have:=B4.o.size;omega)) (g:=gp) rfl);obtain⟨⟨m0,m1,m2⟩,_⟩:=iK ap.o.at_;have tm:=gn ap.o.at_;have aA:gi ((wr.setCell ⟨gp,h.toNat,none⟩ (a_ xl ((L.take j).eraseIdx c).length yl)).heap[w.heap.size+1]? = some mh):=gg (jF ap.o.pend rfl bk.o fZ);have B6:=gg (gO B5.o bc (a_ xl ((L.take j).eraseIdx c).length yl) (o:=h.toNat));clear br hr;generalize ((L.take j).eraseIdx c).length=nl at *
          go_upto_region 20 with fail
          obtain⟨U,hU⟩:∃ W',wr.setCell ⟨gp,h.toNat,none⟩ (a_ xl nl yl)=W':=⟨_,rfl⟩;rw[hU] at ST aA B6 ⊢
          clear hU m0 m1 m2 tm bn bs u n t H tr vr;obtain⟨⟨m0,m1,m2⟩,_⟩:=iK ST.o.1;have tm:=gn ST.o.1;obtain⟨⟨bu,bI,bD⟩,bx,bQ,bG⟩:=iK aA.o;have bv:=gn aA.o
          go_wp2_with fail
          obtain⟨X,Y,T⟩:=iv (jT (x:=a_ Y1 b Z1) (y:=a_ (some ⟨gp,0,none⟩) n2 Z2) (z:=a_ Y3 n3 Z3) aA.o).1;have bd:=gg (pJ (a_ Y1 b Z1) (a_ (some ⟨gp,0,none⟩) n2 Z2) (a_ Y3 n3 Z3) ST.o.2 aA.o);have BW:=gg (kt (x:=a_ Y1 b Z1) (y:=a_ (some ⟨gp,0,none⟩) n2 Z2) (z:=a_ Y3 n3 Z3) B6.o (by omega:w.heap.size≤w.heap.size+1));exact bodyPost_ret (v:=fI #[e_ #[a_ Y1 b Z1,a_ (some ⟨gp,0,none⟩) n2 Z2,a_ Y3 n3 Z3],b_ c_ 0]) (by simp[results,Tryz.results49,go_sem,X,Y,T]) rfl ⟨_,rfl,bd.o,BW.o⟩
  · as_aux_lemma=>
    rw[if_pos rfl];have aK:=gg aI;clear aI;go_enter Tryz.func49,Tryz.ntmps49
    go_wp2_with fail
    have E:=gj (gr w (d_ #[a_ a1 b c1,a_ (some ⟨A,B,none⟩) n2 f,a_ a3 n3 c3] 33)) (gr (w.alloc (d_ #[a_ a1 b c1,a_ (some ⟨A,B,none⟩) n2 f,a_ a3 n3 c3] 33)) (d_ #[a_ none 0 0,a_ none 0 0,a_ none 0 0] 33));have M:=gk (gr (w.alloc (d_ #[a_ a1 b c1,a_ (some ⟨A,B,none⟩) n2 f,a_ a3 n3 c3] 33)) (d_ #[a_ none 0 0,a_ none 0 0,a_ none 0 0] 33)) (gH w (d_ #[a_ a1 b c1,a_ (some ⟨A,B,none⟩) n2 f,a_ a3 n3 c3] 33));have F:=gH (w.alloc (d_ #[a_ a1 b c1,a_ (some ⟨A,B,none⟩) n2 f,a_ a3 n3 c3] 33)) (d_ #[a_ none 0 0,a_ none 0 0,a_ none 0 0] 33);rw[World.size_alloc] at F;refine(jy _ m h true _ (HM.o.below E) HH.o).mono ?_
    rintro e w1 ⟨rfl,l⟩;have G:gi (w1.heap[w.heap.size+1]? = some mh):=gg (gk l F);have I:=gg (gk l M);have C:=gg (gj E l);clear E M F l;obtain⟨⟨u,n,t⟩,_⟩:=iK I.o;have H:=gn I.o;obtain⟨tr,vr⟩:=ad.o.up C.o;obtain⟨ay,az⟩:=aT.o.up C.o;obtain⟨ax,aB⟩:=aP.o.up C.o;go_upto_region 5 with fail
    clear u n t H tr vr ay az ax aB;have R:=gH w1 (d_ #[b_ c_ a,b_ c_ J] 127);have N:=gr w1 (d_ #[b_ c_ a,b_ c_ J] 127);obtain⟨W,hW⟩:∃ W,w1.alloc (d_ #[b_ c_ a,b_ c_ J] 127)=W:=⟨_,rfl⟩;rw[hW] at R N ⊢
    obtain⟨q,Q⟩:∃ q,w1.heap.size=q:=⟨_,rfl⟩;have lq:w.heap.size+1<q:=by have:=gn G.o;omega
    have ab:gi (W.heap[w.heap.size+1]? = some mh):=gg (gk N G.o);have aa:=gg (gk N I.o);have B2:=gg (gj C.o N);rw[Q] at R ⊢
    have O:=gg R;clear hW N Q R G I C;have y1:W.cell? ⟨q,0,none⟩=some (b_ c_ a):=gv (j:=0) O.o rfl;have y2:W.cell? ⟨q,1,none⟩=some (b_ c_ J):=gv (j:=1) O.o rfl;have ty:=gn O.o;obtain⟨⟨u,n,t⟩,_⟩:=iK aa.o;have H:=gn aa.o;have hc1:=hc.1;have hc2:=hc.2;have aM:decide (a<0)=false:=by simp;omega
    go_upto_region 7 with fail
    clear u n t y1 y2 ty H aM;have aD:=gg (ad.o.up B2.o);have aG:=gg (am.o.below B2.o)
    go_wp2_with fail
    go_loopw [10] (fun i wr=>∃ j:Nat,j≤c∧i =b_ c_ j∧mJ (L.take j) a=false∧Up W wr) (fun i _=>c - (intOf i).toNat)
    case atStart=>exact⟨0,fM,rfl,rfl,fK⟩
    case round=>
     obtain⟨j,hj,rfl,aw,ag⟩:=hrel;have HA:=gg aw;have d:=gg ag;clear aw ag;by_cases aE:j<c
     · as_aux_lemma=>
       have ak:j<L.length:=by rw[ao.o];omega
       obtain⟨⟨P,z2⟩,S⟩:∃ x,L[j]? = some x:=⟨_,fQ ak⟩;have aj:gi (mJ (L.take (j+1)) a=(mJ (L.take j) a || decide (P=a))):=gg (by obtain⟨_,e⟩:=fR S;rw[fP ak,Gz,e]);have au:P=a→mJ (L.take c) a=true:=fun e=>Gy aE S e
       obtain⟨a4,a0,D,_,_,ah,_⟩:=jq (aG.o.below d.o) S f_;injection D with D
       injection D with D e8 _
       subst D e8;simp only at ah;obtain⟨tz,vz⟩:=ah;obtain⟨tr,vr⟩:=aD.o.up d.o;have Z:=gk d.o aa.o;have an:=gk d.o O.o;obtain⟨⟨u,n,t⟩,_⟩:=iK Z;have H:=gn Z;have y1:wr.cell? ⟨q,0,none⟩=some (b_ c_ a):=gv (j:=0) an rfl;have ty:=gn an;have jI:(j:Int)<(ln:Int):=by omega
       have bg:(0:Int)≤(j:Int):=by omega
       clear Z an S;cases Q:(P == a)
       · have aU:gi (mJ (L.take (j+1)) a=false):=gg (by rw[aj.o,HA.o];simp at Q;simp[Q])
         clear au
         go_wp2_with fail
         go_quiet (fail)
         go_wp2_with fail
         exact⟨⟨j+1,by omega,by go_num,aU.o,lJ d.o _⟩,by simp[intOf];omega⟩
       · clear au aj
         go_wp2_with fail
         refine kK ga ga ?_
         have p1:=fun x=>gD H n x
         have p2:=fun x=>gD tr vr x
         have p3:=fun x=>gD tz vz x
         have p4:=fun x=>gD ty y1 x
         clear u n t tz vz tr vr H ty y1;repeat(go_big_quiet_step (fail))
         refine wpQuiet_nil ?_
         rintro w9 ⟨⟨bw,aL⟩,rfl⟩;clear p1 p2 p3 p4;have al:=gg (gk (gj d.o aL) ab.o);have B3:=gg (gj B2.o (gj d.o aL));clear aL;obtain⟨⟨u,n,t⟩,f0,f1,f2⟩:=iK al.o;have tq:=gn al.o;obtain⟨X,Y,T⟩:=iv (jT (x:=a_ none 0 0) (y:=a_ none 0 0) (z:=a_ none 0 0) al.o).1
         go_wp2_with fail
         exact bodyPost_ret (v:=fI #[e_ #[a_ none 0 0,a_ none 0 0,a_ none 0 0],b_ c_ 91]) (by simp[results,Tryz.results49,go_sem,X,Y,T]) rfl ⟨_,rfl,lX _,kt B3.o f_⟩
     · have ac:c=j:=by omega
       subst ac;exact absurd (HA.o.symm.trans aK.o) fZ
end
section
open Go.RowKit
set_option maxRecDepth 100000
theorem tb {a b} (h:a=b):Ending.returned (fJ a) =fH (fJ b):=by rw[h]
theorem nP v s (xs d:List Int) (w) (h:gl w 1 xs.length v (xs.map (b_ c_))) (m:gl w 1 d.length s (d.map (b_ c_))) :
 Calls gd 72 #[v,s] w fun e w'=>e =fH (fJ (decide (xs=d)))∧Up w w':=by
 obtain⟨a,c,rfl⟩:=h.shape;obtain⟨a',T,rfl⟩:=m.shape;have D:=gg h;have C:=gg m;clear h m;by_cases hl:xs.length=d.length
 · have N:(((xs.length:Nat):Int) != ((d.length:Nat):Int))=false:=by simp[hl]
   by_cases h0:xs.length=0
   · have H:xs=[]:=fT h0
     have G:d=[]:=fT f_;subst H G;simp only[List.length_nil] at *
     go_enter Tryz.func72,Tryz.ntmps72
     go_wp2_with fail
     refine wp_loop_rounds 1 ?_
     rw[rounds_succ]
     go_wp2
     go_ret;exact⟨tb gb,fK⟩
   · obtain⟨b,o,U,E,_,Y,K,u⟩:=D.o.2.2.resolve_left (fun h=>h0 h.2)
     obtain⟨Q,M,V,F,_,S,J,A⟩:=C.o.2.2.resolve_left (fun h=>h0 f_);injection E with l _ e2;injection F with e3 _ e4
     subst l e2 e3 e4;have z:=gg hl;have B:=gg u;have I:=gg A;clear u A hl;unfold maxLen at K J;go_enter Tryz.func72,Tryz.ntmps72
     go_wp2_with fail
     go_loopw [5] (fun i wr=>∃ k:Nat,k≤xs.length∧i =b_ c_ k∧xs.take k=d.take k∧Up w wr∧(∀ a,wr.cell? a=w.cell? a)) (fun i _=>xs.length - (intOf i).toNat)
     case atStart=>exact⟨0,fM,rfl,rfl,fK,fun _=>rfl⟩
     case round=>
      obtain⟨k,R,rfl,ht,x,r⟩:=hrel;have y:=gg ht;have p:=gg x;have q:=gg r;clear ht x r;by_cases n:k<xs.length
      · have t:k<d.length:=by rw[←z.o];exact n
        have W:wr.cell? ⟨b,o+k,none⟩=some (b_ c_ (xs[k])):=by rw[q.o];exact B.o k _ (by simp[n])
        have X:wr.cell? ⟨Q,M+k,none⟩=some (b_ c_ (d[k])):=by rw[q.o];exact I.o k _ (by simp[t])
        by_cases f:xs[k]=d[k]
        · have O:(xs[k] != d[k])=false:=by simp[f]
          have L:=gg f;clear f
          go_wp2_with fail
          go_quiet (fail)
          go_wp2_with fail
          refine⟨⟨k+1,by omega,by go_num,?_,lJ p.o _,q.o⟩,by simp[intOf];omega⟩;rw[fP n,fP t,y.o,L.o]
        · have O:(xs[k] != d[k])=true:=by simp[f]
          have j:decide (xs=d)=false:=decide_eq_false (fun e=>f (by subst e;rfl));have g:=gg j;clear f j
          go_wp2_with fail
          go_quiet (fail)
          go_wp2
          go_ret;exact⟨tb g.o.symm,lJ p.o _⟩
      · have j:decide (xs=d)=true:=decide_eq_true (by
         have l:=y.o;have P:k=xs.length:=by omega
         rw[P,List.take_length,z.o,List.take_length] at l;exact l)
        have g:=gg j;clear j
        go_wp2
        go_ret;exact⟨tb g.o.symm,p.o⟩
 · have N:(((xs.length:Nat):Int) != ((d.length:Nat):Int))=true:=by simp;omega
   have g:gi (decide (xs=d)=false):=gg (decide_eq_false (fun e=>hl (by rw[e])));clear hl;go_enter Tryz.func72,Tryz.ntmps72
   go_wp2
   go_ret;exact⟨tb g.o.symm,fK⟩
end
section
open Go.RowKit
set_option maxRecDepth 100000
theorem tt {α:Type} [DecidableEq α] {xs a:List α} {i:Nat} {x y} (c:xs[i]? = some x) (b:a[i]? = some y) (h:x≠y):decide (xs=a)=false:=decide_eq_false (fun e=>h (by subst e;rw[c] at b;injection b))
theorem oP {α:Type} {xs a:List α} {i x} (d:xs[i]? = some x) (b:a[i]? = some x) (h:xs.take i=a.take i):xs.take (i+1)=a.take (i+1):=by
 obtain⟨h1,c⟩:=fR d;obtain⟨h2,e⟩:=fR b;rw[fP h1,fP h2,h,c,e]
theorem qU {α:Type} {xs a:List α} {n} (h1:xs.length=n) (h2:a.length=n) (h:xs.take n=a.take n):xs=a:=by
 rw[←h1,List.take_length] at h;rw[h,h1,←h2,List.take_length]
set_option maxRecDepth 100000 in
theorem uC v v' a b w (h:gM w v a) (h':gM w v' b) :
 Calls gd 39 #[v,v'] w fun e w'=>e =fH (fJ (decide (a=b)))∧Up w w':=by
 obtain⟨a1,c1,a2,L,a3,c3,rows,rfl,r1,r2,r3,r4⟩:=h.parts;obtain⟨b1,d1,b2,d2,b3,d3,aP,rfl,s1,s2,s3,s4⟩:=h'.parts;have R1:=gg r1;have R2:=gg r2;have R3:=gg r3;have R4:=gg r4;have S1:=gg s1;have S2:=gg s2;have S3:=gg s3;have S4:=gg s4;clear h h' r1 r2 r3 r4 s1 s2 s3 s4;rw[wS];obtain⟨e1,hd1⟩:∃ e,decide (a.words=b.words)=e:=⟨_,rfl⟩;obtain⟨e2,hd2⟩:∃ e,decide (a.res=b.res)=e:=⟨_,rfl⟩;rw[hd1,hd2];have D1:=gg hd1;have D2:=gg hd2;clear hd1 hd2;obtain⟨G,av⟩:∃ n,a.words.length=n:=⟨_,rfl⟩;obtain⟨c,ac⟩:∃ n,a.pend.length=n:=⟨_,rfl⟩;obtain⟨I,am⟩:∃ n,a.res.length=n:=⟨_,rfl⟩;obtain⟨m1,au⟩:∃ n,b.words.length=n:=⟨_,rfl⟩;obtain⟨H,Z⟩:∃ n,b.pend.length=n:=⟨_,rfl⟩;obtain⟨m3,ak⟩:∃ n,b.res.length=n:=⟨_,rfl⟩;have N2:=gg ac;have M2:=gg Z;have I1:=gg (fun u B=>nP _ _ a.words b.words u (R1.o.below B) (S1.o.below B));have I2:=gg (fun u B=>nP _ _ a.res b.res u (R3.o.below B) (S3.o.below B));rw[av,au] at I1;rw[am,ak] at I2;rw[ac] at R2;rw[Z] at S2;rw[av,ac,am,au,Z,ak];clear av ac am au Z ak R1 R3 S1 S3;go_enter Tryz.func39,Tryz.ntmps39;go_upto_region 1 with fail
 have aA:=gk (gr (w.alloc (d_ #[a_ a1 G c1,a_ a2 c L,a_ a3 I c3] 33)) (d_ #[a_ b1 m1 d1,a_ b2 H d2,a_ b3 m3 d3] 33)) (gH w (d_ #[a_ a1 G c1,a_ a2 c L,a_ a3 I c3] 33));have ad:=gH (w.alloc (d_ #[a_ a1 G c1,a_ a2 c L,a_ a3 I c3] 33)) (d_ #[a_ b1 m1 d1,a_ b2 H d2,a_ b3 m3 d3] 33);rw[World.size_alloc] at ad;have ar:=gj (gr w (d_ #[a_ a1 G c1,a_ a2 c L,a_ a3 I c3] 33)) (gr (w.alloc (d_ #[a_ a1 G c1,a_ a2 c L,a_ a3 I c3] 33)) (d_ #[a_ b1 m1 d1,a_ b2 H d2,a_ b3 m3 d3] 33));obtain⟨W0,hW⟩:∃ W,(w.alloc (d_ #[a_ a1 G c1,a_ a2 c L,a_ a3 I c3] 33)).alloc (d_ #[a_ b1 m1 d1,a_ b2 H d2,a_ b3 m3 d3] 33)=W:=⟨_,rfl⟩;rw[hW] at aA ad ar ⊢
 have HX:=gg aA;have HY:=gg ad;have B0:=gg ar;clear hW aA ad ar;obtain⟨⟨p,g,o⟩,_⟩:=iK HX.o;obtain⟨⟨q,d,m⟩,_⟩:=iK HY.o;have f:=gn HX.o;have ty:=gn HY.o
 go_wp2_with fail
 refine(I1.o _ B0.o).mono ?_
 rintro e u1 ⟨rfl,ae⟩;rw[D1.o];have af:=gg (gk ae HX.o);have ag:=gg (gk ae HY.o);have B1:=gg (gj B0.o ae);clear ae p g o q d m f ty HX HY B0;obtain⟨⟨p,g,o⟩,_⟩:=iK af.o;obtain⟨⟨q,d,m⟩,_⟩:=iK ag.o;have f:=gn af.o;have ty:=gn ag.o
 go_wp2_with fail
 refine(I2.o _ B1.o).mono ?_
 rintro e u2 ⟨rfl,E⟩;rw[D2.o];have ax:=gg (gk E af.o);have aw:=gg (gk E ag.o);have B2:=gg (gj B1.o E);clear E p g o q d m f ty af ag B1;obtain⟨⟨p,g,o⟩,_⟩:=iK ax.o;obtain⟨⟨q,d,m⟩,_⟩:=iK aw.o;have f:=gn ax.o;have ty:=gn aw.o;cases e1
 · go_wp2
   go_ret;exact⟨gt (iO rfl),B2.o⟩
 cases e2
 · go_wp2
   go_ret;exact⟨gt (iO rfl),B2.o⟩
 by_cases hl:c=H
 rotate_left
 · have M:gi (decide (a.pend=b.pend)=false):=gg (decide_eq_false (fun e=>hl (by rw[←N2.o,←M2.o,e])))
   have s:((c:Int) != (H:Int))=true:=by simp;omega
   have HL:=gg hl;clear hl
   go_wp2
   go_ret;exact⟨gt (iO (by rw[M.o];rfl)),B2.o⟩
 subst hl;have s:((c:Int) != (c:Int))=false:=by simp
 go_wp2_with fail
 clear p g o q d m f ty s
 go_loopw [7] (fun i wr=>∃ j:Nat,j≤c∧i =b_ c_ j∧a.pend.take j=b.pend.take j∧Up u2 wr) (fun i _=>c - (intOf i).toNat)
 case atStart=>exact⟨0,fM,rfl,rfl,fK⟩
 case round=>
  obtain⟨j,hj,rfl,ht,B⟩:=hrel;have HT:=gg ht;have O:=gg B;clear ht B;obtain⟨V,hV⟩:∃ u,u=wr:=⟨_,rfl⟩;subst hV;have ah:=gg (gk O.o ax.o);have ai:=gg (gk O.o aw.o);have K:=gg (gj B2.o O.o);obtain⟨⟨p,g,o⟩,_⟩:=iK ah.o;obtain⟨⟨q,d,m⟩,_⟩:=iK ai.o;have f:=gn ah.o;have ty:=gn ai.o;by_cases ab:j<c
  · obtain⟨b',o',c',e9,aK,aZ,aL,aG⟩:=R2.o.some f_
    obtain⟨a0,aW,a4,e8,aM,aU,aJ,aD⟩:=S2.o.some f_;injection e9 with e9 _ e7;injection e8 with e8 _ e6
    subst e9 e7 e8 e6;unfold maxLen at aL aJ;obtain⟨T,ap⟩:∃ l,a.pend[j]? = some l:=⟨_,fQ (by rw[N2.o];exact ab)⟩;obtain⟨Q,s⟩:∃ l,b.pend[j]? = some l:=⟨_,fQ (by rw[M2.o];exact ab)⟩;obtain⟨ra,ay⟩:∃ r,rows[j]? = some r:=⟨_,fQ (by rw[R4.o.1,N2.o];exact ab)⟩;obtain⟨rb,al⟩:∃ r,aP[j]? = some r:=⟨_,fQ (by rw[S4.o.1,M2.o];exact ab)⟩;have hA:=gl.own (R4.o.2 j ra T ay ap) (tI _);have hB:=gl.own (S4.o.2 j rb Q al s) (tI _);obtain⟨x1,y1,rfl⟩:=hA.shape;obtain⟨x2,y2,rfl⟩:=hB.shape;obtain⟨C,t⟩:=hZ.up (v:=a_ x1 T.length y1) ⟨aK,aG _ _ ay⟩ K.o;obtain⟨A,y⟩:=hZ.up (v:=a_ x2 Q.length y2) ⟨aM,aD _ _ al⟩ K.o;have HA:=gg hA;have aB:=gg hB;have LA:=gg ap;have LB:=gg s;clear aG aD ay al hA hB ap s;obtain⟨z,aq⟩:∃ n,T.length=n:=⟨_,rfl⟩;obtain⟨nb,az⟩:∃ n,Q.length=n:=⟨_,rfl⟩;rw[aq] at t HA;rw[az] at y aB;have NA:=gg aq;have NB:=gg az;clear aq az;have jI:(j:Int)<(c:Int):=by omega
    have aY:(0:Int)≤(j:Int):=by omega
    have RA:=gg (show hZ V _ _ _ from⟨C,t⟩);have RB:=gg (show hZ V _ _ _ from⟨A,y⟩)
    go_wp2_with fail
    refine kK ga ga ?_
    have P:=fun x=>gD f g x
    have U:=fun x=>gD ty d x
    have N:=fun x=>gD C t x
    have S:=fun x=>gD A y x
    clear p g o q d m f ty C t A y;repeat(go_big_quiet_step (fail))
    refine wpQuiet_nil ?_
    rintro w9 ⟨⟨aV,D⟩,rfl⟩;clear P U N S;by_cases hl:z=nb
    rotate_left
    · have M:gi (decide (a.pend=b.pend)=false):=gg (tt LA.o LB.o (fun e=>hl (by rw[←NA.o,←NB.o,e])))
      have s:((z:Int) != (nb:Int))=true:=by simp;omega
      clear hl
      go_wp2
      go_ret;exact⟨gt (iO (by rw[M.o];rfl)),gj K.o D⟩
    subst hl;have s:((z:Int) != (z:Int))=false:=by simp
    have aH:=gg (gk D ah.o);have aT:=gg (gk D ai.o);have B4:=gg (gj K.o D);have aI:=gg (RA.o.up D);have aN:=gg (RB.o.up D);have BV:=gg (gj O.o D);clear D ah ai K RA RB O
    go_wp2_with fail
    clear s
    go_loopw [8] (fun i wr=>∃ k:Nat,k≤z∧i =b_ c_ k∧T.take k=Q.take k∧Up w9 wr) (fun i _=>z - (intOf i).toNat)
    case atStart=>exact⟨0,fM,rfl,rfl,fK⟩
    case round=>
     obtain⟨k,hk,rfl,ht2,E⟩:=hrel;have aC:=gg ht2;have F:=gg E;clear ht2 E;have aa:=gk F.o aH.o;have aj:=gk F.o aT.o;obtain⟨⟨p,g,o⟩,_⟩:=iK aa;obtain⟨⟨q,d,m⟩,_⟩:=iK aj;have f:=gn aa;have ty:=gn aj;obtain⟨C,t⟩:=aI.o.up F.o;obtain⟨A,y⟩:=aN.o.up F.o;by_cases aE:k<z
     · as_aux_lemma=>
       obtain⟨⟨z1,z2⟩,hz⟩:∃ x,T[k]? = some x:=⟨_,fQ (by rw[NA.o];exact aE)⟩;obtain⟨⟨z3,z4⟩,ao⟩:∃ x,Q[k]? = some x:=⟨_,fQ (by rw[NB.o];exact aE)⟩;have X:=gj B4.o F.o;obtain⟨xb,xo,rfl,q1,q2,⟨t1,v1⟩,⟨t2,v2⟩⟩:=jq (HA.o.below X) hz f_;obtain⟨yb,yo,rfl,q3,q4,⟨Y,v3⟩,⟨t4,v4⟩⟩:=jq (aB.o.below X) ao f_;simp only at v1 v2 v3 v4;have HZ:=gg hz;have aF:=gg ao;have aR:=gg X;clear hz ao X;have kI:(k:Int)<(z:Int):=by omega
       have aX:(0:Int)≤(k:Int):=by omega
       by_cases J:((z1,z2):Int×Int)=(z3,z4)
       · have HQ:=gg J
         have R:=fun w=>Eu true (z1,z2) (z3,z4) (by simp[J]) w
         simp only at R;clear J
         go_wp2_with fail
         refine kK ga ga ?_
         have P:=fun x=>gD f g x
         have U:=fun x=>gD ty d x
         have N:=fun x=>gD C t x
         have S:=fun x=>gD A y x
         have p5:=fun x=>gD t1 v1 x
         have p6:=fun x=>gD t2 v2 x
         have p7:=fun x=>gD Y v3 x
         have p8:=fun x=>gD t4 v4 x
         clear p g o q d m f ty C t A y t1 v1 t2 v2 Y v3 t4 v4 aa aj;repeat(go_big_quiet_step (fail))
         refine wpQuiet_nil ?_
         rintro w7 ⟨⟨aO,an⟩,rfl⟩;clear P U N S p5 p6 p7 p8 R
         go_wp2_with fail
         exact⟨⟨k+1,by omega,by go_num,oP HZ.o (by rw[HQ.o];exact aF.o) aC.o,gj F.o an⟩,by simp[intOf];omega⟩
       · have M:gi (decide (a.pend=b.pend)=false):=gg (tt LA.o LB.o (fun e=>by
          have h1:=HZ.o;have h2:=aF.o;rw[e] at h1;rw[h1] at h2;injection h2 with h2
          exact J h2))
         have R:=fun w=>Eu false (z1,z2) (z3,z4) (by simp only[decide_eq_false_iff_not];exact J) w
         simp only at R;clear J
         go_wp2_with fail
         refine kK ga ga ?_
         have P:=fun x=>gD f g x
         have U:=fun x=>gD ty d x
         have N:=fun x=>gD C t x
         have S:=fun x=>gD A y x
         have p5:=fun x=>gD t1 v1 x
         have p6:=fun x=>gD t2 v2 x
         have p7:=fun x=>gD Y v3 x
         have p8:=fun x=>gD t4 v4 x
         clear p g o q d m f ty C t A y t1 v1 t2 v2 Y v3 t4 v4 aa aj;repeat(go_big_quiet_step (fail))
         refine wpQuiet_nil ?_
         rintro w7 ⟨⟨aO,an⟩,rfl⟩;clear P U N S p5 p6 p7 p8 R
         go_wp2
         go_ret;exact⟨gt (iO (by rw[M.o];rfl)),gj aR.o an⟩
     · have aS:k=z:=by omega
       subst aS;have HE:=gg (qU NA.o NB.o aC.o)
       go_wp2_with fail
       exact⟨⟨j+1,by omega,by go_num,oP LA.o (by rw[HE.o];exact LB.o) HT.o,gj BV.o F.o⟩,by simp[intOf];omega⟩
  · have aQ:j=c:=by omega
    subst aQ;have HE:=gg (qU N2.o M2.o HT.o)
    go_wp2
    go_ret;exact⟨gt (iO (by rw[HE.o];simp)),K.o⟩
end
end
