/- What the walks of this statement lean on: shown. -/
import Derived.Test.YtdobddiibgfeaaaGreatYf
import Derived.Test.YtdobddiibgfeaaaGreatZv
set_option linter.all false
set_option maxRecDepth 100000
set_option maxHeartbeats 16000000
namespace Go.Proofs.YtdobddiibgfeaaaGreat
open Value renaming slice→a_,int→b_,agg→e_,pointer→fG,tuple→fI,bool→fJ
open IntKind renaming i64→c_
open Obj renaming cells→d_
open Ending renaming returned→fH
open Go.Proofs.Tryz renaming prog→gd
section
section
open Go.RowKit
set_option maxRecDepth 100000
set_option maxHeartbeats 16000000
structure Es where
 e:Nat
 k:Nat
 v:Value
 n:Nat
 xs:List Value
structure RO (w:World) (S:Array Value) (N:Nat) (W:World) (us:Array Value) (l:List Es):Prop where
 at_:W.heap[w.heap.size+2]? = some (d_ us 37 (0,0))
 src:W.heap[w.heap.size]? = some (d_ S 37 (0,0))
 res:W.heap[w.heap.size+1]? = some (d_ gq 37 (0,0))
 bel:Up w W
 rows:∀ r∈l,W.ownsRow w.heap.size r.e r.k r.v r.n r.xs
 ty:∀ r∈l,r.e≠37
 le:N≤W.heap.size
section
variable {w W W':World} {S us:Array Value} {l:List Es} {N:Nat}
theorem RO.here (h:RO w S N W us l):RO w S W.heap.size W us l:=⟨h.at_,h.src,h.res,h.bel,h.rows,h.ty,fL⟩
theorem RO.fin (h:RO w S N W us l) (cs):(∀ r∈l,(W.setRow (w.heap.size+1) cs).ownsRow w.heap.size r.e r.k r.v r.n r.xs)∧Up w (W.setRow (w.heap.size+1) cs):=
 ⟨fun r a=>iG (h.rows r a) (BL W _ cs) (gS (h.rows r a) h.res (h.ty r a)),below_setRow h.bel (Nat.le_succ _) cs⟩
theorem RO.up (h:RO w S N W us l) (a:Up W W'):RO w S N W' us l:=
 ⟨gk a h.at_,gk a h.src,gk a h.res,gj h.bel a,fun r b=>gy (h.rows r b) a,h.ty,fO h.le a.size⟩
theorem RO.set (h:RO w S N W us l) i (u):RO w S N (W.setCell ⟨w.heap.size+2,i,none⟩ u) (us.setIfInBounds i u) l:=
 ⟨jb h.at_ i u,(iY f_).trans h.src,(iY f_).trans h.res,gO h.bel f_ u,fun r a=>h_ (h.rows r a) h.at_ (h.ty r a),h.ty,by rw[kj];exact h.le⟩
theorem RO.add (h:RO w S N W us l) {e k n:Nat} {v xs} (b:W.ownsRow w.heap.size e k v n xs) (he:e≠37):RO w S N W us (⟨e,k,v,n,xs⟩ :: l):=
 ⟨h.at_,h.src,h.res,h.bel,fun r a=>by rcases List.mem_cons.1 a with rfl|a;exact b;exact h.rows r a,fun r a=>by rcases List.mem_cons.1 a with rfl|a;exact he;exact h.ty r a,h.le⟩
theorem RO.grown (h:RO w S N W us l) {e k n:Nat} {v xs} (b:W.ownsRow w.heap.size e k v n xs) (he:e≠37) (hl:∀ r∈l,r.e≠e) (a:W.grownBy W' v.ownBlock):RO w S N W' us l:=
 ⟨(
  a.block _ (gn h.at_) fun e=>gS b h.at_ he e.symm).trans h.at_,(a.block _ (gn h.src) fun e=>gS b h.src he e.symm).trans h.src,(a.block _ (gn h.res) fun e=>gS b h.res he e.symm).trans h.res,yY h.bel a fun g e=>(b.lt g e).1,
  fun r c=>nC (h.rows r c) a fun g e=>ku b (h.rows r c) (fun d=>hl r c d.symm) e,h.ty,fO h.le a.size⟩
end
theorem wE {P b rest o a w} {Q:Exit→Act→World→Prop} (c:o.guard=none) ty (x) (i:o.op = .load ty x)
 (g k) (d:a.eval x = fG (some ⟨g,k,none⟩)) (v) (e:(loadVar ty ⟨g,k,none⟩).run P w = .ok v w)
 (h:wpList P b Q rest (a.put o.dst v) w):wpList P b Q (o :: rest) a w:=
 wpList_plain c fun _ f=>by
  unfold Oper.wp execOp;simp only[i,d,Instr.loadAt,Instr.sureAddr,Sem.run_bind,Sem.run_pure,Result.andThen_ok,e];exact f _ _ h
structure lf {α:Type} (W:World) (B e k:Nat) (len:α→Nat) (f:α→List Value) (rs:List Value) (l:List α):Prop where
 size:rs.length=l.length
 each:∀ (i:Nat) (r:Value) (x:α),rs[i]? = some r→l[i]? = some x→W.ownsRow B e k r (len x) (f x)
section
variable {α:Type} {W W':World} {B e k:Nat} {len:α→Nat} {f:α→List Value} {rs:List Value} {l:List α}
theorem lf.up (h:lf W B e k len f rs l) (a:Up W W'):lf W' B e k len f rs l:=⟨h.size,fun i r x b c=>gy (h.each i r x b c) a⟩
theorem lf.set (h:lf W B e k len f rs l) {b T cs} (a:W.heap[b]? = some (d_ cs T (0,0))) (d:e≠T) (i) (u):lf (W.setCell ⟨b,i,none⟩ u) B e k len f rs l:=⟨h.size,fun i r x c g=>h_ (h.each i r x c g) a d⟩
theorem lf.row (h:lf W B e k len f rs l) {b T cs} (d:W.heap[b]? = some (d_ cs T (0,0))) (g:e≠T) (cs'):lf (W.setRow b cs') B e k len f rs l:=⟨h.size,fun i r x a c=>iG (h.each i r x a c) (BL W b cs') (gS (h.each i r x a c) d g)⟩
theorem lf.grown (h:lf W B e k len f rs l) {m c o n:Nat} {v xs} (d:W.ownsRow m c o v n xs) (he:c≠e) (j:W.grownBy W' v.ownBlock):lf W' B e k len f rs l:=
 ⟨h.size,fun i r x a b=>nC (h.each i r x a b) j fun g e=>ku d (h.each i r x a b) he e⟩
theorem lf.snoc (h:lf W B e k len f rs l) {r x} (c:W.ownsRow B e k r (len x) (f x)):lf W B e k len f (rs ++ [r]) (l ++ [x]):=by
 refine⟨by simp[h.size],fun i r' b h1 h2=>?_⟩;by_cases a:i<l.length
 · rw[List.getElem?_append_left (by rw[h.size];exact a)] at h1
   rw[List.getElem?_append_left a] at h2;exact h.each i r' b h1 h2
 · have hl:i<l.length+1:=by have:=(fR h2).1;simpa using this
   have d:i=l.length:=by omega
   subst d;rw[←h.size] at h1;rw[List.getElem?_append_right fL] at h1;rw[List.getElem?_append_right fL] at h2;simp at h1 h2;subst h1 h2;exact c
end
def Ff (w:World) (M:i8) (e:Ending) (w':World):Prop:=∃ c i a b k d h f j qs,e =fH (e_ #[c,i,a,b,k,d,h,f,j])∧jH w' w.heap.size c i a b k d h f j qs M ∧
 (∀ q∈qs,∀ g,q.ownBlock=some g→a.ownBlock≠some g ∧ ∃ l,w'.heap[g]? = some (d_ l 3 (0,0)))∧rF c a b d∧Up w w'
theorem nU v M H N w (hm:gJ w v M) (hg:gF M H N) (hN:N≤100000) :
 Calls gd 47 #[v] w (Ff w M):=by
 obtain⟨wv,hv,ev,m1,m2,m3,dv,lv,tv,qs,rfl,hp⟩:=hm;obtain⟨a1,c1,rfl⟩:=gN hp.words;obtain⟨a2,c2,rfl⟩:=gN hp.harts;obtain⟨a3,c3,rfl⟩:=gN hp.ends;obtain⟨a5,c5,rfl⟩:=gN hp.devs;obtain⟨a6,c6,rfl⟩:=gN hp.lines;obtain⟨a7,c7,rfl⟩:=gN hp.trace;obtain⟨b1,d1,b2,d2,b3,d3,rows,em,g1,g2,g3,g4⟩:=hp.mem.parts;injection em with em
 have e1:m1 =a_ b1 M.mem.words.length d1:=by have:=congrArg (·[0]?) em;simpa using this
 have e2:m2 =a_ b2 M.mem.pend.length d2:=by have:=congrArg (·[1]?) em;simpa using this
 have e3:m3 =a_ b3 M.mem.res.length d3:=by have:=congrArg (·[2]?) em;simpa using this
 subst e1 e2 e3;clear em;have hs:=hg.small;have s1:=hg.words;have s2:=hg.few;have s3:=hg.harts;have s4:=hg.ends;have s5:=hg.devs;have s6:=hg.lines;have s7:=hg.trace;have s8:=hs.words;have s9:=hs.pend;have b6:=hs.res;have HS:=gg hs.each;have HI:=gg hg.dev;have H1:=gg (gl.own hp.words (Di _));have H2:=gg (gl.own hp.harts (fun u hu=>by obtain⟨x,_,hx⟩:=List.mem_flatMap.1 hu;exact o8 x u hx));have H3:=gg (gl.own hp.ends (Di _));have H5:=gg hp.devs;have H6:=gg (gl.own hp.lines (fun u hu=>by obtain⟨x,_,hx⟩:=List.mem_flatMap.1 hu;exact Dk x u hx));have H7:=gg (gl.own hp.trace (fun u hu=>by obtain⟨x,_,hx⟩:=List.mem_flatMap.1 hu;exact El x u hx));have G1:=gg g1;have G2:=gg g2;have G3:=gg g3;have G4:=gg g4;have HQ:=gg hp.ques;have t2:H≤4:=s2.2;clear hp g1 g2 g3 g4 hs hg s2;obtain⟨C,aN⟩:∃ n,M.words.length=n:=⟨_,rfl⟩;rw[aN] at H1 s1;have cj:=gg aN;obtain⟨E,aE⟩:∃ n,M.harts.length=n:=⟨_,rfl⟩;rw[aE] at H2 s3;have bF:=gg aE;obtain⟨G,aq⟩:∃ n,M.ends.length=n:=⟨_,rfl⟩;rw[aq] at H3 s4;have cl:=gg aq;obtain⟨Z,av⟩:∃ n,M.devs.length=n:=⟨_,rfl⟩;rw[av] at H5 s5;have aB:=gg av;obtain⟨n6,aO⟩:∃ n,M.lines.length=n:=⟨_,rfl⟩;rw[aO] at H6 s6;have cp:=gg aO;obtain⟨n7,aM⟩:∃ n,M.trace.length=n:=⟨_,rfl⟩;rw[aM] at H7 s7;have cf:=gg aM;obtain⟨I,aG⟩:∃ n,M.mem.words.length=n:=⟨_,rfl⟩;rw[aG] at G1 s8;have ch:=gg aG;obtain⟨K,aH⟩:∃ n,M.mem.pend.length=n:=⟨_,rfl⟩;rw[aH] at G2 s9;have a0:=gg aH;obtain⟨J,ar⟩:∃ n,M.mem.res.length=n:=⟨_,rfl⟩;rw[ar] at G3 b6;have bO:=gg ar;rw[aN,aE,aq,av,aO,aM,aG,aH,ar];clear aN aE aq av aO aM aG aH ar;have t3:E≤4:=by omega
 have t4:G≤4:=by omega
 clear s3 s4 t2;obtain⟨j0,hj,al,an,ao⟩:=info_parts yT;obtain⟨ih,b8,b7,b4,bS⟩:=info_parts EZ;obtain⟨il,bL,bA,bH,cb⟩:=info_parts GA;obtain⟨ia,cm,cn,bW,cq⟩:=info_parts EI;obtain⟨ie,bU,cc,bY,bX⟩:=info_parts BN;obtain⟨ip,bJ,bZ,bT,bK⟩:=info_parts Ej;obtain⟨ic,cg,bP,bV,cd⟩:=info_parts EH;obtain⟨w0,bd,bh,bi,bj,bg,cz⟩:=Eh w (d_ #[a_ a1 C c1,a_ a2 E c2,a_ a3 G c3,a_ b1 I d1,a_ b2 K d2,a_ b3 J d3,a_ a5 Z c5,a_ a6 n6 c6,a_ a7 n7 c7] 37) (d_ gq 37) (d_ gq 37);have O0:gi (RO w #[a_ a1 C c1,a_ a2 E c2,a_ a3 G c3,a_ b1 I d1,a_ b2 K d2,a_ b3 J d3,a_ a5 Z c5,a_ a6 n6 c6,a_ a7 n7 c7] 0 w0 #[a_ none 0 0,a_ none 0 0,a_ none 0 0,a_ none 0 0,a_ none 0 0,a_ none 0 0,a_ none 0 0,a_ none 0 0,a_ none 0 0] []):=gg ⟨bj,bh,bi,bg,fun r hr=>(by cases hr),fun r hr=>(by cases hr),fM⟩;clear bh bi bj bg
 go_in
 go_upto_region 2 with(fail)
 rw[←bd];clear bd;obtain⟨U,T,B,O,Q,S,R,W,X⟩:=gU O0.o.src;obtain⟨y,f,t,k3,m,d,z,A,a⟩:=gU O0.o.at_;have fz:=fun i=>gC O0.o.at_ i
 have z0:=fz 0;have z1:=fz 1;have z2:=fz 2;have z3:=fz 3;have z4:=fz 4;have z5:=fz 5;have z6:=fz 6;have z7:=fz 7;have z8:=fz 8;clear fz;go_upto_region 3 with(at_builtin;refine jc _ rfl _ _ 24 3 rfl j0 (b_ c_ 0) 1 8 Tryz.underlying24 hj al an ao rfl fZ rfl _ _ _ rfl (H1.o.below O0.o.bel) f_ ?_;intro v2 u2 ae ab;obtain⟨V,rw,rfl⟩:=gN ae;have P2:=gg (((O0.o.up ab).add (jW ae O0.o.bel.size) fZ));have Lw:=gg (fun g=>ae.lt g);have Sw:=gg ab.size;clear ae ab U T B O Q S R W X y f t k3 m d z A a z0 z1 z2 z3 z4 z5 z6 z7 z8;obtain⟨y,f,t,k3,m,d,z,A,a⟩:=gU P2.o.at_;have z0:=gC P2.o.at_ 0)
 have O1:gi (RO w _ _ (u2.setCell ⟨w.heap.size+2,0,none⟩ (a_ V C rw)) #[a_ V C rw,a_ none 0 0,a_ none 0 0,a_ none 0 0,a_ none 0 0,a_ none 0 0,a_ none 0 0,a_ none 0 0,a_ none 0 0] _):=gg (P2.o.set 0 _);have Z1:gi (u2.heap.size=(u2.setCell ⟨w.heap.size+2,0,none⟩ (a_ V C rw)).heap.size):=gg (kj _ _ _).symm;clear y f t k3 m d z A a z0 P2;generalize u2.setCell ⟨w.heap.size+2,0,none⟩ (a_ V C rw)=w1 at *
 obtain⟨U,T,B,O,Q,S,R,W,X⟩:=gU O1.o.src;obtain⟨y,f,t,k3,m,d,z,A,a⟩:=gU O1.o.at_;have fz:=fun i=>gC O1.o.at_ i
 have z0:=fz 0;have z1:=fz 1;have z2:=fz 2;have z3:=fz 3;have z4:=fz 4;have z5:=fz 5;have z6:=fz 6;have z7:=fz 7;have z8:=fz 8;clear fz;go_upto_region 4 with(at_builtin;refine jc _ rfl _ _ 30 56 rfl ih (e_ zA) 39 312 Tryz.underlying30 b8 b7 b4 bS rfl fZ rfl _ _ _ rfl (H2.o.below O1.o.bel) f_ ?_;intro v3 u3 ay aU;obtain⟨Y,rh,rfl⟩:=gN ay;have P3:=gg (((O1.o.up aU).add (jW ay O1.o.bel.size) fZ));have Lh:=gg (fun g=>ay.lt g);have Sh:=gg aU.size;clear ay aU U T B O Q S R W X y f t k3 m d z A a z0 z1 z2 z3 z4 z5 z6 z7 z8;obtain⟨y,f,t,k3,m,d,z,A,a⟩:=gU P3.o.at_;have z1:=gC P3.o.at_ 1)
 have O2:gi (RO w _ _ (u3.setCell ⟨w.heap.size+2,1,none⟩ (a_ Y E rh)) #[a_ V C rw,a_ Y E rh,a_ none 0 0,a_ none 0 0,a_ none 0 0,a_ none 0 0,a_ none 0 0,a_ none 0 0,a_ none 0 0] _):=gg (P3.o.set 1 _);have Z2:gi (u3.heap.size=(u3.setCell ⟨w.heap.size+2,1,none⟩ (a_ Y E rh)).heap.size):=gg (kj _ _ _).symm;clear y f t k3 m d z A a z1 P3;generalize u3.setCell ⟨w.heap.size+2,1,none⟩ (a_ Y E rh)=w2 at *
 obtain⟨U,T,B,O,Q,S,R,W,X⟩:=gU O2.o.src;obtain⟨y,f,t,k3,m,d,z,A,a⟩:=gU O2.o.at_;have fz:=fun i=>gC O2.o.at_ i
 have z0:=fz 0;have z1:=fz 1;have z2:=fz 2;have z3:=fz 3;have z4:=fz 4;have z5:=fz 5;have z6:=fz 6;have z7:=fz 7;have z8:=fz 8;clear fz;go_upto_region 5 with(at_builtin;refine jc _ rfl _ _ 24 3 rfl j0 (b_ c_ 0) 1 8 Tryz.underlying24 hj al an ao rfl fZ rfl _ _ _ rfl (H3.o.below O2.o.bel) f_ ?_;intro v4 u4 aw aZ;obtain⟨pe,re,rfl⟩:=gN aw;have P4:=gg (((O2.o.up aZ).add (jW aw O2.o.bel.size) fZ));have Le:=gg (fun g=>aw.lt g);have Se:=gg aZ.size;clear aw aZ U T B O Q S R W X y f t k3 m d z A a z0 z1 z2 z3 z4 z5 z6 z7 z8;obtain⟨y,f,t,k3,m,d,z,A,a⟩:=gU P4.o.at_;have z2:=gC P4.o.at_ 2)
 have O3:gi (RO w _ _ (u4.setCell ⟨w.heap.size+2,2,none⟩ (a_ pe G re)) #[a_ V C rw,a_ Y E rh,a_ pe G re,a_ none 0 0,a_ none 0 0,a_ none 0 0,a_ none 0 0,a_ none 0 0,a_ none 0 0] _):=gg (P4.o.set 2 _);have Z3:gi (u4.heap.size=(u4.setCell ⟨w.heap.size+2,2,none⟩ (a_ pe G re)).heap.size):=gg (kj _ _ _).symm;clear y f t k3 m d z A a z2 P4;generalize u4.setCell ⟨w.heap.size+2,2,none⟩ (a_ pe G re)=w3 at *
 have O3:=gg O3.o.here;obtain⟨U,T,B,O,Q,S,R,W,X⟩:=gU O3.o.src;obtain⟨y,f,t,k3,m,d,z,A,a⟩:=gU O3.o.at_;have fz:=fun i=>gC O3.o.at_ i
 have z0:=fz 0;have z1:=fz 1;have z2:=fz 2;have z3:=fz 3;have z4:=fz 4;have z5:=fz 5;have z6:=fz 6;have z7:=fz 7;have z8:=fz 8;clear fz;go_upto_region 6 with(at_builtin;refine jc _ rfl _ _ 24 3 rfl j0 (b_ c_ 0) 1 8 Tryz.underlying24 hj al an ao rfl fZ rfl _ _ _ rfl (G1.o.below O3.o.bel) f_ ?_;intro v5 u5 ac aR;obtain⟨pm,rm,rfl⟩:=gN ac;have P5:=gg (((O3.o.up aR).add (jW ac O3.o.bel.size) fZ));have Lm:=gg (fun g=>ac.lt g);have Sm:=gg aR.size;clear ac aR U T B O Q S R W X y f t k3 m d z A a z0 z1 z2 z3 z4 z5 z6 z7 z8;obtain⟨y,f,t,k3,m,d,z,A,a⟩:=gU P5.o.at_;have z3:=gC P5.o.at_ 3)
 have O4:gi (RO w _ _ (u5.setCell ⟨w.heap.size+2,3,none⟩ (a_ pm I rm)) #[a_ V C rw,a_ Y E rh,a_ pe G re,a_ pm I rm,a_ none 0 0,a_ none 0 0,a_ none 0 0,a_ none 0 0,a_ none 0 0] _):=gg (P5.o.set 3 _);have Z4:gi (u5.heap.size=(u5.setCell ⟨w.heap.size+2,3,none⟩ (a_ pm I rm)).heap.size):=gg (kj _ _ _).symm;clear y f t k3 m d z A a z3 P5;generalize u5.setCell ⟨w.heap.size+2,3,none⟩ (a_ pm I rm)=w4 at *
 obtain⟨U,T,B,O,Q,S,R,W,X⟩:=gU O4.o.src;obtain⟨y,f,t,k3,m,d,z,A,a⟩:=gU O4.o.at_;have fz:=fun i=>gC O4.o.at_ i
 have z0:=fz 0;have z1:=fz 1;have z2:=fz 2;have z3:=fz 3;have z4:=fz 4;have z5:=fz 5;have z6:=fz 6;have z7:=fz 7;have z8:=fz 8;clear fz;go_upto_region 7 with(at_builtin;refine jc _ rfl _ _ 24 3 rfl j0 (b_ c_ 0) 1 8 Tryz.underlying24 hj al an ao rfl fZ rfl _ _ _ rfl (G3.o.below O4.o.bel) f_ ?_;intro v6 u6 aI aW;obtain⟨ps,rs,rfl⟩:=gN aI;have P6:=gg (((O4.o.up aW).add (jW aI O4.o.bel.size) fZ));have Ls:=gg (fun g=>aI.lt g);have Ss:=gg aW.size;clear aI aW U T B O Q S R W X y f t k3 m d z A a z0 z1 z2 z3 z4 z5 z6 z7 z8;obtain⟨y,f,t,k3,m,d,z,A,a⟩:=gU P6.o.at_;have z5:=gC P6.o.at_ 5)
 have O5:gi (RO w _ _ (u6.setCell ⟨w.heap.size+2,5,none⟩ (a_ ps J rs)) #[a_ V C rw,a_ Y E rh,a_ pe G re,a_ pm I rm,a_ none 0 0,a_ ps J rs,a_ none 0 0,a_ none 0 0,a_ none 0 0] _):=gg (P6.o.set 5 _);have Z5:gi (u6.heap.size=(u6.setCell ⟨w.heap.size+2,5,none⟩ (a_ ps J rs)).heap.size):=gg (kj _ _ _).symm;clear y f t k3 m d z A a z5 P6;generalize u6.setCell ⟨w.heap.size+2,5,none⟩ (a_ ps J rs)=w5 at *
 obtain⟨l5,O6,R5,E5⟩:∃ l5,gi (RO w #[a_ a1 C c1,a_ a2 E c2,a_ a3 G c3,a_ b1 I d1,a_ b2 K d2,a_ b3 J d3,a_ a5 Z c5,a_ a6 n6 c6,a_ a7 n7 c7] w3.heap.size w5 #[a_ V C rw,a_ Y E rh,a_ pe G re,a_ pm I rm,a_ none 0 0,a_ ps J rs,a_ none 0 0,a_ none 0 0,a_ none 0 0] l5)∧gi (∀ P:Es→Prop,(∀ r∈l5,P r)→P ⟨3,1,a_ V C rw,C,gz M.words⟩∧P ⟨56,39,a_ Y E rh,E,iC hC M.harts⟩∧P ⟨3,1,a_ pe G re,G,gz M.ends⟩∧P ⟨3,1,a_ pm I rm,I,gz M.mem.words⟩∧P ⟨3,1,a_ ps J rs,J,gz M.mem.res⟩)∧gi (∀ r∈l5,r.e≠57∧r.e≠75):=
  ⟨_,O5,gg fun P h=>⟨h _ (.tail _ (.tail _ (.tail _ (.tail _ (.head _))))),h _ (.tail _ (.tail _ (.tail _ (.head _)))),h _ (.tail _ (.tail _ (.head _))),h _ (.tail _ (.head _)),h _ (.head _)⟩,gg gb⟩
 clear O0 O1 O2 O3 O4 O5
 go_wp2_with fail
 go_loopw [4] (fun i wr=>∃ (k:Nat) (p2:Option Addr) (r2:Nat) (rr:List Value),k≤K∧i =b_ c_ k∧gi (RO w #[a_ a1 C c1,a_ a2 E c2,a_ a3 G c3,a_ b1 I d1,a_ b2 K d2,a_ b3 J d3,a_ a5 Z c5,a_ a6 n6 c6,a_ a7 n7 c7] w3.heap.size wr #[a_ V C rw,a_ Y E rh,a_ pe G re,a_ pm I rm,a_ p2 k r2,a_ ps J rs,a_ none 0 0,a_ none 0 0,a_ none 0 0] l5)∧gi (wr.ownsRow w.heap.size 57 1 (a_ p2 k r2) k rr)∧gi (lf wr w.heap.size 127 2 List.length gW rr (M.mem.pend.take k))) (fun i _=>K - (intOf i).toNat)
 case atStart=>exact⟨0,none,0,[],fM,rfl,O6,gg (World.ownsRow_nil _ _ _ _),gg ⟨by simp,fun i r x h=>by simp at h⟩⟩
 case round=>
  obtain⟨k,p2,r2,rr,hk,rfl,OR,HP,HN⟩:=hrel;obtain⟨U,T,B,O,Q,S,R,W,X⟩:=gU OR.o.src;by_cases aD:k<K
  · obtain⟨b,o,c,e2,bl,hc2,b0,bx⟩:=G2.o.some f_
    injection e2 with e3 e4 e5
    subst e3 e5;have ba:k<M.mem.pend.length:=by rw[a0.o];exact aD
    have cB:k<rows.length:=by rw[G4.o.1];exact ba
    have aP:=G4.o.2 k rows[k] M.mem.pend[k] gb gb;obtain⟨ra,rc,bb⟩:=gN aP;have aS:=bx k rows[k] gb;rw[bb] at aS aP;have HR:=gg (gl.own aP (tI _));have bC:=gg (hZ.up ⟨bl,aS⟩ OR.o.bel);have cs:=HS.o M.mem.pend[k] gb;unfold maxLen at b0;clear bx bb aP e4 aS;have bN:gi (M.mem.pend.take (k+1)=M.mem.pend.take k ++ [M.mem.pend[k]]):=gg (fP ba);generalize M.mem.pend[k]=L at *
    go_wp2_with fail
    clear U T B O Q S R W X;have ik:(k:Int)<(K:Int):=by omega
    have cr:(0:Int)≤(k:Int):=by omega
    refine fY (fun w'=>RO w _ _ w' _ l5∧hZ w' b (o+k) (a_ ra L.length rc)) 12 [true,true,true,true,true,true,true,true,true] (fun _ _ h hu=>⟨h.1.up hu,h.2.up hu⟩) ⟨OR.o,bC.o⟩ ?a2 ?h2 ?ht2
    case h2=>
     intro w0 ⟨hc,aY⟩;have y1:=fun x=>gD (gn hc.src) (gU hc.src).2.2.2.2.1 x
     have y2:=fun x=>gD (gn hc.at_) (gU hc.at_).2.2.2.2.1 x
     have y4:=fun x=>gD aY.1 aY.2 x
     clear hc aY;simp only[jd];repeat(go_big_quiet_step (fail))
     refine wpQuiet_nil ?_
     rfl
    case ht2=>
     change kD _ _ _ _ _ _ 3 _ _ _;refine jQ (i:=9) ga fZ rfl ?_
     intro v1 bw ⟨hc1,bu⟩;have a4:Up wr v1:=gj (iR fK) bw;have P1:=gg (gy HP.o a4);have N1:=gg (HN.o.up a4);have B1:=gg hc1.bel;clear a4 bw;refine jc _ rfl _ _ 57 127 rfl ie (e_ #[b_ c_ 0,b_ c_ 0]) 2 16 Tryz.underlying57 bU cc bY bX rfl fZ rfl _ L.length _ rfl (HR.o.below B1.o) f_ ?_
     intro r1 v2 a9 ab;obtain⟨xr,yr,rfl⟩:=gN a9;have Q2:=gg (jW a9 B1.o.size);have P2:=gg (gy P1.o ab);have N2:=gg (N1.o.up ab);clear a9 P1 N1
     go_wp2_with fail
     refine⟨⟨hc1.up ab,bu.up ab⟩,?_⟩;clear ab hc1 bu;refine jQ (i:=10) ga fZ rfl ?_
     intro v3 aF ⟨bt,br⟩;have Q3:=gg (gy Q2.o aF);have P3:=gg (gy P2.o aF);have N3:=gg (N2.o.up aF);clear aF Q2 P2 N2
     go_wp2_with fail
     refine⟨⟨bt.up (gr v3 _),br.up (gr v3 _)⟩,?_⟩;clear bt br;refine jQ (i:=11) ga fZ rfl ?_
     intro v4 aX ⟨aV,aC⟩;have ax:=gj (gr v3 _) aX;have Q4:=gg (gy Q3.o ax);have P4:=gg (gy P3.o ax);have N4:=gg (N3.o.up ax)
     have bz:gi (∀ j u,[a_ xr L.length yr][j]? = some u→v4.cell? ((⟨v3.heap.size,0,none⟩:Addr).add j)=some u):=gg (fun j u hj=>by
      have h1:=te (e:=57) v3 (a_ xr L.length yr) j u hj;rw[kx] at h1 ⊢
      exact(aX.cell (p:=⟨v3.heap.size,0+j,none⟩) gb).trans h1)
     have co:=aV.bel.size;clear aX ax Q3 P3 N3;have bE:k+1≤maxLen:=by unfold maxLen;omega
     refine wpList_append_own _ rfl _ _ 31 rfl w.heap.size 57 ip (a_ none 0 0) 1 24 Tryz.underlying31 bJ bZ bT bK rfl fZ _ _ _ rfl P4.o ⟨v3.heap.size,0,none⟩ 1 1 [a_ xr L.length yr] rfl rfl bz.o (by simp[Value.oneCell']) bE f_ co ?_
     intro r5 v5 ac ad _;obtain⟨xv,yv,rfl⟩:=gN ac;have C5:=aV.grown P4.o fZ (fun r hr=>(E5.o r hr).1) ad
     have bc:hZ v5 b (o+k) (a_ ra L.length rc):=by
      have e:=ad.block b aC.1 (fun e=>by have:=(P4.o.lt b e.symm).1;omega);refine⟨fN aC.1 ad.size,?_⟩;have h2:=aC.2;unfold World.cell? at h2 ⊢
      simp only[e];exact h2
     have N5:=gg ((N4.o.snoc Q4.o).grown P4.o fZ ad);have P5:=gg ac;clear aV aC ac ad P4 N4 Q4 bz
     go_wp2_with fail
     refine⟨⟨C5,bc⟩,?_⟩;clear C5 bc;refine lR ga ?_
     intro v6 a8 ⟨ai,_⟩;have O7:=gg (ai.set 4 (a_ xv (k+1) yv));have P7:=gg (h_ (j:=4) (u:=a_ xv (k+1) yv) (gy P5.o a8) ai.at_ fZ);have N7:=gg ((N5.o.up a8).set ai.at_ fZ 4 (a_ xv (k+1) yv));obtain⟨y,f,t,k3,m,d,z,A,a⟩:=gU ai.at_;have z4:=gC ai.at_ 4;clear a8 ai P5 N5;simp only[List.drop_succ_cons,List.drop_zero]
     go_wp2
     go_roundw
     case rel=>exact⟨k+1,_,_,_,by omega,by go_num,O7,P7,by rw[bN.o];exact N7⟩
     case measure=>simp[intOf];omega
  · obtain rfl:K=k:=by omega
    have N8:gi (lf wr w.heap.size 127 2 List.length gW rr M.mem.pend):=gg (by have:=HN.o;rwa [List.take_of_length_le (Nat.le_of_eq a0.o)] at this);have O8:=gg (OR.o.add HP.o fZ);clear HP HN OR
    obtain⟨l6,O9,R6,E6⟩:∃ l6,gi (RO w #[a_ a1 C c1,a_ a2 E c2,a_ a3 G c3,a_ b1 I d1,a_ b2 K d2,a_ b3 J d3,a_ a5 Z c5,a_ a6 n6 c6,a_ a7 n7 c7] w3.heap.size wr #[a_ V C rw,a_ Y E rh,a_ pe G re,a_ pm I rm,a_ p2 K r2,a_ ps J rs,a_ none 0 0,a_ none 0 0,a_ none 0 0] l6)∧gi (∀ P:Es→Prop,(∀ r∈l6,P r)→(∀ r∈l5,P r)∧P ⟨57,1,a_ p2 K r2,K,rr⟩)∧gi (∀ r∈l6,r.e≠75):=
     ⟨_,O8,gg fun P h=>⟨fun r hr=>h r (.tail _ hr),h _ (.head _)⟩,gg fun r hr=>(List.mem_cons.1 hr).elim (fun e=>by rw[e];show 57≠75;decide) (fun hr=>(E5.o r hr).2)⟩
    clear O8 U T B O Q S R W X;obtain⟨wz,bq⟩:∃ x,wr=x:=⟨_,rfl⟩;rw[bq] at O9 N8 ⊢
    clear bq wr;obtain⟨U,T,B,O,Q,S,R,W,X⟩:=gU O9.o.src
    go_wp2_with fail
    go_loopw [5] (fun i wr=>∃ (j:Nat) (p5:Option Addr) (r5:Nat) (qq:List Value),j≤Z∧i =b_ c_ j∧gi (RO w #[a_ a1 C c1,a_ a2 E c2,a_ a3 G c3,a_ b1 I d1,a_ b2 K d2,a_ b3 J d3,a_ a5 Z c5,a_ a6 n6 c6,a_ a7 n7 c7] w3.heap.size wr #[a_ V C rw,a_ Y E rh,a_ pe G re,a_ pm I rm,a_ p2 K r2,a_ ps J rs,a_ p5 j r5,a_ none 0 0,a_ none 0 0] l6)∧gi (wr.ownsRow w.heap.size 75 8 (a_ p5 j r5) j (iC sC ((M.devs.take j).zip qq)))∧gi (lf wr w3.heap.size 3 1 (fun s=>s.q.length) qL qq (M.devs.take j))∧gi (lf wr w.heap.size 127 2 List.length gW rr M.mem.pend)) (fun i _=>Z - (intOf i).toNat)
    case atStart=>exact⟨0,none,0,[],fM,rfl,O9,gg (World.ownsRow_nil _ _ _ _),gg ⟨by simp,fun i r x h=>by simp at h⟩,N8⟩
    case round=>
     obtain⟨j,p5,r5,qq,cC,rfl,OR,HD,HN,HE⟩:=hrel;clear U T B O Q S R W X;obtain⟨U,T,B,O,Q,S,R,W,X⟩:=gU OR.o.src;by_cases aD:j<Z
     · have aQ:j<M.devs.length:=by rw[aB.o];exact aD
       have ck:j<qs.length:=by rw[HQ.o.1];exact aQ
       obtain⟨g,c,cw,e2,hg,_⟩:=uO H5.o f_;injection e2 with e3 _ e5
       subst e3 e5;have aT:=EF H5.o rfl aD (tK (M.devs[j],qs[j])) (fun i hi=>lI (fun x _=>tK x) (List.getElem?_zip_eq_some.2 ⟨fQ aQ,fQ ck⟩) hi);have aK:=HQ.o.2 j qs[j] M.devs[j] gb gb;have bR:M.devs[j].q.length≤16:=(HI.o _ (List.getElem_mem aQ)).q;obtain⟨qa,qc,be⟩:=aK.shape;rw[be] at aT aK;have bm:gi (M.devs.take (j+1)=M.devs.take j ++ [M.devs[j]]):=gg (fP aQ);have b9:=gn hg;have bk:gi (wr.rangeAt g (j*8) (sC (M.devs[j],a_ qa M.devs[j].q.length qc))):=gg (fun i u hu=>(OR.o.bel.cell (p:=⟨g,j*8+i,none⟩) b9).trans (aT i u hu));have bo:=gg (aK.below OR.o.bel);clear aT aK be hg;generalize M.devs[j]=D at *
       obtain⟨n,hn⟩:∃ n,D.q.length=n:=⟨_,rfl⟩;have bD:=gg hn;rw[hn] at bk bo bR;clear hn;have ij:(j:Int)<(Z:Int):=by omega
       have cy:(0:Int)≤(j:Int):=by omega
       go_upto_region 15 with(first|(refine wE (o:=⟨_,.load _ _,_,_,_,_⟩) rfl 75 _ rfl g (j*8) rfl (e_ #[b_ c_ D.k,b_ c_ D.r0,b_ c_ D.r1,b_ c_ D.r2,b_ c_ D.r3,a_ qa n qc,b_ c_ D.sent,fJ D.ra]) (A0 bk.o) ?_)|(refine wpList_store_row rfl 75 _ _ rfl wr.heap.size #[b_ c_ D.k,b_ c_ D.r0,b_ c_ D.r1,b_ c_ D.r2,b_ c_ D.r3,a_ qa n qc,b_ c_ D.sent,fJ D.ra] rfl rfl 75 #[b_ c_ 0,b_ c_ 0,b_ c_ 0,b_ c_ 0,b_ c_ 0,a_ none 0 0,b_ c_ 0,fJ false] (gH wr _) g_ rfl (by simp[Value.oneCell']) ?_))
       have B1:Up wr ((wr.alloc (d_ #[b_ c_ 0,b_ c_ 0,b_ c_ 0,b_ c_ 0,b_ c_ 0,a_ none 0 0,b_ c_ 0,fJ false] 75)).setRow wr.heap.size #[b_ c_ D.k,b_ c_ D.r0,b_ c_ D.r1,b_ c_ D.r2,b_ c_ D.r3,a_ qa n qc,b_ c_ D.sent,fJ D.ra]):=below_setRow (gr wr _) fL _;have X1:((wr.alloc (d_ #[b_ c_ 0,b_ c_ 0,b_ c_ 0,b_ c_ 0,b_ c_ 0,a_ none 0 0,b_ c_ 0,fJ false] 75)).setRow wr.heap.size #[b_ c_ D.k,b_ c_ D.r0,b_ c_ D.r1,b_ c_ D.r2,b_ c_ D.r3,a_ qa n qc,b_ c_ D.sent,fJ D.ra]).heap[wr.heap.size]? = some (d_ #[b_ c_ D.k,b_ c_ D.r0,b_ c_ D.r1,b_ c_ D.r2,b_ c_ D.r3,a_ qa n qc,b_ c_ D.sent,fJ D.ra] 75 (0,0)):=setRow_heap _ _ _ _ _ _ (gH wr _);generalize (wr.alloc (d_ #[b_ c_ 0,b_ c_ 0,b_ c_ 0,b_ c_ 0,b_ c_ 0,a_ none 0 0,b_ c_ 0,fJ false] 75)).setRow wr.heap.size #[b_ c_ D.k,b_ c_ D.r0,b_ c_ D.r1,b_ c_ D.r2,b_ c_ D.r3,a_ qa n qc,b_ c_ D.sent,fJ D.ra]=v1 at *
       have aL:=gg B1;have bv:=gg X1;obtain⟨g0,g1,g2,g3,g4,g5,g6,g7,f0,f1,f2,f3,f4,f5,f6,f7⟩:=jz X1;clear B1 X1;go_upto_region 16 with(at_builtin;refine jc _ rfl _ _ 24 3 rfl j0 (b_ c_ 0) 1 8 Tryz.underlying24 hj al an ao rfl fZ rfl _ n _ rfl (bo.o.below aL.o) f_ ?_;intro r2 v2 ae ab;obtain⟨B,y2,rfl⟩:=gN ae;have aA:=gg (gk ab bv.o);have bf:=gg (gj aL.o ab);have bp:=gg (jW ae (fO OR.o.le aL.o.size));clear ae ab g0 g1 g2 g3 g4 g5 g6 g7 f0 f1 f2 f3 f4 f5 f6 f7;obtain⟨g0,g1,g2,g3,g4,g5,g6,g7,f0,f1,f2,f3,f4,f5,f6,f7⟩:=jz aA.o)
       have B3:=gg (gO bf.o fL (a_ B n y2) (o:=5));have X3:gi ((v2.setCell ⟨wr.heap.size,5,none⟩ (a_ B n y2)).heap[wr.heap.size]? = some (d_ #[b_ c_ D.k,b_ c_ D.r0,b_ c_ D.r1,b_ c_ D.r2,b_ c_ D.r3,a_ B n y2,b_ c_ D.sent,fJ D.ra] 75 (0,0))):=gg (jb aA.o 5 _);have ca:=gg (h_ (j:=5) (u:=a_ B n y2) bp.o aA.o fZ);clear g0 g1 g2 g3 g4 g5 g6 g7 f0 f1 f2 f3 f4 f5 f6 f7 bv aA aL bf bp;generalize v2.setCell ⟨wr.heap.size,5,none⟩ (a_ B n y2)=v3 at *
       have B4:=gj B3.o (gr v3 (d_ #[b_ c_ D.k,b_ c_ D.r0,b_ c_ D.r1,b_ c_ D.r2,b_ c_ D.r3,a_ B n y2,b_ c_ D.sent,fJ D.ra] 75));have O4:=gg (OR.o.up B4);have au:=gg (gy HD.o B4);have bI:=gg (HN.o.up B4);have ci:=gg (HE.o.up B4);have ce:=gg (gy ca.o (gr v3 (d_ #[b_ c_ D.k,b_ c_ D.r0,b_ c_ D.r1,b_ c_ D.r2,b_ c_ D.r3,a_ B n y2,b_ c_ D.sent,fJ D.ra] 75)));clear B4;have bs:=OR.o.up B3.o;obtain⟨y,f,t,k3,m,d,z,A,a⟩:=gU bs.at_;clear bs
       go_wp2_with (first|(refine wpList_load_row rfl 75 _ rfl wr.heap.size rfl 75 #[b_ c_ D.k,b_ c_ D.r0,b_ c_ D.r1,b_ c_ D.r2,b_ c_ D.r3,a_ B n y2,b_ c_ D.sent,fJ D.ra] (0,0) _ X3.o Tryz.underlying75 rfl g_ ?_)|(at_builtin;refine wpList_append_own _ rfl _ _ 34 rfl w.heap.size 75 ic (e_ #[b_ c_ 0,b_ c_ 0,b_ c_ 0,b_ c_ 0,b_ c_ 0,a_ none 0 0,b_ c_ 0,fJ false]) 8 80 Tryz.underlying34 cg bP bV cd rfl fZ _ _ _ rfl au.o ⟨v3.heap.size,0,none⟩ 1 1 (sC (D,a_ B n y2)) rfl rfl (fun i u hu=>by rw[kx,Nat.zero_add];exact gv (gH v3 _) (by simpa[sC,gX] using hu)) (by simp[sC,gX,Value.oneCell']) (by unfold maxLen;omega) f_ O4.o.bel.size ?_;intro r5 v5 ac ad _;obtain⟨xv,yv,rfl⟩:=gN ac;have P5:=gg ac;have O5:=gg (O4.o.grown au.o fZ E6.o ad);have bG:=gg ((bI.o.snoc (x:=D) (by rw[bD.o];exact ce.o)).grown au.o fZ ad);have b5:=gg (ci.o.grown au.o fZ ad);clear ac ad y f t k3 m d z A a;obtain⟨y,f,t,k3,m,d,z,A,a⟩:=gU O5.o.at_;have z6:=gC O5.o.at_ 6))
       have O6:=gg (O5.o.set 6 (a_ xv (j+1) yv));have P6:=gg (h_ (j:=6) (u:=a_ xv (j+1) yv) P5.o O5.o.at_ fZ);have bB:=gg (bG.o.set O5.o.at_ fZ 6 (a_ xv (j+1) yv));have bM:=gg (b5.o.set O5.o.at_ fZ 6 (a_ xv (j+1) yv));go_roundw
       case rel=>
        refine⟨j+1,_,_,_,by omega,by go_num,O6,gg ?_,by rw[bm.o];exact bB,bM⟩;rw[bm.o,List.zip_append HN.o.size.symm,rz];have:=P6.o
        simpa[iC] using this
       case measure=>simp[intOf];omega
     · obtain rfl:Z=j:=by omega
       have aa:gi (lf wr w3.heap.size 3 1 (fun s=>s.q.length) qL qq M.devs):=gg (by have:=HN.o;rwa [List.take_of_length_le (Nat.le_of_eq aB.o)] at this);have aj:=gg (OR.o.add HD.o fZ);have bQ:gi (M.devs.take Z=M.devs):=gg (List.take_of_length_le (Nat.le_of_eq aB.o));clear HD HN OR U T B O Q S R W X

       obtain⟨U,T,B,O,Q,S,R,W,X⟩:=gU aj.o.src;obtain⟨y,f,t,k3,m,d,z,A,a⟩:=gU aj.o.at_;have fz:=fun i=>gC aj.o.at_ i
       have z0:=fz 0;have z1:=fz 1;have z2:=fz 2;have z3:=fz 3;have z4:=fz 4;have z5:=fz 5;have z6:=fz 6;have z7:=fz 7;have z8:=fz 8;clear fz;go_upto_region 18 with(at_builtin;refine jc _ rfl _ _ 25 64 rfl il (e_ #[b_ c_ 0,b_ c_ 0,fJ false]) 3 24 Tryz.underlying25 bL bA bH cb rfl fZ rfl _ _ _ rfl (H6.o.below aj.o.bel) f_ ?_;intro cD u17 az am;obtain⟨pl,rl,rfl⟩:=gN az;have ah:=gg (((aj.o.up am).add (jW az aj.o.bel.size) fZ));have Ll:=gg (fun g=>az.lt g);have Sl:=gg am.size;have aa:=gg (aa.o.up am);have HE:=gg (HE.o.up am);clear az am U T B O Q S R W X y f t k3 m d z A a z0 z1 z2 z3 z4 z5 z6 z7 z8;obtain⟨y,f,t,k3,m,d,z,A,a⟩:=gU ah.o.at_;have z7:=gC ah.o.at_ 7)
       have ag:gi (RO w _ _ (u17.setCell ⟨w.heap.size+2,7,none⟩ (a_ pl n6 rl)) #[a_ V C rw,a_ Y E rh,a_ pe G re,a_ pm I rm,a_ p2 K r2,a_ ps J rs,a_ p5 Z r5,a_ pl n6 rl,a_ none 0 0] _):=gg (ah.o.set 7 _);have aa:=gg (aa.o.set ah.o.at_ fZ 7 (a_ pl n6 rl));have HE:=gg (HE.o.set ah.o.at_ fZ 7 (a_ pl n6 rl));have cx:gi (u17.heap.size=(u17.setCell ⟨w.heap.size+2,7,none⟩ (a_ pl n6 rl)).heap.size):=gg (kj _ _ _).symm;clear y f t k3 m d z A a z7 ah;generalize u17.setCell ⟨w.heap.size+2,7,none⟩ (a_ pl n6 rl)=w16 at *
       obtain⟨U,T,B,O,Q,S,R,W,X⟩:=gU ag.o.src;obtain⟨y,f,t,k3,m,d,z,A,a⟩:=gU ag.o.at_;have fz:=fun i=>gC ag.o.at_ i
       have z0:=fz 0;have z1:=fz 1;have z2:=fz 2;have z3:=fz 3;have z4:=fz 4;have z5:=fz 5;have z6:=fz 6;have z7:=fz 7;have z8:=fz 8;clear fz;go_upto_region 19 with(at_builtin;refine jc _ rfl _ _ 35 59 rfl ia (e_ #[b_ c_ 0,b_ c_ 0,b_ c_ 0,fJ false,b_ c_ 0]) 5 40 Tryz.underlying35 cm cn bW cq rfl fZ rfl _ _ _ rfl (H7.o.below ag.o.bel) f_ ?_;intro cv u18 aJ ap;obtain⟨pt,rt,rfl⟩:=gN aJ;have ak:=gg (((ag.o.up ap).add (jW aJ ag.o.bel.size) fZ));have Lt:=gg (fun g=>aJ.lt g);have St:=gg ap.size;have aa:=gg (aa.o.up ap);have HE:=gg (HE.o.up ap);clear aJ ap U T B O Q S R W X y f t k3 m d z A a z0 z1 z2 z3 z4 z5 z6 z7 z8;obtain⟨y,f,t,k3,m,d,z,A,a⟩:=gU ak.o.at_;have z8:=gC ak.o.at_ 8)
       have af:gi (RO w _ _ (u18.setCell ⟨w.heap.size+2,8,none⟩ (a_ pt n7 rt)) #[a_ V C rw,a_ Y E rh,a_ pe G re,a_ pm I rm,a_ p2 K r2,a_ ps J rs,a_ p5 Z r5,a_ pl n6 rl,a_ pt n7 rt] _):=gg (ak.o.set 8 _);have aa:=gg (aa.o.set ak.o.at_ fZ 8 (a_ pt n7 rt));have HE:=gg (HE.o.set ak.o.at_ fZ 8 (a_ pt n7 rt));have cA:gi (u18.heap.size=(u18.setCell ⟨w.heap.size+2,8,none⟩ (a_ pt n7 rt)).heap.size):=gg (kj _ _ _).symm;clear y f t k3 m d z A a z8 ak;generalize u18.setCell ⟨w.heap.size+2,8,none⟩ (a_ pt n7 rt)=w17 at *
       go_wp2_with (first|(refine wpList_load_row rfl 37 _ rfl (w.heap.size+2) rfl 37 #[a_ V C rw,a_ Y E rh,a_ pe G re,a_ pm I rm,a_ p2 K r2,a_ ps J rs,a_ p5 Z r5,a_ pl n6 rl,a_ pt n7 rt] (0,0) _ af.o.at_ Tryz.underlying37 rfl je ?_)|(refine wpList_store_row rfl 37 _ _ rfl (w.heap.size+1) #[a_ V C rw,a_ Y E rh,a_ pe G re,a_ pm I rm,a_ p2 K r2,a_ ps J rs,a_ p5 Z r5,a_ pl n6 rl,a_ pt n7 rt] rfl rfl 37 gq af.o.res je rfl (by simp[Value.oneCell']) ?_))
       have aa:=aa.o.row af.o.res fZ #[a_ V C rw,a_ Y E rh,a_ pe G re,a_ pm I rm,a_ p2 K r2,a_ ps J rs,a_ p5 Z r5,a_ pl n6 rl,a_ pt n7 rt];have bn:=HE.o.row af.o.res fZ #[a_ V C rw,a_ Y E rh,a_ pe G re,a_ pm I rm,a_ p2 K r2,a_ ps J rs,a_ p5 Z r5,a_ pl n6 rl,a_ pt n7 rt];obtain⟨F,BF⟩:=af.o.fin #[a_ V C rw,a_ Y E rh,a_ pe G re,a_ pm I rm,a_ p2 K r2,a_ ps J rs,a_ p5 Z r5,a_ pl n6 rl,a_ pt n7 rt];obtain⟨F6,f2⟩:=R6.o _ (fun r hr=>F r (.tail _ (.tail _ (.tail _ hr))));obtain⟨fw,fh,fe,fm,fs⟩:=R5.o _ F6;have fl:=F _ (.tail _ (.head _));have ft:=F _ (.head _);have fd:=F _ (.tail _ (.tail _ (.head _)));rw[bQ.o] at fd;obtain rfl:=cj.o;obtain rfl:=bF.o;obtain rfl:=cl.o;obtain rfl:=aB.o;obtain rfl:=cp.o;obtain rfl:=cf.o;obtain rfl:=ch.o;obtain rfl:=a0.o;obtain rfl:=bO.o;have z1:=Z1.o;have z2:=Z2.o;have z3:=Z3.o;have z4:=Z4.o;have cu:=Sh.o;have ct:=Sm.o;refine bodyPost_ret (results_cell_row rfl _ _ (w.heap.size+1) 37 _ (0,0) _ rfl (setRow_heap _ _ _ _ _ _ af.o.res) Tryz.underlying37 rfl je) rfl ⟨_,_,_,_,_,_,_,_,_,qq,rfl,⟨fw,fh,fe,⟨_,_,_,rr,rfl,nj fm,nj f2,nj fs,bn.size,fun i r l h1 h2=>nj (bn.each i r l h1 h2)⟩,fd,⟨aa.size,fun i q s h1 h2=>gl.own (aa.each i q s h1 h2) (oB s)⟩,fl,ft⟩,fun q hq g e=>?_,fun g e=>⟨fun e'=>?_,fun e'=>?_,fun e'=>?_⟩,BF⟩
       · obtain⟨i,hi,rfl⟩:=List.getElem_of_mem hq
         have hs:i<M.devs.length:=by rw[←aa.size];exact hi
         have h:=aa.each i qq[i] M.devs[i] gb gb;refine⟨fun e'=>?_,pE h e⟩;have:=(h.lt g e).1;have:=Le.o g e';omega
       · have:=Le.o g e;have:=Lw.o g e';omega
       · have:=Le.o g e;have:=Lm.o g e';omega
       · have:=Le.o g e;have:=Ls.o g e';omega
end
section
open Go.RowKit
set_option maxRecDepth 100000
set_option maxHeartbeats 8000000
theorem jH.ones {w B n k i d f g j m l} {qs:List Value} {M} (h:jH w B n k i d f g j m l qs M):(#[n,k,i,d,f,g,j,m,l]:Array Value).all (·.oneCell')=true:=by
 obtain⟨a,b,c,rows,e,s,o,k3,_⟩:=h.mem;injection e with e
 have r:d=a:=by have:=congrArg (·[0]?) e;simpa using this
 have p:f=b:=by have:=congrArg (·[1]?) e;simpa using this
 have q:g=c:=by have:=congrArg (·[2]?) e;simpa using this
 subst r p q;simp[kf h.words,kf h.harts,kf h.ends,kf s,kf o,kf k3,kf h.devs,kf h.lines,kf h.trace]
theorem mB {w B n f a c j k d m i qs M} (l:jH w B n f a c j k d m i qs M) (p:∀ q∈qs,∀ g,q.ownBlock=some g→a.ownBlock≠some g ∧ ∃ o,w.heap[g]? = some (d_ o 3 (0,0))) (r:B≤w.heap.size) :
 gx 37 ((w.alloc (d_ gq 37)).setRow w.heap.size #[n,f,a,c,j,k,d,m,i]) B w.heap.size n f a c j k d m i qs M∧Up w ((w.alloc (d_ gq 37)).setRow w.heap.size #[n,f,a,c,j,k,d,m,i]):=by
 have b:=below_setRow (gr w (d_ gq 37)) fL #[n,f,a,c,j,k,d,m,i];refine⟨⟨setRow_heap _ _ _ _ _ _ (gH w _),r,l.below b,fun q h g e=>?_⟩,b⟩;obtain⟨h1,o,h2⟩:=p q h g e;exact⟨gS l.harts h2 fZ,h1,gS l.devs h2 fZ,gS l.lines h2 fZ,gS l.trace h2 fZ,fun e=>by have:=gn h2;omega⟩
theorem qh {w:World} {B g n c l} (h:w.ownsRow B 3 1 (a_ (some ⟨g,0,none⟩) n c) l.length (gz l)) {i} (a:i<l.length):w.cell? ⟨g,i,none⟩=some (b_ c_ l[i])∧w.frozen? ⟨g,i,none⟩=false:=by
 obtain⟨b,_,_,e,_,_,h1,h2⟩:=rf h a;cases e;exact⟨h1,h2⟩
theorem pp v M H N i x w (f:gJ w v M) (V:gi (gF M H N)) (U:N≤100000) (E:oQ M i=true) :
 Calls gd 86 #[v,b_ c_ i,b_ c_ x] w fun e w'=>∃ t,e =fH t∧gJ w' t (zeY M i x)∧Up w w':=by
 obtain⟨cs,rfl,B⟩:=oR f;obtain⟨r0,_,r2⟩:=rj E;obtain⟨k,rfl⟩:∃ k:Nat,i=k:=⟨i.toNat,by omega⟩;have j:gi (k<M.ends.length):=gg f_;obtain⟨o,y⟩:∃ n,n=M.ends.length:=⟨_,rfl⟩;have ag:k<o:=by omega
 have X:=gg y;have H9:=gg B;obtain⟨w1,s,C,F,p,hs⟩:=lU w (d_ cs 37) (d_ gq 37);have S:=gg C;have Y:=gg F;have K:=gg p;have J:=gg (f.below p);clear f E r0 r2 B C F p y
 go_in
 go_upto_region 1 with(fail)
 rw[←s];clear s;go_upto_region 2 with(first|(refine wpList_load_row rfl 37 _ rfl w.heap.size rfl 37 cs (0,0) _ S.o Tryz.underlying37 rfl H9.o.info ?_)|(go_at_call 47;refine(nU _ M H N _ J.o V.o U).mono ?_;rintro e w2 ⟨wv,I,ev,O,Q,R,P,W,Z,qs,rfl,b,l,h,r⟩;obtain⟨g,cc,af,rfl,ab,ae,aa,G⟩:=rf b.ends j.o;rw[←X.o] at b l h ⊢;have d:=gg b;have D:=gg l;have z:=gg h;have a:=gg r;clear b l h r ab aa G)|(refine wpList_store_row rfl 37 _ _ rfl w2.heap.size _ rfl rfl 37 gq (gH w2 _) je rfl d.o.ones ?_))
 obtain⟨c,m⟩:=mB d.o D.o a.o.size;have A:=gk (gj a.o m) Y.o;have L:=gg (gj K.o (gj a.o m));have ac:w2.heap.size≠w.heap.size+1:=fun e=>by have:=a.o.size;omega
 generalize (w2.alloc (d_ gq 37)).setRow w2.heap.size #[wv,I,a_ (some ⟨g,0,none⟩) o cc,O,Q,R,P,W,Z]=w3 at *
 have u:=c.parts.ends;obtain⟨c1,c2⟩:=qh u j.o;obtain⟨k0,k1,k2,k3,k4,k5,k6,k7,k8⟩:=gU c.at_;have T:=gg (gx.setEnd c z.o rfl j.o x);have q:gi ((w3.setCell ⟨g,k,none⟩ (b_ c_ x)).heap[w.heap.size+1]? = some (d_ gq 37 (0,0))):=gg ((iY f_).trans A);have ik:(k:Int)<(o:Int):=by omega
 have ad:(0:Int)≤(k:Int):=by omega
 clear c m A u d D z a
 go_wp2_with (first|(refine wpList_load_row rfl 37 _ rfl w2.heap.size rfl 37 _ (0,0) _ T.o.at_ Tryz.underlying37 rfl je ?_)|(refine wpList_store_row rfl 37 _ _ rfl (w.heap.size+1) _ rfl rfl 37 gq q.o je rfl T.o.parts.ones ?_))
 exact bodyPost_ret (results_cell_row rfl _ _ (w.heap.size+1) 37 _ (0,0) _ rfl (setRow_heap _ _ _ _ _ _ q.o) Tryz.underlying37 rfl je) rfl ⟨_,rfl,T.o.isMac.row9 q.o mj.all,below_setRow (gO L.o f_ _) (Nat.le_succ _) _⟩
end
section
open Go.RowKit
set_option maxRecDepth 100000
set_option maxHeartbeats 8000000
def tB (M:i8) (a:Int):Int:=if nZ M (wrap64 (a - 536870912)) then (wrap64 (a - 536870912)).tdiv 4 else -1
theorem Aj v M a w (m:gJ w v M) :
 Calls gd 89 #[v,b_ c_ a] w fun e w'=>e =fH (b_ c_ (tB M a))∧Up w w':=by
 obtain⟨s,q,t,l,B,C,u,D,r,qs,rfl,i⟩:=m;obtain⟨x,y,z,rows,b,h1,_⟩:=i.mem;injection b with b
 have o:l=x:=by have:=congrArg (·[0]?) b;simpa using this
 subst o;obtain⟨A,p,rfl⟩:=gN h1;obtain⟨k,j⟩:∃ n,n=M.mem.words.length:=⟨_,rfl⟩;unfold tB nZ;rw[←j];clear b i h1 j;have f:(0≤wrap64 (a - 536870912)→(wrap64 (a - 536870912)).tmod 4=wrap64 (a - 536870912) % 4∧(wrap64 (a - 536870912)).tdiv 4=wrap64 (a - 536870912) / 4):=fun h=>⟨Int.tmod_eq_emod_of_nonneg h,Int.tdiv_eq_ediv_of_nonneg h⟩
 by_cases h0:0≤wrap64 (a - 536870912)
 · obtain⟨g,d⟩:=f h0
   have c:wrap64 ((wrap64 (a - 536870912)).tdiv 4)=wrap64 (a - 536870912) / 4:=by rw[d];unfold wrap64;unfold wrap64 at h0;omega
   rw[g,d];clear f g d;by_cases h4:wrap64 (a - 536870912) % 4=0
   · by_cases h5:wrap64 (a - 536870912) / 4<(k:Int)
     · rw[if_pos (by simp[h0,h4,h5])]
       (go_in;go_wp2;go_ret;exact⟨gt (io (by first|rfl|exact c)),(by repeat(first|(with_reducible exact Below.refl _ _)|(with_reducible refine gO ?_ ?_ _)|(with_reducible apply iS)|(with_reducible refine gj ?_ (by with_reducible assumption))|(with_reducible apply iR)|omega))⟩)
     · rw[if_neg (by simp[h0,h4,h5])]
       (go_in;go_wp2;go_ret;exact⟨gt (io (by first|rfl|exact c)),(by repeat(first|(with_reducible exact Below.refl _ _)|(with_reducible refine gO ?_ ?_ _)|(with_reducible apply iS)|(with_reducible refine gj ?_ (by with_reducible assumption))|(with_reducible apply iR)|omega))⟩)
   · rw[if_neg (by simp[h0,h4])]
     (go_in;go_wp2;go_ret;exact⟨gt (io (by first|rfl|exact c)),(by repeat(first|(with_reducible exact Below.refl _ _)|(with_reducible refine gO ?_ ?_ _)|(with_reducible apply iS)|(with_reducible refine gj ?_ (by with_reducible assumption))|(with_reducible apply iR)|omega))⟩)
 · rw[if_neg (by simp[h0])]
   clear f
   (go_in;go_wp2;go_ret;exact⟨gt (io (by first|rfl|exact c)),(by repeat(first|(with_reducible exact Below.refl _ _)|(with_reducible refine gO ?_ ?_ _)|(with_reducible apply iS)|(with_reducible refine gj ?_ (by with_reducible assumption))|(with_reducible apply iR)|omega))⟩)
def qD (M:i8) (n:Int):Bool:=decide (0≤n) && (n.tmod 4 == 0 && (decide (n.tmod 256<16) && decide (n.tdiv 256<M.devs.length)))
theorem qz v M a w (m:gJ w v M) :
 Calls gd 91 #[v,b_ c_ a] w fun e w'=>e =fH (fI #[b_ c_ (if qD M (wrap64 (a - 268435456)) then (wrap64 (a - 268435456)).tdiv 256 else -1),b_ c_ (if qD M (wrap64 (a - 268435456)) then ((wrap64 (a - 268435456)).tmod 256).tdiv 4 else -1)])∧Up w w':=by
 obtain⟨A,r,o,p,t,u,q,y,s,qs,rfl,k⟩:=m;obtain⟨a5,x,rfl⟩:=gN k.devs;obtain⟨l,j⟩:∃ n,n=M.devs.length:=⟨_,rfl⟩;unfold qD;rw[←j];clear k j;have g:(0≤wrap64 (a - 268435456)→((wrap64 (a - 268435456)).tmod 4=wrap64 (a - 268435456) % 4∧(wrap64 (a - 268435456)).tmod 256=wrap64 (a - 268435456) % 256)∧(wrap64 (a - 268435456)).tdiv 256=wrap64 (a - 268435456) / 256∧((wrap64 (a - 268435456)).tmod 256).tdiv 4=wrap64 (a - 268435456) % 256 / 4):=fun h=>⟨⟨Int.tmod_eq_emod_of_nonneg h,Int.tmod_eq_emod_of_nonneg h⟩,Int.tdiv_eq_ediv_of_nonneg h,by rw[Int.tmod_eq_emod_of_nonneg h,Int.tdiv_eq_ediv_of_nonneg f_]⟩
 by_cases h0:0≤wrap64 (a - 268435456)
 · obtain⟨⟨i,e6⟩,f,e7⟩:=g h0
   have d:wrap64 ((wrap64 (a - 268435456)).tdiv 256)=wrap64 (a - 268435456) / 256:=by rw[f];unfold wrap64;unfold wrap64 at h0;omega
   have c:wrap64 ((wrap64 (a - 268435456)) % 256 / 4)=wrap64 (a - 268435456) % 256 / 4:=by have:=Int.emod_nonneg (wrap64 (a - 268435456)) (show (256:Int)≠0 by decide);have:=Int.emod_lt_of_pos (wrap64 (a - 268435456)) (show (0:Int)<256 by decide);generalize wrap64 (a - 268435456) % 256=z at *;unfold wrap64;omega
   rw[e7,i,e6,f];clear g i f e6 e7;by_cases h4:wrap64 (a - 268435456) % 4=0
   · by_cases b:wrap64 (a - 268435456) % 256<16
     · by_cases h5:wrap64 (a - 268435456) / 256<(l:Int)
       · rw[if_pos (by simp[h0,h4,h5,b]),if_pos (by simp[h0,h4,h5,b])]
         (go_in;go_wp2_with fail;go_ret2;exact⟨mQ (io (by first|rfl|exact d)) (io (by first|rfl|exact c)),(by repeat(first|(with_reducible exact Below.refl _ _)|(with_reducible refine gO ?_ ?_ _)|(with_reducible apply iS)|(with_reducible refine gj ?_ (by with_reducible assumption))|(with_reducible apply iR)|omega))⟩)
       · rw[if_neg (by simp[h0,h4,h5,b]),if_neg (by simp[h0,h4,h5,b])]
         (go_in;go_wp2_with fail;go_ret2;exact⟨mQ (io (by first|rfl|exact d)) (io (by first|rfl|exact c)),(by repeat(first|(with_reducible exact Below.refl _ _)|(with_reducible refine gO ?_ ?_ _)|(with_reducible apply iS)|(with_reducible refine gj ?_ (by with_reducible assumption))|(with_reducible apply iR)|omega))⟩)
     · rw[if_neg (by simp[h0,h4,b]),if_neg (by simp[h0,h4,b])]
       (go_in;go_wp2_with fail;go_ret2;exact⟨mQ (io (by first|rfl|exact d)) (io (by first|rfl|exact c)),(by repeat(first|(with_reducible exact Below.refl _ _)|(with_reducible refine gO ?_ ?_ _)|(with_reducible apply iS)|(with_reducible refine gj ?_ (by with_reducible assumption))|(with_reducible apply iR)|omega))⟩)
   · rw[if_neg (by simp[h0,h4]),if_neg (by simp[h0,h4])]
     (go_in;go_wp2_with fail;go_ret2;exact⟨mQ (io (by first|rfl|exact d)) (io (by first|rfl|exact c)),(by repeat(first|(with_reducible exact Below.refl _ _)|(with_reducible refine gO ?_ ?_ _)|(with_reducible apply iS)|(with_reducible refine gj ?_ (by with_reducible assumption))|(with_reducible apply iR)|omega))⟩)
 · rw[if_neg (by simp[h0]),if_neg (by simp[h0])]
   clear g
   (go_in;go_wp2_with fail;go_ret2;exact⟨mQ (io (by first|rfl|exact d)) (io (by first|rfl|exact c)),(by repeat(first|(with_reducible exact Below.refl _ _)|(with_reducible refine gO ?_ ?_ _)|(with_reducible apply iS)|(with_reducible refine gj ?_ (by with_reducible assumption))|(with_reducible apply iR)|omega))⟩)
end
section
open Go.RowKit
set_option maxRecDepth 100000
set_option maxHeartbeats 4000000
theorem xm v d mem w (h:kE w v d mem) :
 Calls gd 36 #[v] w fun e w'=>e =fH (fJ true)∧Up w w':=by
 obtain⟨a,c,rfl,r⟩:=h.shape;have C:=gg h.words;have z:=h.few;have J:=h.mem;obtain⟨w1,g,l,f,_⟩:=pC w (d_ #[a_ a d.length c,b_ c_ (mem:Int),a_ none 0 0] 43);have x:=gg f;have m:=gg (r.below f);obtain⟨n,j⟩:∃ n,d.length=n:=⟨_,rfl⟩;have s:=gg j;rw[j] at z m l g ⊢
 obtain⟨H,c1,F⟩:=iv l;clear r h j f l
 go_in
 go_upto_region 1 with(fail)
 rw[←g];clear g
 go_wp2_with fail
 go_loopw [3] (fun i wr=>∃ k:Nat,k≤n∧i =b_ c_ k∧wr=w1) (fun i _=>n - (intOf i).toNat)
 case atStart=>exact⟨0,fM,rfl,rfl⟩
 case round=>
  obtain⟨k,D,rfl,t⟩:=hrel;subst t;by_cases y:k<n
  · obtain⟨b,o,G,u,K,A,q⟩:=m.o.cells f_
    injection u with z1 z2 z3
    subst z1 z3;clear z2;have p:k<d.length:=by rw[s.o];exact y
    have I:=q k (b_ c_ d[k]) (by simp[gz,p]);have B:=C.o d[k] (List.getElem_mem p);generalize d[k]=X at *
    obtain⟨f,E⟩:=B;clear q;unfold maxLen at A
    go_wp2_with fail
    exact⟨⟨k+1,by omega,by go_num,trivial⟩,by simp[intOf];omega⟩
  · go_wp2_with fail
    refine wp_loop_rounds 1 ?_
    rw[rounds_succ]
    go_wp2
    go_ret;exact⟨gt (iO rfl),x.o⟩
end
section
open Go.RowKit
set_option maxRecDepth 100000
set_option maxHeartbeats 8000000
theorem pd:(gd.info? 64).map (·.size)=some 3:=by kernel_rfl
theorem zW {w g o l} (a:w.rangeAt g o (j_ l)):(loadVar 64 ⟨g,o,none⟩).run gd w = .ok (e_ #[b_ c_ l.h,b_ c_ l.p,fJ l.r]) w:=
 run_loadVar_mid (P:=gd) w g o 64 (j_ l) _ a Tryz.underlying64 rfl pd
theorem zU {st le p} (h:0≤st∧st≤136):BQ st le p=((st / 8 % 2 == 1) && decide (le<p)):=by
 have e:∀ n:Nat,n<137→(bits .and .i64 (n:Int) 8 != 0)=((n:Int) / 8 % 2 == 1):=by decide
 have:=e st.toNat f_;rw[show ((st.toNat:Nat):Int)=st by omega] at this;unfold BQ;rw[this]
theorem oJ {M i} (h:¬ (0≤i∧i<M.harts.length)):∀ k,mG M i k = -1
 | 0=>rfl
 |
  k+1=>by
  have:lS M i (mW M k)=false:=by
   rw[Bu];by_cases h0:0≤i
   · have h1:¬ i<M.harts.length:=fun h1=>h ⟨h0,h1⟩
     simp[h1]
   · simp[h0]
  rw[AY this,oJ h k]
theorem qw v w M i (V:gJ w v M) (hr:∀ x∈M.harts,x.r.length=32) (hst:∀ x∈M.harts,0≤x.st∧x.st≤136) (av:M.lines.length≤8) :
 Calls gd 21 #[v,b_ c_ i] w fun e w'=>e =fH (b_ c_ (oU M i))∧Up w w':=by
 obtain⟨wv,hv,ev,m1,m2,m3,dv,lv,tv,qs,rfl,N⟩:=V;obtain⟨a2,c2,rfl⟩:=gN N.harts;obtain⟨a6,c6,rfl⟩:=gN N.lines;have HP:=gg N;clear N;obtain⟨t,W⟩:∃ n,n=M.lines.length:=⟨_,rfl⟩;obtain⟨n2,ad⟩:∃ n,n=M.harts.length:=⟨_,rfl⟩;rw[←W,←ad];rw[←W] at av;have H:=gg W;have Z:=gg ad;have aD:=gg hst;obtain⟨R,hR⟩:∃ R,R=oU M i:=⟨_,rfl⟩;rw[←hR];have ak:=gg hR;obtain⟨w1,S,ab,am,_⟩:=pC w (d_ #[wv,a_ a2 n2 c2,ev,m1,m2,m3,dv,a_ a6 t c6,tv] 37);have az:=gg ab;have aa:gi (Up w w1):=gg am;obtain⟨k0,k1,k2,k3,k4,k5,k6,k7,k8⟩:=gU ab;clear k0 k2 k3 k4 k5 k6 k8 ab am W ad hst hR;by_cases hi:0≤i∧i<(n2:Int)
 rotate_left
 · have aG:gi (R = -1):=gg (ak.o.trans (oJ (by rw[←Z.o];exact hi) _))
   have aF:¬ 0≤i∨¬ i<(n2:Int):=by omega
   rcases aF with h0|h0
   all_goals
    go_in
    go_upto_region 1 with(fail)
    rw[←S];clear S
    go_wp2
    all_goals(go_ret;exact⟨gt (io aG.o.symm),aa.o⟩)
 obtain⟨r0,r1⟩:=hi
 go_in
 go_upto_region 1 with(fail)
 rw[←S];clear S
 go_wp2_with fail
 obtain⟨q,rfl⟩:∃ j:Nat,i=j:=⟨i.toNat,by omega⟩;clear k1
 go_loopw [5,6] (fun ax jv wr=>∃ k:Nat,k≤t∧jv =b_ c_ k∧ax =b_ c_ (mG M (q:Int) k)∧gi (Up w1 wr)) (fun _ jv _=>t - (intOf jv).toNat)
 case atStart=>exact⟨0,fM,rfl,rfl,gg fK⟩
 case round=>
  obtain⟨k,hk,rfl,rfl,I⟩:=hrel;have HX:=gg (gk I.o az.o);have af:=gg (HP.o.below (gj aa.o I.o));obtain⟨k0,k1,k2,k3,k4,k5,k6,k7,k8⟩:=gU HX.o;by_cases ay:k<t
  · have ap:k<M.lines.length:=by rw[←H.o];exact ay
    obtain⟨g,c,aP,K,hg,aO,ar⟩:=af.o.line ap;rw[←H.o] at K;injection K with K _ e3
    subst K e3;have aB:=gn hg;have ac:=gg (E0 ap);have aw:gi (wr.rangeAt g (k*3) (j_ M.lines[k])):=gg (fun j u hu=>ar j u (by have:=(fR hu).1;simpa[j_] using this) hu);have HG:=gg hg;clear hg ar;generalize hL:M.lines[k]=L at *
    clear hL;have BD:=D_ M (q:Int) k;obtain⟨b,ae⟩:∃ b,b=mG M (q:Int) k:=⟨_,rfl⟩;have l:=gg ae;rw[←ae] at BD ⊢
    clear ae;have ao:q<M.harts.length:=by have:=Z.o;omega
    obtain⟨g2,cc,aQ,J,O,_,ai,_⟩:=af.o.hart hr ao;rw[←Z.o] at J;injection J with J _ e5
    subst J e5;have hh:lm M (q:Int)=M.harts[q]:=by simp[lm,ao]
    have ah:=hr M.harts[q] (List.getElem_mem _);have hst:=aD.o M.harts[q] (List.getElem_mem _);obtain⟨Q,hQ⟩:∃ Q,Q=BQ (lm M (q:Int)).st (lm M (q:Int)).le L.p:=⟨_,rfl⟩;have HQ:=gg hQ;rw[hh] at hQ;generalize M.harts[q]=T at *
    have aE:gi (∀ w,Calls gd 60 #[e_ (hA T),b_ c_ L.p] w fun e w'=>e =fH (fJ Q)∧Up w w'):=gg (fun w=>by rw[hQ,zU hst];exact ux T L.p w ah hst);have HH:=gg hh;have F:gi (lS M (q:Int) (mW M (k:Int))=(L.h == (q:Int) && (L.r && Q))):=gg (by rw[Bu,ac.o,←HQ.o];simp[Z.o▸r1]);clear hh hQ hst;have ik:(k:Int)<(t:Int):=by omega
    have aI:(0:Int)≤(k:Int):=by omega
    have aN:=gn O;go_upto_region 8 with(first|(refine wE (o:=⟨_,.load _ _,_,_,_,_⟩) rfl 64 _ rfl g (k*3) rfl (e_ #[b_ c_ L.h,b_ c_ L.p,fJ L.r]) (zW aw.o) ?_)|(refine wpList_store_row rfl 64 _ _ rfl wr.heap.size #[b_ c_ L.h,b_ c_ L.p,fJ L.r] rfl rfl 64 #[b_ c_ 0,b_ c_ 0,fJ false] (gH wr _) pd rfl (by simp[Value.oneCell']) ?_))
    have P:Up wr ((wr.alloc (d_ #[b_ c_ 0,b_ c_ 0,fJ false] 64)).setRow wr.heap.size #[b_ c_ L.h,b_ c_ L.p,fJ L.r]):=below_setRow (gr wr _) fL _;have X1:((wr.alloc (d_ #[b_ c_ 0,b_ c_ 0,fJ false] 64)).setRow wr.heap.size #[b_ c_ L.h,b_ c_ L.p,fJ L.r]).heap[wr.heap.size]? = some (d_ #[b_ c_ L.h,b_ c_ L.p,fJ L.r] 64 (0,0)):=setRow_heap _ _ _ _ _ _ (gH wr _);generalize (wr.alloc (d_ #[b_ c_ 0,b_ c_ 0,fJ false] 64)).setRow wr.heap.size #[b_ c_ L.h,b_ c_ L.p,fJ L.r]=w5 at *
    have U:=gg P;have Y:=gg X1;have X:=gg (gk P HX.o);have ag:=gk P O
    have R0:gi (∀ w':World,(∃ x:Wd w5,w'=x.val)→(loadVar 56 ⟨g2,q*39,none⟩).run gd w' = .ok (e_ (hA T)) w'):=gg (by
     rintro w' ⟨x,rfl⟩;exact By ah (pN (gn ag) (CO ai O ag) x))
    have f:=fun x=>gD (gn X.o) (gU X.o).2.1 x
    have s:=fun x=>gD (gn Y.o) (iv Y.o).2.1 x
    clear P X1 ag ai O k0 k1 k2 k3 k4 k5 k6 k7 k8;have iq:(q:Int)<(n2:Int):=r1;have aR:(0:Int)≤(q:Int):=by omega
    go_wp2_with fail
    try simp only[Act.put,fU,fV,fW]
    refine kK ga ga ?_
    iterate 4 (go_big_quiet_step (fail))
    go_big_quiet_want
    refine kY 56 _ ⟨g2,q*39,none⟩ (e_ (hA T)) rfl rfl R0.o ?_
    simp only[Act.put,fU,fV,fW]
    go_big_quiet_on
    repeat(go_big_quiet_step ((go_at_call 60;with_reducible exact oS (aE.o _))))
    refine wpQuiet_nil ?_
    rintro w6 ⟨⟨aK,B⟩,rfl⟩;clear f s R0;have z:=gg (gj I.o (gj U.o B));have aq:=gg (gk B X.o);have y:=gg (gk B Y.o);have aA:=gg (gk B (gk U.o HG.o));have B6:=gg (gj U.o B);clear B X Y U;go_upto_region 9 with(fail)
    obtain⟨lh,lp,lr⟩:=L;simp only at y F;have A:=fun x=>gD (gn y.o) (iv y.o).1 x
    have f:=fun x=>gD (gn y.o) (iv y.o).2.1 x
    have s:=fun x=>gD (gn y.o) (iv y.o).2.2 x
    have C:=fun x=>gD (gn aq.o) (gU aq.o).2.2.2.2.2.2.2.1 x
    cases lr
    · have d:gi (lS M (q:Int) (mW M (k:Int))=false):=gg (by rw[F.o];simp)
      refine kK ga ga ?_
      repeat(go_big_quiet_step (fail))
      refine wpQuiet_nil ?_
      rintro D ⟨⟨E,a⟩,rfl⟩;have G:=gg (gj z.o a);clear A f s C a
      go_wp2
      go_roundw
      case rel=>exact⟨k+1,by omega,by go_num,by rw[l.o,AY d.o]⟩
      case measure=>simp[intOf];omega
    by_cases r2:lh=(q:Int)
    rotate_left
    · have d:gi (lS M (q:Int) (mW M (k:Int))=false):=gg (by rw[F.o];simp[r2])
      have d2:(lh == (q:Int))=false:=by simp[r2]
      refine kK ga ga ?_
      repeat(go_big_quiet_step (fail))
      refine wpQuiet_nil ?_
      rintro D ⟨⟨E,a⟩,rfl⟩;have G:=gg (gj z.o a);clear A f s C a
      go_wp2
      go_roundw
      case rel=>exact⟨k+1,by omega,by go_num,by rw[l.o,AY d.o]⟩
      case measure=>simp[intOf];omega
    have d2:(lh == (q:Int))=true:=by simp[r2]
    cases Q
    · have d:gi (lS M (q:Int) (mW M (k:Int))=false):=gg (by rw[F.o];simp)
      refine kK ga ga ?_
      repeat(go_big_quiet_step (fail))
      refine wpQuiet_nil ?_
      rintro D ⟨⟨E,a⟩,rfl⟩;have G:=gg (gj z.o a);clear A f s C a
      go_wp2
      go_roundw
      case rel=>exact⟨k+1,by omega,by go_num,by rw[l.o,AY d.o]⟩
      case measure=>simp[intOf];omega
    have d:gi (lS M (q:Int) (mW M (k:Int))=true):=gg (by rw[F.o];simp[r2]);by_cases r3:b<0
    · have d3:decide (b<0)=true:=by simpa using r3
      refine kK ga ga ?_
      repeat(go_big_quiet_step (fail))
      refine wpQuiet_nil ?_
      rintro D ⟨⟨E,a⟩,rfl⟩;have G:=gg (gj z.o a);clear A f s C a
      go_wp2
      go_roundw
      case rel=>exact⟨k+1,by omega,by go_num,by rw[E_ d.o (.inl (by rw[←l.o];exact r3))]⟩
      case measure=>simp[intOf];omega
    have d3:decide (b<0)=false:=by simpa using r3
    obtain⟨m,rfl⟩:∃ m:Nat,b=m:=⟨b.toNat,by omega⟩;have V:m<M.lines.length:=by have:=H.o;omega
    have aM:(m:Int)<(t:Int):=by omega
    have aJ:(0:Int)≤(m:Int):=by omega
    have al:wr.cell? ⟨g,m*3+1,none⟩=some (b_ c_ M.lines[m].p):=by
     obtain⟨g',c',aL,e6,_,_,aC⟩:=af.o.line V;cases e6;exact aC 1 _ fZ rfl
    have an:=E0 V;generalize M.lines[m]=Lm at *
    have au:w6.cell? ⟨g,m*3+1,none⟩=some (b_ c_ Lm.p):=(B6.o.cell (p:=⟨g,m*3+1,none⟩) aB).trans al;have y7:=fun x=>gD (gn aA.o) au x
    have aj:gi (mW M (mG M (q:Int) k)=Lm):=gg (by rw[←l.o];exact an);clear al au an;by_cases r4:Lm.p<lp
    · have d4:decide (Lm.p<lp)=true:=by simpa using r4
      refine kK ga ga ?_
      repeat(go_big_quiet_step (fail))
      refine wpQuiet_nil ?_
      rintro D ⟨⟨E,a⟩,rfl⟩;have G:=gg (gj z.o a);clear A f s C a y7
      go_wp2
      go_roundw
      case rel=>exact⟨k+1,by omega,by go_num,by rw[E_ d.o (.inr (by rw[aj.o,ac.o];exact r4))]⟩
      case measure=>simp[intOf];omega
    · have d4:decide (Lm.p<lp)=false:=by simpa using r4
      refine kK ga ga ?_
      repeat(go_big_quiet_step (fail))
      refine wpQuiet_nil ?_
      rintro D ⟨⟨E,a⟩,rfl⟩;have G:=gg (gj z.o a);clear A f s C a y7
      go_wp2
      go_roundw
      case rel=>exact⟨k+1,by omega,by go_num,by rw[l.o,IY (by rw[←l.o];rintro(h|h);omega;rw[l.o,aj.o,ac.o] at h;simp only at h;omega)]⟩
      case measure=>simp[intOf];omega
  · have aH:k=t:=by omega
    go_wp2
    go_ret;exact⟨gt (io (ak.o.trans (by unfold oU;rw[←H.o,aH])).symm),gj aa.o I.o⟩
end
end
section
section
section
open Go.RowKit
theorem sX (h):(hA h).toList=hC h:=by simp[hA,hC]
end
open Go.RowKit
set_option maxRecDepth 100000
set_option maxHeartbeats 16000000
structure RX (w0:World) (cs:Array Value) (w:World) (h:Ht) (e:oW):Prop where
 mac:w.heap[w0.heap.size]? = some (d_ cs 37 (0,0))
 hart:w.heap[w0.heap.size+1]? = some (d_ (hA h) 56 (0,0))
 eff:w.heap[w0.heap.size+2]? = some (d_ (DB e) 131 (0,0))
 res:w.heap[w0.heap.size+3]? = some (d_ gq 37 (0,0))
 bel:Up w0 w
theorem RX.up {c w w' cs h e} (b:RX c cs w h e) (a:Up w w'):RX c cs w' h e:=⟨gk a b.mac,gk a b.hart,gk a b.eff,gk a b.res,gj b.bel a⟩
theorem RX.but {a w w' cs h e g} (b:RX a cs w h e) (c:og g w w') (f:a.heap.size+4≤g) (d:Up a w'):RX a cs w' h e:=⟨(c.2 _ f_).trans b.mac,(c.2 _ f_).trans b.hart,(c.2 _ f_).trans b.eff,(c.2 _ f_).trans b.res,d⟩
theorem RX.row {a w cs h c e} (b:RX a cs w h e):RX a cs (w.setRow (a.heap.size+1) (hA c)) c e:=
 ⟨iL f_ b.mac,setRow_heap _ _ _ _ _ _ b.hart,iL f_ b.eff,iL f_ b.res,below_setRow b.bel f_ _⟩
theorem uq v M H N i h e a w (Z:gJ w v M) (hg:gi (gF M H N)) (hN:N≤100000) (hi:oQ M i=true) (L:h.r.length=32) (hI:iy e.n) (aI:iy (kQ M.mem a)) (s:iy (lF M i e a).1) :
 Calls gd 90 #[v,b_ c_ i,e_ (hA h),jj e,b_ c_ a] w (pF w (uY M i h e a)):=by
 obtain⟨wv,J,O,m1,m2,m3,P,Q,V,qs,rfl,l⟩:=Z;have ap:=l;obtain⟨C,t,I,B,G,z,rows,F,_⟩:=l.mem.parts;injection F with F
 have f1:m1 =a_ C M.mem.words.length t:=by have:=congrArg (·[0]?) F;simpa using this
 have f2:m2 =a_ I M.mem.pend.length B:=by have:=congrArg (·[1]?) F;simpa using this
 have f3:m3 =a_ G M.mem.res.length z:=by have:=congrArg (·[2]?) F;simpa using this
 subst f1 f2 f3;clear F;obtain⟨b,c,m,en,j⟩:=e;obtain⟨r,hr⟩:∃ r,r=lF M i ⟨b,c,m,en,j⟩ a:=⟨_,rfl⟩;obtain⟨R,hR⟩:∃ R,R=uY M i h ⟨b,c,m,en,j⟩ a:=⟨_,rfl⟩;rw[←hR];rw[←hr] at s;have HR:gi (R=if r.2.2=0 then ({ zb5 M i (if b=2 then h else gR h c r.1) with mem:=r.2.1 },0) else (jX,r.2.2)):=gg (by rw[hR,hr];rfl);have al:=gg hr;have HI:=gg hI;have aQ:=gg aI;have aC:=gg s;have X:=hg.o.small;have ax:=gV h L;generalize M.mem.words.length=n1,M.mem.pend.length=n2,M.mem.res.length=n3 at *
 obtain⟨w1,aD,av,aw,aG,aK,ae,a0⟩:=vf w (d_ #[wv,J,O,a_ C n1 t,a_ I n2 B,a_ G n3 z,P,Q,V] 37) (d_ (hA h) 56) (d_ #[b_ c_ b,b_ c_ c,b_ c_ m,b_ c_ en,b_ c_ j] 131) (d_ gq 37);have X1:gi (RX w #[wv,J,O,a_ C n1 t,a_ I n2 B,a_ G n3 z,P,Q,V] w1 h ⟨b,c,m,en,j⟩):=gg ⟨av,aw,aG,aK,ae⟩;have aA:gi (gJ w1 (e_ #[wv,J,O,a_ C n1 t,a_ I n2 B,a_ G n3 z,P,Q,V]) M):=gg (gJ.below ⟨_,_,_,_,_,_,_,_,_,qs,rfl,ap⟩ ae);have aB:=gg (ap.mem.below ae);clear av aw aG aK ae l ap hR hr hI aI s;unfold jj;simp only;obtain⟨k,rfl⟩:∃ k:Nat,i=k:=⟨i.toNat,by have:=(rj hi).1;omega⟩;have HK:gi (k<M.harts.length):=gg (by have:=(rj hi).2.1;omega);clear hi
 go_in
 go_upto_region 1 with(fail)
 rw[←aD];clear aD;go_upto_region 2 with(first|(refine wpList_load_row rfl 37 _ rfl w.heap.size rfl 37 _ (0,0) _ X1.o.mac Tryz.underlying37 rfl je ?_)|(go_at_call 47;refine(nU _ M H N _ aA.o hg.o hN).mono ?_;rintro e w2 ⟨aq,ad,aj,aW,aV,aP,an,ao,tv',am,rfl,l,hq,hE,ar⟩;have HP:=gg l;have HQ:=gg hq;have HE:=gg hE;have u:=gg ar;clear l hq hE ar)|(refine wpList_store_row rfl 37 _ _ rfl w2.heap.size _ rfl rfl 37 gq (gH w2 _) je rfl HP.o.ones ?_))
 have aN:gi (∀ q∈am,q.ownBlock≠some (w.heap.size+1)):=gg (fun q h e=>by
  obtain⟨_,aS,h2⟩:=HQ.o q h _ e;have:=(X1.o.up u.o).hart;rw[h2] at this;injection this with e;injection e with _ e;exact absurd e fZ)
 have aL:gi (ad.ownBlock≠some (w.heap.size+1)):=gg (fun e=>by have:=(HP.o.harts.lt _ e).1;omega);obtain⟨O3,B3⟩:=mB HP.o HQ.o u.o.size;have U:=gg (X1.o.up (gj u.o B3));have D:=gg (aB.o.below (gj u.o B3));have au:w.heap.size+4≤w2.heap.size:=by have:=u.o.size;omega
 generalize (w2.alloc (d_ gq 37)).setRow w2.heap.size #[aq,ad,aj,aW,aV,aP,an,ao,tv']=w3 at *
 obtain⟨p,l⟩:∃ p,w2.heap.size=p:=⟨_,rfl⟩;rw[l] at O3 au ⊢
 have ai:=gg O3;clear B3 HP HQ u X1 aA aB l w2;obtain⟨Y,e1,W,K,S⟩:=nB U.o.eff;obtain⟨x0,x1,x2,x3,x4,x5,x6,x7,x8⟩:=gU U.o.mac;simp only at Y e1 W K S;clear x0 x1 x2 x6 x7 x8
 go_upto_block 0 with(fail)
 go_cut [13,14] (fun aT aM wx=>aT =b_ c_ r.1∧aM =b_ c_ r.2.2 ∧ ∃ z1 z2 z3,gi (gx 37 wx w1.heap.size p aq ad aj z1 z2 z3 an ao tv' am { M with mem:=r.2.1 })∧gi (RX w #[wv,J,O,a_ C n1 t,a_ I n2 B,a_ G n3 z,P,Q,V] wx h ⟨b,c,m,en,j⟩))
 case first=>
  by_cases h1:b=1
  · subst h1
    go_wp2_with fail
    refine(uy _ M.mem k a _ _ D.o X rfl).mono ?_
    rintro e w4 ⟨rfl,E⟩;have aH:=gg E;clear E
    go_wp2
    go_meet
    case rel=>rw[al.o];exact⟨rfl,rfl,_,_,_,gg (ai.o.below aH.o),gg (U.o.up aH.o)⟩
  have k1:(b == 1)=false:=by simp[h1]
  cases az:(mM M.mem k a en).1
  all_goals
   rcases(by omega:b=2∨b=3∨b=4∨(b≠2∧b≠3∧b≠4)) with rfl|rfl|rfl|⟨h2,h3,h4⟩
   all_goals
    go_wp2_with fail
    with_reducible first|refine(sx _ M.mem k a en _ D.o X HI.o).mono ?_|refine(px _ M.mem k a _ D.o X).mono ?_|refine(uu _ M.mem k a en _ D.o X HI.o).mono ?_|refine(qB _ M.mem k a j en _ D.o X HI.o aQ.o).mono ?_
    rintro e w4 ⟨v',rfl,Z,E⟩;obtain⟨y1,q1,t1,y2,q2,t2,y3,q3,t3,rfl⟩:=AR Z
    try rw[az]
    have A:=ai.o.below E;have d:=U.o.up E;obtain⟨_,_,_,k3,k4,k5,_,_,_⟩:=gU A.at_;have f3:=gC A.at_ 3;have f4:=gC A.at_ 4;have f5:=gC A.at_ 5;have T:=gg (gx.setMem A Z);have XT:=gg (d.but (rJ w4 p 3 4 5 (a_ y1 q1 t1) (a_ y2 q2 t2) (a_ y3 q3 t3)) au (gO (gO (gO d.bel f_ _) f_ _) f_ _));clear A d Z E
    go_wp2
    go_meet
    case rel=>
     rw[al.o]
     first
      | exact⟨rfl,rfl,_,_,_,T,XT⟩
      | (
       have e9:lF M (k:Int) ⟨4,c,m,en,j⟩ a=(if (mM M.mem k a en).1=true then 0 else 1,(mM M.mem k a en).2):=rfl;rw[e9,az];exact⟨rfl,rfl,_,_,_,T,XT⟩)
      | (
       have e9:lF M (k:Int) ⟨b,c,m,en,j⟩ a=ml M.mem k a j en:=by simp only[lF,if_neg h1,if_neg h2,if_neg h3,if_neg h4]
       rw[e9];exact⟨rfl,rfl,_,_,_,T,XT⟩)
 case rest=>
  obtain⟨rfl,rfl,z1,z2,z3,ab,d⟩:=hcut;obtain⟨w4,aJ⟩:∃ x,x=wc:=⟨_,rfl⟩;rw[←aJ] at ab d ⊢
  clear aJ ai U D al Y e1 W K S x3 x4 x5 HE;have s:=aC.o;generalize r.1=n,r.2.1=m',r.2.2=f at *
  have aU:=gg s;clear s aC;by_cases ay:f=0
  · subst ay
    have ac:=gg (HR.o.trans (if_pos rfl));clear HR;obtain⟨Y,e1,W,K,S⟩:=nB d.o.eff;simp only at Y e1 W K S
    go_upto_if 91 with(fail)
    obtain⟨o,hh6⟩:∃ y,y=if b=2 then h else gR h c n:=⟨_,rfl⟩
    rw[←hh6] at ac
    go_cut [] (fun wx=>gi (gx 37 wx w1.heap.size p aq ad aj z1 z2 z3 an ao tv' am { M with mem:=m' })∧gi (RX w #[wv,J,O,a_ C n1 t,a_ I n2 B,a_ G n3 z,P,Q,V] wx o ⟨b,c,m,en,j⟩))
    case first=>
     subst hh6;by_cases h2:b=2
     · have hq:(b == 2)=true:=beq_iff_eq.2 h2
       have H2:=gg h2;clear h2
       go_wp2
       go_meet
       case rel=>rw[if_pos H2.o];exact⟨ab,d⟩
     · have hq:(b == 2)=false:=fS h2
       have H2:=gg h2;clear h2
       go_wp2_with (refine wpList_load_row rfl 56 _ rfl (w.heap.size+1) rfl 56 (hA h) (0,0) _ d.o.hart Tryz.underlying56 rfl (ii ax) ?_)
       refine(jO h c _ _ L aU.o).mono ?_
       rintro e w5 ⟨rfl,ag⟩;have X5:=gg (d.o.up ag);have O5:=gg (ab.o.below ag);have aa:=mo L c n;clear ag
       go_wp2_with (refine wpList_store_row rfl 56 _ _ rfl (w.heap.size+1) (hA (gR h c n)) rfl rfl 56 (hA h) X5.o.hart (ii (gV _ aa)) (by rw[ax,gV _ aa]) (jU _) ?_)
       go_meet
       case rel=>rw[if_neg H2.o];exact⟨gg (gx.box O5.o X5.o.hart aL.o aN.o),gg X5.o.row⟩
    case rest=>
     obtain⟨af,X6⟩:=hcut;obtain⟨w6,aE⟩:∃ x,x=wc:=⟨_,rfl⟩;rw[←aE] at af X6 ⊢
     have aa:o.r.length=32:=by rw[hh6];split;exact L;exact mo L c n
     have ak:=gV o aa;clear aE hh6 Y e1 W K S ab d;obtain⟨g,cc,aS,eh,aX,aZ,_,aF⟩:=af.o.parts.hart hg.o.regs HK.o;subst eh;have aO:=gg aF;have T:=gg (gx.setHart af.o hg.o.regs rfl HK.o aa);have HY:=gg ((G8 (hC o) w6 (k*39) (w.heap.size+3) (by omega:w.heap.size+3≠g)).trans X6.o.res);have aR:=gg (rx (by omega:w.heap.size≤g) (hC o) (k*39) X6.o.bel);obtain⟨nh,ah⟩:∃ n,n=M.harts.length:=⟨_,rfl⟩;have a1:k<nh:=by rw[ah];exact HK.o
     obtain⟨k0,k1,k2,k3,k4,k5,k6,k7,k8⟩:=gU af.o.at_;simp only[←ah] at k1;clear k0 k2 k3 k4 k5 k6 k7 k8 aF aX ah;have ik:(k:Int)<(nh:Int):=by omega
     have aY:(0:Int)≤(k:Int):=by omega
     go_upto_region 22 with(first|(refine wpList_load_row rfl 56 _ rfl (w.heap.size+1) rfl 56 (hA o) (0,0) _ X6.o.hart Tryz.underlying56 rfl (ii ak) ?_)|(refine wpList_store_mid rfl 56 _ _ rfl g (k*39) (hA o) rfl rfl (by rw[ak];exact aO.o) (by rw[ak];exact uS) (jU o) ?_))
     simp only[sX]
     go_wp2_with (first|(refine wpList_load_row rfl 37 _ rfl p rfl 37 _ (0,0) _ T.o.at_ Tryz.underlying37 rfl je ?_)|(refine wpList_store_row rfl 37 _ _ rfl (w.heap.size+3) _ rfl rfl 37 gq HY.o je rfl T.o.parts.ones ?_))
     rw[ac.o];exact bodyPost_ret (im rfl _ _ (w.heap.size+3) 37 _ (0,0) _ rfl (setRow_heap _ _ _ _ _ _ HY.o) rfl Tryz.underlying37 rfl je) rfl ⟨_,rfl,T.o.isMac.row9 HY.o mj.all,below_setRow aR.o f_ _⟩
  · have ac:=gg (HR.o.trans (if_neg ay))
    clear HR
    go_wp2_with (refine wpList_store_row rfl 37 _ _ rfl (w.heap.size+3) gq rfl rfl 37 gq d.o.res je rfl (by simp[Value.oneCell']) ?_)
    rw[ac.o];exact bodyPost_ret (im rfl _ _ (w.heap.size+3) 37 _ (0,0) _ rfl (setRow_heap _ _ _ _ _ _ d.o.res) rfl Tryz.underlying37 rfl je) rfl ⟨_,rfl,iz _,below_setRow d.o.bel f_ _⟩
end
section
open Go.RowKit
set_option maxRecDepth 100000
set_option maxHeartbeats 16000000
theorem wk:(gd.info? 59).map (·.size)=some 5:=by kernel_rfl
theorem un v M H N i h e (d g:Int) w (hm:gJ w v M) (hg:gi (gF M H N)) (hN:N≤100000) (hi:oQ M i=true) (ai:h.r.length=32) (hI:iy e.n) (hd:0≤d∧d<M.devs.length) (aT:g=0∨g=1∨g=3∨g=2) (bV:e.k=1∨e.k=2) :
 Calls gd 92 #[v,b_ c_ i,e_ (hA h),jj e,b_ c_ d,b_ c_ g] w (pF w (pG M i h e d g)):=by
 obtain⟨wv,E,ev,m1,m2,m3,dv,lv,tv,qs,rfl,B⟩:=hm;have aG:=B;obtain⟨b1,d1,b2,d2,b3,d3,rows,em,_⟩:=B.mem.parts;injection em with em
 have f1:m1 =a_ b1 M.mem.words.length d1:=by have:=congrArg (·[0]?) em;simpa using this
 have f2:m2 =a_ b2 M.mem.pend.length d2:=by have:=congrArg (·[1]?) em;simpa using this
 have f3:m3 =a_ b3 M.mem.res.length d3:=by have:=congrArg (·[2]?) em;simpa using this
 subst f1 f2 f3;clear em;obtain⟨c,J,ak,en,eo⟩:=e;obtain⟨R,hR⟩:∃ R,R=pG M i h ⟨c,J,ak,en,eo⟩ d g:=⟨_,rfl⟩;rw[←hR];have HR:=gg hR;have HI:=gg hI;obtain⟨k,rfl⟩:∃ k:Nat,i=k:=⟨i.toNat,by have:=(rj hi).1;omega⟩;obtain⟨j,rfl⟩:∃ j:Nat,d=j:=⟨d.toNat,by omega⟩;have HK:gi (k<M.harts.length):=gg (by have:=(rj hi).2.1;omega);have U:gi (j<M.devs.length):=gg f_;have b4:(k:Int)<M.mem.pend.length:=by obtain⟨W,_,gm⟩:=hg.o.mem;have:=HK.o;rw[gm.pend,←hg.o.harts];omega
 obtain⟨I,ax,cB,aF,rfl,bw,_,a6,_,bl,_⟩:=B.dev U.o;obtain⟨P,aC⟩:∃ n,n=M.devs.length:=⟨_,rfl⟩;rw[←aC] at B aG ⊢
 have cz:j<P:=by rw[aC];exact U.o
 have bM:=gg aC;have bb:=gg bw;have bf:=gg a6;have a9:=gg bl;clear aC bw a6 bl;obtain⟨pb,po,pa,pc,rfl,-,p1,p2,p3,p4,-⟩:=B.mem.row b4 f_;have bo:=gV h ai;generalize M.mem.words.length=n1,M.mem.pend.length=n2,M.mem.res.length=n3 at *
 obtain⟨w1,bt,a7,bm,bA,bE,aB,cv⟩:=vf w (d_ #[wv,E,ev,a_ b1 n1 d1,a_ (some ⟨pb,po,none⟩) n2 d2,a_ b3 n3 d3,a_ (some ⟨I,0,none⟩) P ax,lv,tv] 37) (d_ (hA h) 56) (d_ #[b_ c_ c,b_ c_ J,b_ c_ ak,b_ c_ en,b_ c_ eo] 131) (d_ gq 37);have Z:gi (RX w #[wv,E,ev,a_ b1 n1 d1,a_ (some ⟨pb,po,none⟩) n2 d2,a_ b3 n3 d3,a_ (some ⟨I,0,none⟩) P ax,lv,tv] w1 h ⟨c,J,ak,en,eo⟩):=gg ⟨a7,bm,bA,bE,aB⟩;have aN:gi (gJ w1 (e_ #[wv,E,ev,a_ b1 n1 d1,a_ (some ⟨pb,po,none⟩) n2 d2,a_ b3 n3 d3,a_ (some ⟨I,0,none⟩) P ax,lv,tv]) M):=gg (gJ.below ⟨_,_,_,_,_,_,_,_,_,qs,rfl,aG⟩ aB);have bN:=gg (aG.mem.below aB);clear a7 bm bA bE aB B aG hR hI hi hd;unfold jj;simp only
 go_in
 go_upto_region 1 with(fail)
 rw[←bt];clear bt;have q4:=(Z.o.bel.cell (p:=⟨pb,po+k,none⟩) p3).trans p4;obtain⟨n,hn⟩:∃ n,(iA M.mem (k:Int)).length=n:=⟨_,rfl⟩;rw[hn] at q4;obtain⟨x0,x1,x2,x3,x4,x5,x6,x7,x8⟩:=gU Z.o.mac;clear p1 p3 p4 x0 x1 x2 x3 x5 x6 x7 x8;by_cases hb:0<n
 · have aE:gi (R=(jX,92)):=gg (HR.o.trans (by unfold pG;rw[if_pos (by rw[hn];omega)]))
   clear hn
   go_wp2_with (refine wpList_store_row rfl 37 _ _ rfl (w.heap.size+3) gq rfl rfl 37 gq Z.o.res je rfl (by simp[Value.oneCell']) ?_)
   rw[aE.o];exact bodyPost_ret (im rfl _ _ (w.heap.size+3) 37 _ (0,0) _ rfl (setRow_heap _ _ _ _ _ _ Z.o.res) rfl Tryz.underlying37 rfl je) rfl ⟨_,rfl,iz _,below_setRow Z.o.bel f_ _⟩
 have aE:gi (R=if c=2 then ({ zb5 M k h with devs:=M.devs.set j (ja (kX (oT M j) g (wrap32 (wrap32 en)))),trace:=M.trace ++ [⟨k,j,g,true,wrap32 en⟩] },0) else ({ zb5 M k (gR h J (kV (oT M j) g)) with devs:=M.devs.set j (ja (ls (oT M j) g)),trace:=M.trace ++ [⟨k,j,g,false,kV (oT M j) g⟩] },0)):=gg (HR.o.trans (by unfold pG;rw[if_neg (by rw[hn];omega)];rfl));clear hn HR;go_upto_region 4 with(first|(refine wpList_load_row rfl 37 _ rfl w.heap.size rfl 37 _ (0,0) _ Z.o.mac Tryz.underlying37 rfl je ?_)|(go_at_call 47;refine(nU _ M H N _ aN.o hg.o hN).mono ?_;rintro e w2 ⟨bk,aM,a3,bj,bi,ba,bS,bv,tv',bs,rfl,B,hq,hE,aX⟩;have HP:=gg B;have HQ:=gg hq;have HE:=gg hE;have af:=gg aX;clear B hq hE aX)|(refine wpList_store_row rfl 37 _ _ rfl w2.heap.size _ rfl rfl 37 gq (gH w2 _) je rfl HP.o.ones ?_))
 have bp:gi (∀ q∈bs,q.ownBlock≠some (w.heap.size+1)):=gg (fun q h e=>by
  obtain⟨_,bY,h2⟩:=HQ.o q h _ e;have:=(Z.o.up af.o).hart;rw[h2] at this;injection this with e;injection e with _ e;exact absurd e fZ)
 have a0:gi (aM.ownBlock≠some (w.heap.size+1)):=gg (fun e=>by have:=(HP.o.harts.lt _ e).1;omega);obtain⟨O3,B3⟩:=mB HP.o HQ.o af.o.size;have X3:=gg (Z.o.up (gj af.o B3));have cl:=gg (aN.o.below (gj af.o B3));have aj:w.heap.size+4≤w2.heap.size:=by have:=af.o.size;omega
 generalize (w2.alloc (d_ gq 37)).setRow w2.heap.size #[bk,aM,a3,bj,bi,ba,bS,bv,tv']=w3 at *
 obtain⟨p,B⟩:∃ p,w2.heap.size=p:=⟨_,rfl⟩;rw[B] at O3 aj ⊢
 have ab:=gg O3;clear B3 HP HQ af Z aN bN B w2 q4 x4
 go_wp2_with fail
 try simp only[Act.put,fU,fV,fW]
 go_cut [15] (fun cn wx=>∃ f,cn = fG (some ⟨f,0,none⟩)∧w3.heap.size≤f∧gi (wx.heap[f]? = some (d_ #[b_ c_ k,b_ c_ j,b_ c_ g,fJ (c == 2),b_ c_ (wrap32 en)] 59 (0,0)))∧gi (Up w3 wx))
 case first=>
  refine fX (fun w'=>Up w3 w') [true,true,true,true,true,true,true,true,true,true] (fun a b h z=>gj h z) fK ?a1 ?h1 ?ht1
  case h1=>
   intro w0 G;have he:=gk G X3.o.eff;obtain⟨q0,q1,q2,q3,q4⟩:=nB he;simp only at q0 q3;have bc:=gn he;have y0:=fun x=>gD bc q0 x
   have y3:=fun x=>gD bc q3 x
   clear q0 q1 q2 q3 q4 he G;simp only[jd];repeat(go_big_quiet_step ((go_at_call 95;with_reducible exact oA (gI en _ HI.o))))
   refine wpQuiet_nil ?_
   rfl
  case ht1=>
   change kN _ _ _ _ _ 2 _ _ _;refine js (i:=10) ga rfl ?_
   intro Y _ A
   go_wp2_with fail
   refine⟨gj A (gr Y _),?_⟩;refine js (i:=11) ga rfl ?_
   intro w6 br F;have aU:=gk br (gH Y (d_ #[b_ c_ 0,b_ c_ 0,b_ c_ 0,fJ false,b_ c_ 0] 59));have be:w3.heap.size≤Y.heap.size:=A.size
   go_wp2_with (refine wpList_store_row rfl 59 _ _ rfl Y.heap.size #[b_ c_ k,b_ c_ j,b_ c_ g,fJ (c == 2),b_ c_ (wrap32 en)] rfl rfl 59 #[b_ c_ 0,b_ c_ 0,b_ c_ 0,fJ false,b_ c_ 0] aU wk rfl (by simp[Value.oneCell']) ?_)
   have a8:=below_setRow F be #[b_ c_ k,b_ c_ j,b_ c_ g,fJ (c == 2),b_ c_ (wrap32 en)];have V:gi ((w6.setRow Y.heap.size #[b_ c_ k,b_ c_ j,b_ c_ g,fJ (c == 2),b_ c_ (wrap32 en)]).heap[Y.heap.size]? = some (d_ #[b_ c_ k,b_ c_ j,b_ c_ g,fJ (c == 2),b_ c_ (wrap32 en)] 59 (0,0))):=gg (setRow_heap _ _ _ _ _ _ aU);refine⟨a8,?_⟩;refine od ga ?_
   intro w8 bx t;have b9:=gg (gk bx V.o);have cg:=gg t;clear br F aU a8 V bx t
   go_wp2
   go_meet
   case rel=>exact⟨_,rfl,be,b9,cg⟩
 case rest=>
  obtain⟨f,rfl,cm,HN,aw⟩:=hcut;obtain⟨w4,bD⟩:∃ x,x=wc:=⟨_,rfl⟩;rw[←bD] at HN aw ⊢
  have S:=gg (X3.o.up aw.o);have T:=gg (ab.o.below aw.o);have cs:p<f:=fN (gn ab.o.at_) cm;clear bD;obtain⟨Q,c5,cA,q5,bz,bH,ca,_,ap,_,_⟩:=ab.o.parts.dev U.o;rw[←bM.o] at bz;subst bz;have ag:=gg ap;have ac:=gg bH;have hD:oT M (j:Int)=M.devs[j]'(U.o):=by have:=U.o;simp[oT,this]
  have aa:=hg.o.dev _ (List.getElem_mem U.o);have bq:=gg hD;generalize cj:M.devs[j]'(U.o)=D at *
  clear hD cj bH ap;obtain⟨t0,t1,t2,t3,t4⟩:=nB HN.o;obtain⟨S2,aZ⟩:∃ s,s=if c=2 then ja (kX D g (wrap32 en)) else ja (ls D g):=⟨_,rfl⟩
  obtain⟨val,bg⟩:∃ s,s=if c=2 then wrap32 en else kV D g:=⟨_,rfl⟩
  obtain⟨O,bB⟩:∃ s,s=if c=2 then h else gR h J (kV D g):=⟨_,rfl⟩
  have ah:=gg aZ;have HV:=gg bg;have HH:=gg bB;clear aZ bg bB
  go_upto_if 38 with(fail)
  clear t0 t1 t2 t3 t4
  go_cut [] (fun wx=>∃ y,gi (gx 37 wx w1.heap.size p bk aM a3 bj bi ba (a_ (some ⟨Q,0,none⟩) P c5) bv tv' (bs.set j y) { M with devs:=M.devs.set j S2 })∧gi (wx.heap[f]? = some (d_ #[b_ c_ k,b_ c_ j,b_ c_ g,fJ (c == 2),b_ c_ val] 59 (0,0)))∧gi (RX w #[wv,E,ev,a_ b1 n1 d1,a_ (some ⟨pb,po,none⟩) n2 d2,a_ b3 n3 d3,a_ (some ⟨I,0,none⟩) P ax,lv,tv] wx O ⟨c,J,ak,en,eo⟩)∧gi (∀ b,y.ownBlock=some b→f<b))
  case first=>
   by_cases h2:c=2
   · have E:=HV.o;have an:=ah.o;have hh:=HH.o
     rw[if_pos h2] at E an hh;subst E an hh;have bU:(c == 2)=true:=beq_iff_eq.2 h2;clear h2 HV ah HH;go_upto_region 6 with(fail)
     refine fY (fun w'=>Up w4 w') 12 [true,true,true,true,true,true,true,true,true,true,true] (fun a b h z=>gj h z) fK ?a2 ?h2 ?ht2
     case h2=>
      intro w0 G;have y3:=fun x=>gD (gn (gk G S.o.eff)) (nB (gk G S.o.eff)).2.2.2.1 x
      have x6:=fun x=>gD (gn (gk G S.o.mac)) (gU (gk G S.o.mac)).2.2.2.2.2.2.1 x
      have k6:=fun x=>gD (gn (gk G T.o.at_)) (gU (gk G T.o.at_)).2.2.2.2.2.2.1 x
      simp only at y3
      have R0:gi (∀ w':World,(∃ x:Wd w0,w'=x.val)→(loadVar 75 ⟨I,j*8,none⟩).run gd w' = .ok (e_ (gX D aF)) w'):=gg (by
       rintro w' ⟨x,rfl⟩;exact A0 (fun i u z=>((gj (gj S.o.bel G) x.bel).cell (p:=⟨I,j*8+i,none⟩) (gn bb.o)).trans (bf.o i u z)))
      clear G;have ij:(j:Int)<(P:Int):=by omega
      have b6:(0:Int)≤(j:Int):=by omega
      simp only[jd]
      iterate 7 (go_big_quiet_step (fail))
      go_big_quiet_want
      refine kY 75 _ ⟨I,j*8,none⟩ (e_ (gX D aF)) rfl rfl R0.o ?_
      simp only[Act.put,fU,fV,fW]
      go_big_quiet_on
      repeat(go_big_quiet_step (fail))
      refine wpQuiet_nil ?_
      rfl
     case ht2=>
      change kD _ _ _ _ _ _ 1 _ _ _;refine jQ (i:=11) ga fZ rfl ?_
      intro Y _ A
      go_wp2_with fail
      refine(Au _ D g en _ (a9.o.below (gj S.o.bel A)) (by have:=aa.k;omega) (by have:=aa.q;omega) aT aa.sent aa.rs.2.2 HI.o).mono ?_
      rintro e w6 ⟨v',rfl,⟨y,rfl,ae,ar⟩,F⟩;obtain⟨aL,ad⟩:=mz ae ar;have aJ:=gg (gx.fresh (T.o.below A) ad);have am:gi (∀ b,y.ownBlock=some b→f<b):=gg fun b e=>fN (gn (gk A HN.o)) (ad b e)
      have aQ:=gg (gj A F);clear ar F A ad
      go_wp2_with fail
      refine⟨aQ.o,?_⟩;refine lR ga ?_
      intro w8 bn t;have O9:=gg (gx.setDev (T.o.below t) rfl U.o (ae.below bn) aJ.o);have aK:=gg (vi ag.o ac.o (gk (gj aw.o t) ac.o));have K:=AQ w8 Q (j*8) (sC (ja (kX D g (wrap32 en)),y));have bL:Q<f:=by have:=gn ac.o;omega
      have au:=gg ((K.2 f f_).trans (gk t HN.o));have X8:=S.o.up t;have X9:=gg (X8.but K f_ (rx f_ (sC (ja (kX D g (wrap32 en)),y)) (j*8) X8.bel));clear X8 t bn ae K
      try simp only[List.drop_succ_cons,List.drop_zero]
      go_wp2_with (refine wpList_store_mid rfl 75 _ _ rfl Q (j*8) (gX (ja (kX D g (wrap32 en))) y) rfl rfl aK.o g_ (De _ aL) ?_)
      go_meet
      case rel=>exact⟨y,O9,au,X9,am⟩
   · have E:=HV.o;have an:=ah.o;have hh:=HH.o
     rw[if_neg h2] at E an hh;subst E an hh;have bU:(c == 2)=false:=fS h2;clear h2 HV ah HH;go_upto_region 7 with(fail)
     refine fY (fun w'=>(p<w'.heap.size∧w'.cell? ⟨p,6,none⟩=some (a_ (some ⟨Q,0,none⟩) P c5))∧RX w #[wv,E,ev,a_ b1 n1 d1,a_ (some ⟨pb,po,none⟩) n2 d2,a_ b3 n3 d3,a_ (some ⟨I,0,none⟩) P ax,lv,tv] w' h ⟨c,J,ak,en,eo⟩) 15 [true,true,true,true,true,true,true,true,true] (fun a b h z=>⟨⟨fN h.1.1 z.size,by rw[z.cell (p:=⟨p,6,none⟩) h.1.1];exact h.1.2⟩,h.2.up z⟩) ⟨⟨gn T.o.at_,(gU T.o.at_).2.2.2.2.2.2.1⟩,S.o⟩ ?a4 ?h4 ?ht4
     case h4=>
      intro w0 ⟨⟨cb,bF⟩,aD⟩;have k6:=fun x=>gD cb bF x
      have x6:=fun x=>gD (gn aD.mac) (gU aD.mac).2.2.2.2.2.2.1 x
      have R0:gi (∀ w':World,(∃ x:Wd w0,w'=x.val)→(loadVar 75 ⟨I,j*8,none⟩).run gd w' = .ok (e_ (gX D aF)) w'):=gg (by
       rintro w' ⟨x,rfl⟩;exact A0 (fun i u z=>((gj aD.bel x.bel).cell (p:=⟨I,j*8+i,none⟩) (gn bb.o)).trans (bf.o i u z)))
      clear aD bF;have ij:(j:Int)<(P:Int):=by omega
      have b6:(0:Int)≤(j:Int):=by omega
      simp only[jd]
      iterate 7 (go_big_quiet_step (fail))
      go_big_quiet_want
      refine kY 75 _ ⟨I,j*8,none⟩ (e_ (gX D aF)) rfl rfl R0.o ?_
      simp only[Act.put,fU,fV,fW]
      go_big_quiet_on
      repeat(go_big_quiet_step (fail))
      refine wpQuiet_nil ?_
      rfl
     case ht4=>
      change kD _ _ _ _ _ _ 6 _ _ _;refine jQ (i:=9) ga fZ rfl ?_
      intro Y aY aq;have A:Up w4 Y:=gj (iR fK) aY
      go_wp2_with fail
      refine(rY _ D g _ (a9.o.below (gj S.o.bel A)) (by have:=aa.k;omega) (by have:=aa.q;omega) aT).mono ?_
      rintro e w6 ⟨v',rfl,⟨y,rfl,ae,ar⟩,F⟩;obtain⟨aL,ad⟩:=mz ae ar;have aJ:=gg (gx.fresh (T.o.below A) ad);have am:gi (∀ b,y.ownBlock=some b→f<b):=gg fun b e=>fN (gn (gk A HN.o)) (ad b e)
      have aQ:=gg (gj A F);have b0:=gg ae;have bC:=gg (And.intro (And.intro (fN aq.1.1 F.size) ((F.cell (p:=⟨p,6,none⟩) aq.1.1).trans aq.1.2)) (aq.2.up F));clear ar F A ad ae aq aY
      go_wp2_with fail
      refine⟨bC.o,?_⟩;refine mY [false,false,false,false,false,false,false,false,false,false,true,true,true,true] 1 ga ga ga (fun a b h z=>⟨⟨fN h.1.1 z.size,by rw[z.cell (p:=⟨p,6,none⟩) h.1.1];exact h.1.2⟩,h.2.up z⟩) bC.o ?a5 ?h5 ?ht5
      case h5=>
       intro w0 _;simp only[jd];repeat(go_big_quiet_step (fail))
       refine wpQuiet_nil ?_
       rfl
      case ht5=>
       refine jQ (i:=14) ga fZ rfl ?_
       intro X aW al;have az:=gj aQ.o aW;have L:=gk az HN.o;obtain⟨q0,q1,q2,q3,q4⟩:=nB L;have f4:=gC L 4;have cu:=gn L;have K:=nF X f 4 (b_ c_ (kV D g));have ck:=gg (jb L 4 (b_ c_ (kV D g)))
       have OS:=gg (gx.acc (T.o.below az) L (j:=4) (u:=b_ c_ (kV D g)) (fun q hq e=>by
        obtain⟨m,hm⟩:=List.mem_iff_getElem?.1 hq;have ci:m<M.devs.length:=by rw[←ab.o.parts.ques.1];exact(fR hm).1
        have:=Fu (ab.o.parts.ques.2 m q _ hm (fQ ci)) e;omega) (fun e=>by have:=(ab.o.parts.trace.lt f e).2;omega))
       have X7:=al.2.but K f_ (gO al.2.bel f_ _);have cd:=gg (And.intro (And.intro (fN al.1.1 K.1) ((Bq (show p≠f by omega) 4 6 (b_ c_ (kV D g))).trans al.1.2)) X7);have RS:=gg (DV (b0.o.below aW) K (fun e=>by have:=am.o f e;omega));have bL:Q<f:=by have:=gn ac.o;omega
       have cf:=gg ((K.2 Q f_).trans (gk (gj aw.o az) ac.o));clear aW al K L X7 az
       go_wp2_with fail
       refine⟨cd.o,?_⟩;clear q0 q1 q2 q3 q4 f4;refine lR ga ?_
       intro w8 t aO;have O9:=gg (gx.setDev (OS.o.below t) rfl U.o (RS.o.below t) aJ.o);have aK:=gg (vi ag.o ac.o (gk t cf.o));have K:=AQ w8 Q (j*8) (sC (ja (ls D g),y));have au:=gg ((K.2 f f_).trans (gk t ck.o));have X9:=gg (aO.2.but K f_ (rx f_ (sC (ja (ls D g),y)) (j*8) aO.2.bel));clear t aO K
       try simp only[List.drop_succ_cons,List.drop_zero]
       iterate 3 go_step
       refine wpList_store_mid rfl 75 _ _ rfl Q (j*8) (gX (ja (ls D g)) y) rfl rfl aK.o g_ (De _ aL) ?_
       simp only[Act.put,fU,fV,fW];simp only[sC] at O9 au X9;generalize w8.setCells Q (j*8) (gX (ja (ls D g)) y).toList=w9 at *
       obtain⟨t0,t1,t2,t3,t4⟩:=nB au.o;obtain⟨e0,e1,e2,e3,e4⟩:=nB X9.o.eff;simp only at e0 e1 e2 e3 e4;clear t0 t1 t2 t3 e0 e2 e3 e4;have bO:gi (iy (kV D g)):=gg (by have:=uv aa g;unfold iy;omega)
       go_wp2_with (refine wpList_load_row rfl 56 _ rfl (w.heap.size+1) rfl 56 (hA h) (0,0) _ X9.o.hart Tryz.underlying56 rfl (ii bo) ?_)
       refine(jO h J _ _ ai bO.o).mono ?_
       rintro e wa ⟨rfl,aA⟩;have aR:=gg (X9.o.up aA);have bK:=gg (O9.o.below aA);have bX:=gg (gk aA au.o);have av:=mo ai J (kV D g);clear aA t4 e1
       go_wp2_with (refine wpList_store_row rfl 56 _ _ rfl (w.heap.size+1) (hA (gR h J (kV D g))) rfl rfl 56 (hA h) aR.o.hart (ii (gV _ av)) (by rw[bo,gV _ av]) (jU _) ?_)
       go_meet
       case rel=>exact⟨y,gg (gx.box bK.o aR.o.hart a0.o fun q hq e=>(List.mem_or_eq_of_mem_set hq).elim (fun h=>bp.o q h e) fun h=>(by subst h;have:=am.o _ e;omega)),gg (iL f_ bX.o),gg aR.o.row,am⟩
  case rest=>
   obtain⟨y,ao,ay,X6,cr⟩:=hcut;obtain⟨w6,bu⟩:∃ x,x=wc:=⟨_,rfl⟩;rw[←bu] at ao ay X6 ⊢
   have av:O.r.length=32:=by rw[HH.o];split;exact ai;exact mo ai J _
   have aP:=gV O av;clear bu ab X3 S T ag ac cl bp a0 aa ca bV aT hb;obtain⟨gh,cc,bY,eh,bG,cx,_,ap⟩:=ao.o.parts.hart hg.o.regs HK.o;subst eh;have ag:=gg ap;have T6:=gg (gx.setHart ao.o hg.o.regs rfl HK.o av);have K:=AQ w6 gh (k*39) (hC O);have N7:=gg ((K.2 f (fun e=>by have:=ay.o;rw[e,bG] at this;injection this with this;injection this with _ this;exact absurd this fZ)).trans ay.o);have X7:=gg (X6.o.but K f_ (rx f_ (hC O) (k*39) X6.o.bel));obtain⟨nh,aH⟩:∃ n,n=M.harts.length:=⟨_,rfl⟩;have cq:k<nh:=by rw[aH];exact HK.o
   obtain⟨k0,k1,k2,k3,k4,k5,k6,k7,k8⟩:=gU ao.o.at_;simp only[←aH] at k1;clear k0 k2 k3 k4 k5 k6 k7 k8 ap bG aH K;have ik:(k:Int)<(nh:Int):=by omega
   have bI:(0:Int)≤(k:Int):=by omega
   go_upto_region 10 with(first|(refine wpList_load_row rfl 56 _ rfl (w.heap.size+1) rfl 56 (hA O) (0,0) _ X6.o.hart Tryz.underlying56 rfl (ii aP) ?_)|(refine wpList_store_mid rfl 56 _ _ rfl gh (k*39) (hA O) rfl rfl (by rw[aP];exact ag.o) (by rw[aP];exact uS) (jU O) ?_))
   simp only[sX];generalize w6.setCells gh (k*39) (hC O)=X at *
   clear k1 ik bI X6 ay ao ag;obtain⟨ta,tc,rfl⟩:=gN T6.o.parts.trace;obtain⟨C,L⟩:∃ n,n=M.trace.length:=⟨_,rfl⟩;have V:=gg L;have ct:C≤N:=by rw[L];exact hg.o.trace
   obtain⟨k0,k1,k2,k3,k4,k5,k6,k7,k8⟩:=gU T6.o.at_;change X.cell? _=some (a_ ta M.trace.length tc) at k8;rw[←L] at k8;have f8:=gC T6.o.at_ 8;clear k0 k1 k2 k3 k4 k5 k6 k7 L;obtain⟨i0,hi,ce,b5,b7⟩:=info_parts EI;have t:=gr X (d_ #[b_ c_ k,b_ c_ j,b_ c_ g,fJ (c == 2),b_ c_ val] 59);have T8:=gg (T6.o.below t);have X8:=gg (X7.o.up t);have bh:=gH X (d_ #[b_ c_ k,b_ c_ j,b_ c_ g,fJ (c == 2),b_ c_ val] 59);have HC:gi (∀ i u,(mK ⟨k,j,g,c == 2,val⟩)[i]? = some u→(X.alloc (d_ #[b_ c_ k,b_ c_ j,b_ c_ g,fJ (c == 2),b_ c_ val] 59)).cell? ((⟨X.heap.size,0,none⟩:Addr).add i)=some u):=gg (fun i u hi=>by rw[kx,Nat.zero_add];exact gv bh (by simpa[mK] using hi));have aj:gi ((X.alloc (d_ #[b_ c_ k,b_ c_ j,b_ c_ g,fJ (c == 2),b_ c_ val] 59)).ownsRow w1.heap.size 59 5 (a_ ta C tc) C (iC mK M.trace)):=gg (by have:=T8.o.parts.trace;rw[V.o];exact this);have co:(C+1)*40≤140737488355328:=by omega
   have bJ:C+1≤maxLen:=by unfold maxLen;omega
   have cp:=fO T8.o.base (Nat.le_of_lt (gn T8.o.at_));have bZ:gi ((a_ ta C tc).ownBlock≠some p):=gg (by rw[V.o];exact gS T8.o.parts.trace T8.o.at_ fZ);clear t bh T6 X7;go_upto_region 11 with(first|(refine wpList_load_row rfl 59 _ rfl f rfl 59 _ (0,0) _ N7.o Tryz.underlying59 rfl wk ?_)|(at_builtin;refine wpList_append_own_at _ rfl _ _ 35 rfl w1.heap.size 59 i0 (e_ #[b_ c_ 0,b_ c_ 0,b_ c_ 0,fJ false,b_ c_ 0]) 5 40 Tryz.underlying35 hi ce b5 b7 rfl fZ (a_ ta C tc) _ _ rfl aj.o ⟨X.heap.size,0,none⟩ 1 1 (mK ⟨k,j,g,c == 2,val⟩) rfl rfl HC.o (El _) bJ co cp ?_;intro cw wd aI aS _ bd;have ch:=gg aI;have bP:=gg aS;have b8:=gg bd;obtain⟨xt,yt,rfl⟩:=gN aI;have aV:=(aS.block p (gn T8.o.at_) (fun e=>bZ.o e.symm)).trans T8.o.at_;have f9:wd.frozen? ⟨p,8,none⟩=false:=gC aV 8;have k9:wd.cell? ⟨p,8,none⟩=some (a_ ta C tc):=(by rw[V.o];exact gv aV (j:=8) rfl);clear aI aS bd aV))
   have cy:w.heap.size+3<w.heap.size+4:=by omega
   have GR:=bP.o;have bQ:=gg ((GR.block (w.heap.size+3) (gn X8.o.res) (fun e=>by have:=(aj.o.lt _ e.symm).1;omega)).trans X8.o.res);have bW:=gg (X8.o.bel.grown GR (by have:=gn X8.o.mac;omega) (fun g' e=>by have:=(aj.o.lt _ e).1;omega))
   have T9:=gg (T8.o.appendTrace (w':=wd) (tv':=a_ xt (C+1) yt) (l:=M.trace ++ [⟨k,j,g,c == 2,val⟩]) (by have:=GR;rw[V.o] at this;exact this) (by
    have e:(M.trace ++ [(⟨k,j,g,c == 2,val⟩:Ac)]).length=C+1:=by simp[V.o]
    rw[e,rz]
    simpa[iC] using ch.o) (by have:=b8.o;rw[V.o] at this ⊢;exact this))
   have HY:=gg ((iY (w:=wd) (o:=8) (u:=a_ xt (C+1) yt) (by omega:w.heap.size+3≠p)).trans bQ.o)
   have bR:gi (R=({ zb5 { M with devs:=M.devs.set j S2 } k O with trace:=M.trace ++ [⟨k,j,g,c == 2,val⟩] },0)):=gg (by
    rw[aE.o,HV.o,ah.o,HH.o,bq.o,iW (gG _)];by_cases h2:c=2
    · simp only[h2,if_true];rfl
    · simp only[if_neg h2,fS h2];rfl)
   have bT:=gg (gO bW.o (by omega:w.heap.size≤p) (o:=8) (a_ xt (C+1) yt));clear aE HV ah HH bq
   go_wp2_with (first|(refine wpList_load_row rfl 37 _ rfl p rfl 37 _ (0,0) _ T9.o.at_ Tryz.underlying37 rfl je ?_)|(refine wpList_store_row rfl 37 _ _ rfl (w.heap.size+3) _ rfl rfl 37 gq HY.o je rfl T9.o.parts.ones ?_))
   rw[bR.o];exact bodyPost_ret (im rfl _ _ (w.heap.size+3) 37 _ (0,0) _ rfl (setRow_heap _ _ _ _ _ _ HY.o) rfl Tryz.underlying37 rfl je) rfl ⟨_,rfl,T9.o.isMac.row9 HY.o mj.all,below_setRow bT.o f_ _⟩
end
end
