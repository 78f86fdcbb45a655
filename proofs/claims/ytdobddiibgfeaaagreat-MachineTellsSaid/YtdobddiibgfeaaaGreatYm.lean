/- What the walks of this statement lean on: shown. -/
import Derived.Test.YtdobddiibgfeaaaGreatYi
import Derived.Test.YtdobddiibgfeaaaGreatYl
set_option linter.all false
set_option maxRecDepth 100000
set_option maxHeartbeats 16000000
namespace Go.Proofs.YtdobddiibgfeaaaGreat
open Value renaming slice→a_,int→b_,agg→e_,pointer→fG,tuple→fI,bool→fJ
open IntKind renaming i64→c_
open Obj renaming cells→d_
open Ending renaming returned→fH
open Go.Proofs.Tryz renaming prog→gd
section
open Go.RowKit
set_option maxRecDepth 100000
set_option maxHeartbeats 16000000
structure MK (w w0:World) (p:Nat) (us:Array Value) (W:World):Prop where
 at_:W.heap[p]? = some (d_ us 37 (0,0))
 keep:∀ b,b<w0.heap.size→b≠p→W.heap[b]? = w0.heap[b]?
 le:w0.heap.size≤W.heap.size
 pge:w.heap.size+2≤p
 plt:p<w0.heap.size
 bel:Up w W
section
variable {w w0 W W':World} {p:Nat} {us:Array Value}
theorem MK.start (a:w0.heap[p]? = some (d_ us 37 (0,0))) (c:w.heap.size+2≤p) (b:Up w w0):MK w w0 p us w0:=⟨a,fun _ _ _=>rfl,fL,c,gn a,b⟩
theorem MK.up (h:MK w w0 p us W) (a:Up W W'):MK w w0 p us W':=⟨gk a h.at_,fun b hl c=>(a.block b (fN hl h.le)).trans (h.keep b hl c),fO h.le a.size,h.pge,h.plt,gj h.bel a⟩
theorem MK.set (h:MK w w0 p us W) i (u):MK w w0 p (us.setIfInBounds i u) (W.setCell ⟨p,i,none⟩ u):=
 ⟨jb h.at_ i u,fun b hl a=>(iY a).trans (h.keep b hl a),by rw[kj];exact h.le,h.pge,h.plt,gO h.bel (by have:=h.pge;omega) u⟩
theorem MK.grown (h:MK w w0 p us W) {e k n:Nat} {v xs} (d:W.ownsRow w0.heap.size e k v n xs) (he:e≠37) (c:W.grownBy W' v.ownBlock):MK w w0 p us W':=
 ⟨(
  c.block _ (gn h.at_) fun a=>gS d h.at_ he a.symm).trans h.at_,fun b hl f=>(c.block b (fN hl h.le) fun a=>by have:=(d.lt b a.symm).1;omega).trans (h.keep b hl f),fO h.le c.size,h.pge,h.plt,
  h.bel.grown c (fO (by have:=h.pge;have:=gn h.at_;omega) fL) fun g a=>by have:=(d.lt g a).1;have:=h.pge;have:=h.plt;omega⟩
theorem MK.row (h:MK w w0 p us W) {d} (f:w0.heap[p]? = some (d_ d 37 (0,0))) {B e k n:Nat} {v} {xs} (a:w0.ownsRow B e k v n xs) (he:e≠37):W.ownsRow B e k v n xs:=
 lH a fun b c=>h.keep b (a.lt b c).2 (fun g=>by subst g;exact gS a f he c)
end
theorem uA {α β:Type} f (g:α→β) (l):iC f (l.map g)=iC (fun x=>f (g x)) l:=by simp[iC,List.flatMap_map]
theorem Bc (l:List Int):(l.map ix).zip (List.replicate l.length (a_ none 0 0))=l.map fun k=>(ix k,(a_ none 0 0)):=by
 induction l with
 | nil=>rfl
 | cons x l ih=>simp only[List.map_cons,List.length_cons,List.replicate_succ,List.zip_cons_cons,ih]
def rN (k:Int):List Value:=sC (ix k,(a_ none 0 0))
def oM (H:Int) (a:List Int) (lines:List Ln):Prop:=(1≤H∧H≤4)∧a.length≤8∧lines.length≤8∧a.any jY=false∧lines.any (jK H)=false
instance (H:Int) (kinds:List Int) (lines:List Ln):Decidable (oM H kinds lines):=by unfold oM;infer_instance
theorem Cx H v kv lv ws mem d lines w (hi:kE w v ws mem) (hk:iQ w 1 d.length kv (gz d)) (hl:iQ w 3 lines.length lv (iC j_ lines)) :
 Calls gd 13 #[b_ c_ H,v,kv,lv] w (pF w (if oM H d lines then (sK H.toNat ws mem d lines,0) else (jX,1))):=by
 have aM:=hi;have b5:=hi.mem;have br:=hi.few;obtain⟨ia,ic,rfl,a8⟩:=hi.shape;obtain⟨ka,kc,rfl⟩:=hk.shape;obtain⟨la,lc,rfl⟩:=hl.shape;obtain⟨R,hR⟩:∃ R,R=if oM H d lines then (sK H.toNat ws mem d lines,(0:Int)) else (jX,1):=⟨_,rfl⟩
 rw[←hR];have HR:=gg hR;obtain⟨D,aR⟩:∃ n,n=d.length:=⟨_,rfl⟩;obtain⟨N,aL⟩:∃ n,n=lines.length:=⟨_,rfl⟩;obtain⟨nw,aE⟩:∃ n,n=ws.length:=⟨_,rfl⟩;have NW:=gg aE;have NK:=gg aR;have NL:=gg aL;rw[←aE] at aM br;rw[←aR,←aL,←aE];obtain⟨w1,bg,aH,ap,aI,bO⟩:=lU w (d_ #[a_ ia nw ic,b_ c_ (mem:Int),a_ none 0 0] 43) (d_ gq 37);have a5:=gg aH;have be:=gg ap;have ba:=gg aI;have a9:=gg (aM.below aI);have HW:=gg a8;have HK:=gg hk;have HL:=gg hl;obtain⟨x0,x1,x2⟩:=iv aH;clear aM hi a8 hk hl aR aL aE hR aH ap aI bO
 go_in
 go_upto_region 1 with(fail)
 rw[←bg];clear bg;go_upto_region 2 with(go_at_call 36;refine(xm _ ws mem _ a9.o).mono ?_;rintro e w2 ⟨rfl,aa⟩;have ag:=gg aa;clear aa)
 have bl:=gg (gk ag.o a5.o);have au:=gg (gk ag.o be.o);have B2:=gg (gj ba.o ag.o);clear x0 x1 x2 a5 be ba ag a9;obtain⟨t,ht⟩:∃ b,b=(decide (H<1) || (decide (4<H) || (decide (8<(D:Int)) || decide (8<(N:Int))))):=⟨_,rfl⟩
 go_cut [37] (fun s wx=>s = fJ t∧wx=w2)
 case first=>
  cases m:decide (H<1)
  rotate_left
  · simp only[m,Bool.true_or,Bool.false_or,Bool.or_true] at ht
    go_wp2
    go_meet
    case rel=>exact⟨by first|rw[ht]|(rw[ht];simp[m]),rfl⟩
  cases L:decide (4<H)
  rotate_left
  · simp only[m,L,Bool.true_or,Bool.false_or,Bool.or_true] at ht
    go_wp2
    go_meet
    case rel=>exact⟨by first|rw[ht]|(rw[ht];simp[m,L]),rfl⟩
  cases b2:decide (8<(D:Int))
  rotate_left
  · simp only[m,L,b2,Bool.true_or,Bool.false_or,Bool.or_true] at ht
    go_wp2
    go_meet
    case rel=>exact⟨by first|rw[ht]|(rw[ht];simp[m,L,b2]),rfl⟩
  cases b3:decide (8<(N:Int))
  rotate_left
  · simp only[m,L,b2,b3,Bool.true_or,Bool.false_or,Bool.or_true] at ht
    go_wp2
    go_meet
    case rel=>exact⟨by first|rw[ht]|(rw[ht];simp[m,L,b2,b3]),rfl⟩
  simp only[m,L,b2,b3,Bool.true_or,Bool.false_or,Bool.or_true] at ht
  go_wp2
  go_meet
  case rel=>exact⟨by first|rw[ht]|(rw[ht];simp[m,L,b2,b3]),rfl⟩
 case rest=>
 obtain⟨rfl,aj⟩:=hcut;have aj:=aj.symm;subst aj;have HT:=gg ht;clear ht;cases ax:t
 rotate_left
 · have am:gi (R=(jX,1)):=gg (by
    rw[HR.o,if_neg];rintro⟨z1,z2,z3,_⟩;have h:=HT.o.symm.trans ax;simp only[Bool.or_eq_true,decide_eq_true_eq] at h;have:=NK.o;have:=NL.o;omega)
   subst ax
   go_wp2_with (refine wpList_store_row rfl 37 _ _ rfl (w.heap.size+1) gq rfl rfl 37 gq au.o je rfl (by simp[Value.oneCell']) ?_)
   rw[am.o];exact gP rfl rfl rfl rfl au.o (iz _) B2.o f_
 have hh:=HT.o.symm.trans ax;simp only[Bool.or_eq_false_iff,decide_eq_false_iff_not] at hh;obtain⟨b9,b7,cb,b6⟩:=hh;subst ax;clear HT;go_upto_region 5 with(fail)
 have a0:=gH w2 (d_ gq 37);have aw:=gr w2 (d_ gq 37);have aV:=gg (gk aw bl.o);have ar:=gg (gk aw au.o);have M3:=gg (MK.start (w:=w) a0 (gn au.o) (gj B2.o aw));generalize w2.alloc (d_ gq 37)=w3 at *
 have ca:=M3.o.bel.size;generalize w2.heap.size=p at *
 have P3:=gg a0;clear a0 aw bl au B2;have hH:1≤H∧H≤4:=by omega
 obtain⟨bB,bT,bH,bS,bM⟩:=info_parts EH
 go_wp2_with fail
 go_loopw [12] (fun i wr=>∃ (r:Nat) (da:Option Addr) (dc:Nat),r≤D∧i =b_ c_ r∧gi ((d.take r).any jY=false)∧gi (MK w w3 p #[a_ none 0 0,a_ none 0 0,a_ none 0 0,a_ none 0 0,a_ none 0 0,a_ none 0 0,a_ da r dc,a_ none 0 0,a_ none 0 0] wr)∧gi (wr.ownsRow w3.heap.size 75 8 (a_ da r dc) r (iC rN (d.take r)))) (fun i _=>D - (intOf i).toNat)
 case atStart=>exact⟨0,none,0,fM,rfl,gg gb,M3,gg (World.ownsRow_nil _ _ _ _)⟩
 case round=>
  obtain⟨r,da,dc,hr,rfl,HB,a,W⟩:=hrel;obtain⟨V,hV⟩:∃ x,x=wr:=⟨_,rfl⟩;subst hV;by_cases ai:r<D
  · have h1:r<d.length:=by rw[←NK.o];exact ai
    obtain⟨b,o,c,e,hb,hm,hc⟩:=ll (HK.o.2.2.2 f_) h1;rw[←NK.o] at e hm;injection e with e1 en e3;clear en;subst e1 e3
    unfold maxLen at hm;have aq:gi (d.take (r+1)=d.take r ++ [d[r]]):=gg (fP h1);have aP:gi (d[r]∈d):=gg (List.getElem_mem h1);generalize d[r]=z at *
    have af:hZ V b (o+r) (b_ c_ z):=hZ.up ⟨hb,hc⟩ a.o.bel;have kz:=af.2;have bI:=gg af;have ir:(r:Int)<(D:Int):=by omega
    have bs:(0:Int)≤(r:Int):=by omega
    clear hc af;by_cases hz:1≤z∧z≤3
    rotate_left
    · have am:gi (R=(jX,1)):=gg (by
       rw[HR.o,if_neg];rintro⟨_,_,_,z3,_⟩;have:=List.any_eq_false.1 z3 z aP.o;simp[jY] at this;omega)
      have ad:gi (V.heap[w.heap.size+1]? = some (d_ gq 37 (0,0))):=gg ((a.o.keep _ (gn ar.o) (by have:=a.o.pge;omega)).trans ar.o);by_cases bU:z<1
      · go_wp2_with (refine wpList_store_row rfl 37 _ _ rfl (w.heap.size+1) gq rfl rfl 37 gq ad.o je rfl (by simp[Value.oneCell']) ?_)
        rw[am.o];exact gP rfl rfl rfl rfl ad.o (iz _) a.o.bel f_
      · have bC:3<z:=by omega
        go_wp2_with (refine wpList_store_row rfl 37 _ _ rfl (w.heap.size+1) gq rfl rfl 37 gq ad.o je rfl (by simp[Value.oneCell']) ?_)
        rw[am.o];exact gP rfl rfl rfl rfl ad.o (iz _) a.o.bel f_
    have bU:decide (z<1)=false:=by simp;omega
    have bC:decide (3<z)=false:=by simp;omega
    have bX:gi (∀ w',Calls gd 37 #[b_ c_ z] w' fun e bE=>e =fH (e_ #[b_ c_ z,b_ c_ 0,b_ c_ 0,b_ c_ 0,b_ c_ 0,a_ none 0 0,b_ c_ 0,fJ false])∧Up w' bE):=gg (fun w'=>DO z w' hz);have bZ:gi (jY z=false):=gg (by simp[jY,hz]);go_upto_region 10 with(fail)
    clear kz;refine fY (fun w'=>hZ w' p 6 (a_ da r dc)∧hZ w' b (o+r) (b_ c_ z)) 9 [true,true,true,true,true,true] (fun _ _ h hu=>⟨h.1.up hu,h.2.up hu⟩) ⟨⟨gn a.o.at_,(gU a.o.at_).2.2.2.2.2.2.1⟩,bI.o⟩ ?a2 ?h2 ?ht2
    case h2=>
     intro w0 ⟨hc1,hc2⟩;have y1:=fun x=>gD hc1.1 hc1.2 x
     have y2:=fun x=>gD hc2.1 hc2.2 x
     clear hc1 hc2;simp only[jd];repeat(go_big_quiet_step (fail))
     refine wpQuiet_nil ?_
     rfl
    case ht2=>
     change kD _ _ _ _ _ _ 3 _ _ _;refine jQ (i:=6) ga fZ rfl ?_
     intro v1 bm ⟨hc1,bi⟩;have aT:Up V v1:=gj (iR fK) bm;have M1:=gg (a.o.up aT);have O1:=gg (gy W.o aT);clear aT bm
     go_wp2_with fail
     refine(bX.o _).mono ?_
     rintro e v2 ⟨rfl,aa⟩;have M2:=gg (M1.o.up aa);have O2:=gg (gy O1.o aa);have hc2:=And.intro (hc1.up aa) (bi.up aa);have bh:=gg hc2;clear aa M1 O1 hc1 bi hc2
     go_wp2_with fail
     refine⟨bh.o,?_⟩;refine jQ (i:=7) ga fZ rfl ?_
     intro v3 aS aW;have a3:=gg (M2.o.up aS);have O3:=gg (gy O2.o aS);clear aS M2 O2 bh
     go_wp2_with fail
     have a7:=And.intro (aW.1.up (gr v3 (d_ #[b_ c_ z,b_ c_ 0,b_ c_ 0,b_ c_ 0,b_ c_ 0,a_ none 0 0,b_ c_ 0,fJ false] 75))) (aW.2.up (gr v3 (d_ #[b_ c_ z,b_ c_ 0,b_ c_ 0,b_ c_ 0,b_ c_ 0,a_ none 0 0,b_ c_ 0,fJ false] 75)));have bo:=gg a7;clear aW a7;refine⟨bo.o,?_⟩;refine jQ (i:=8) ga fZ rfl ?_
     intro v4 aN az;have ah:=gk aN (gH v3 (d_ #[b_ c_ z,b_ c_ 0,b_ c_ 0,b_ c_ 0,b_ c_ 0,a_ none 0 0,b_ c_ 0,fJ false] 75));have aK:=gj (gr v3 (d_ #[b_ c_ z,b_ c_ 0,b_ c_ 0,b_ c_ 0,b_ c_ 0,a_ none 0 0,b_ c_ 0,fJ false] 75)) aN;have Z:=gg (a3.o.up aK);have G:=gg (gy O3.o aK);have ae:gi (∀ j u,(rN z)[j]? = some u→v4.cell? ((⟨v3.heap.size,0,none⟩:Addr).add j)=some u):=gg (fun j u hj=>by rw[kx,Nat.zero_add];exact gv ah (by simpa[rN,sC,gX,ix] using hj));have al:r+1≤maxLen:=by unfold maxLen;omega
     clear aN aK ah a3 O3 bo;refine wpList_append_own _ rfl _ _ 34 rfl w3.heap.size 75 bB (e_ #[b_ c_ 0,b_ c_ 0,b_ c_ 0,b_ c_ 0,b_ c_ 0,a_ none 0 0,b_ c_ 0,fJ false]) 8 80 Tryz.underlying34 bT bH bS bM rfl fZ (a_ da r dc) _ _ rfl G.o ⟨v3.heap.size,0,none⟩ 1 1 (rN z) rfl rfl ae.o (by simp[rN,sC,gX,Value.oneCell']) al f_ Z.o.le ?_
     intro v' v5 ab ac _;obtain⟨Y,P,rfl⟩:=gN ab;have M5:=gg (Z.o.grown G.o fZ ac);have O5:=gg ab
     have C5:gi (hZ v5 p 6 (a_ da r dc)∧hZ v5 b (o+r) (b_ c_ z)):=gg ⟨⟨gn M5.o.at_,(gU M5.o.at_).2.2.2.2.2.2.1⟩,by
      have e:=ac.block b az.2.1 (fun e=>by have:=(G.o.lt b e.symm).1;have:=M5.o.pge;have:=M5.o.plt;omega);refine⟨fN az.2.1 ac.size,?_⟩;have h2:=az.2.2;unfold World.cell? at h2 ⊢
      simp only[e];exact h2⟩
     clear ab ac az Z G ae
     go_wp2_with fail
     refine⟨C5.o,?_⟩;refine lR ga ?_
     intro v6 aU _;have M:=M5.o.up aU;have M7:=gg (M.set 6 (a_ Y (r+1) P));have O7:=gg (h_ (j:=6) (u:=a_ Y (r+1) P) (gy O5.o aU) M.at_ fZ);obtain⟨C,B,I,k3,F,E,J,K,A⟩:=gU M.at_;have f6:=gC M.at_ 6;clear C B I k3 F E K A aU M M5 O5 C5;simp only[List.drop_succ_cons,List.drop_zero]
     go_wp2_with fail
     refine⟨⟨r+1,Y,P,by omega,by go_num,gg ?_,M7,gg ?_⟩,by simp[intOf];omega⟩
     · rw[aq.o,List.any_append,HB.o];simp[bZ.o]
     · rw[aq.o,rz]
       simpa[iC] using O7.o
  have an:D=r:=by omega
  subst an;have bk:gi (d.any jY=false):=gg (by have:=HB.o;rw[NK.o,List.take_length] at this;exact this);have HD:gi (V.ownsRow w3.heap.size 75 8 (a_ da D dc) D (iC rN d)):=gg (by have:=W.o;rw[show d.take D=d by rw[NK.o,List.take_length]] at this;exact this);have aA:decide ((D:Int)<(D:Int))=false:=by simp
  have PV:=gg a.o.at_;have cc:=a.o.bel.size;have MV:=gg (MK.start a.o.at_ a.o.pge a.o.bel);have ad:gi (V.heap[w.heap.size+1]? = some (d_ gq 37 (0,0))):=gg ((a.o.keep _ (gn ar.o) (by have:=a.o.pge;omega)).trans ar.o);have aC:gi (V.heap[w.heap.size]? = some (d_ #[a_ ia nw ic,b_ c_ (mem:Int),a_ none 0 0] 43 (0,0))):=gg ((a.o.keep _ (gn aV.o) (by have:=a.o.pge;omega)).trans aV.o);clear HB W a hr ai M3 P3 aV ar;obtain⟨bp,bA,bt,bR,bu⟩:=info_parts GA
  go_wp2_with fail
  clear aA
  go_loopw [13] (fun i wr=>∃ (r:Nat) (ta:Option Addr) (tc:Nat),r≤N∧i =b_ c_ r∧gi ((lines.take r).any (jK H)=false)∧gi (MK w V p #[a_ none 0 0,a_ none 0 0,a_ none 0 0,a_ none 0 0,a_ none 0 0,a_ none 0 0,a_ da D dc,a_ ta r tc,a_ none 0 0] wr)∧gi (wr.ownsRow V.heap.size 64 3 (a_ ta r tc) r (iC j_ ((lines.take r).map lM)))) (fun i _=>N - (intOf i).toNat)
  case atStart=>exact⟨0,none,0,fM,rfl,gg gb,MV,gg (World.ownsRow_nil _ _ _ _)⟩
  case round=>
   obtain⟨r,ta,tc,hr,rfl,HB,a,W⟩:=hrel;obtain⟨U,hU⟩:∃ x,x=wr:=⟨_,rfl⟩;subst hU;by_cases ai:r<N
   · have h1:r<lines.length:=by rw[←NL.o];exact ai
     obtain⟨b,o,c,e,hb,hm,hc⟩:=jx (HL.o.2.2.2 f_) (fun y _=>A7 y) h1;rw[←NL.o] at e hm;injection e with e1 en e3;clear en;subst e1 e3
     unfold maxLen at hm;have aq:gi (lines.take (r+1)=lines.take r ++ [lines[r]]):=gg (fP h1);have aP:gi (lines[r]∈lines):=gg (List.getElem_mem h1);have af:U.rangeAt b (o+r*3) (j_ lines[r]):=fun j u hu=>(a.o.bel.cell (p:=⟨b,_,none⟩) hb).trans (hc j u hu)
     generalize lines[r]=l at *
     obtain⟨lh,X,lr⟩:=l;have g0:U.cell? ⟨b,o+r*3,none⟩=some (b_ c_ lh):=af 0 _ rfl;have g1:U.cell? ⟨b,o+r*3+1,none⟩=some (b_ c_ X):=af 1 _ rfl;have g2:U.cell? ⟨b,o+r*3+2,none⟩=some (fJ lr):=af 2 _ rfl;have ir:(r:Int)<(N:Int):=by omega
     have bs:(0:Int)≤(r:Int):=by omega
     clear hc af;go_upto_region 15 with(fail)
     have ah:=gH U (d_ #[b_ c_ lh,b_ c_ X,fJ lr] 64);have Q:=gr U (d_ #[b_ c_ lh,b_ c_ X,fJ lr] 64);have Z:=gg (a.o.up Q);have G:=gg (gy W.o Q);clear g0 g1 g2;generalize U.alloc (d_ #[b_ c_ lh,b_ c_ X,fJ lr] 64)=u4 at *
     obtain⟨g0,g1,g2⟩:=iv ah;have ay:gi (u4.heap[w.heap.size+1]? = some (d_ gq 37 (0,0))):=gg ((Z.o.keep _ (gn ad.o) (by have:=Z.o.pge;omega)).trans ad.o);clear ah Q;obtain⟨q,f⟩:∃ q,q=jK H ⟨lh,X,lr⟩:=⟨_,rfl⟩;have HQ:=gg f;unfold jK at f;simp only at f
     go_cut [96] (fun s wx=>s = fJ q∧wx=u4)
     case first=>
      cases m:decide (lh<0)
      rotate_left
      · simp only[m,Bool.true_or,Bool.false_or,Bool.or_true] at f
        go_wp2
        go_meet
        case rel=>exact⟨by first|rw[f]|(rw[f];simp[m]),rfl⟩
      cases L:decide (H≤lh)
      rotate_left
      · simp only[m,L,Bool.true_or,Bool.false_or,Bool.or_true] at f
        go_wp2
        go_meet
        case rel=>exact⟨by first|rw[f]|(rw[f];simp[m,L]),rfl⟩
      cases b2:decide (X<0)
      rotate_left
      · simp only[m,L,b2,Bool.true_or,Bool.false_or,Bool.or_true] at f
        go_wp2
        go_meet
        case rel=>exact⟨by first|rw[f]|(rw[f];simp[m,L,b2]),rfl⟩
      cases b3:decide (7<X)
      rotate_left
      · simp only[m,L,b2,b3,Bool.true_or,Bool.false_or,Bool.or_true] at f
        go_wp2
        go_meet
        case rel=>exact⟨by first|rw[f]|(rw[f];simp[m,L,b2,b3]),rfl⟩
      simp only[m,L,b2,b3,Bool.true_or,Bool.false_or,Bool.or_true] at f
      go_wp2
      go_meet
      case rel=>exact⟨by first|rw[f]|(rw[f];simp[m,L,b2,b3]),rfl⟩
     case rest=>
     obtain⟨rfl,aj⟩:=hcut;have aj:=aj.symm;subst aj;clear f g2;cases av:q
     rotate_left
     · have am:gi (R=(jX,1)):=gg (by
        rw[HR.o,if_neg];rintro⟨_,_,_,_,z4⟩;have:=List.any_eq_false.1 z4 _ aP.o;rw[←HQ.o,av] at this;exact this rfl)
       subst av
       go_wp2_with (refine wpList_store_row rfl 37 _ _ rfl (w.heap.size+1) gq rfl rfl 37 gq ay.o je rfl (by simp[Value.oneCell']) ?_)
       rw[am.o];exact gP rfl rfl rfl rfl ay.o (iz _) Z.o.bel f_
     have bF:gi (jK H ⟨lh,X,lr⟩=false):=gg (by rw[←HQ.o];exact av);subst av;have aF:=gr u4 (d_ #[b_ c_ lh,b_ c_ X,fJ false] 64);have a6:=gH u4 (d_ #[b_ c_ lh,b_ c_ X,fJ false] 64);have M5:=gg (Z.o.up aF);have O5:=gg (gy G.o aF);have ae:gi (∀ j u,(j_ ⟨lh,X,false⟩)[j]? = some u→(u4.alloc (d_ #[b_ c_ lh,b_ c_ X,fJ false] 64)).cell? ((⟨u4.heap.size,0,none⟩:Addr).add j)=some u):=gg (fun j u hj=>by rw[kx,Nat.zero_add];exact gv a6 (by simpa[j_] using hj));have al:r+1≤maxLen:=by unfold maxLen;omega
     obtain⟨C,B,I,k3,F,E,J,K,A⟩:=gU Z.o.at_;clear C B I k3 F E J A aF a6 G a W
     go_wp2_with (at_builtin;refine wpList_append_own _ rfl _ _ 25 rfl V.heap.size 64 bp (e_ #[b_ c_ 0,b_ c_ 0,fJ false]) 3 24 Tryz.underlying25 bA bt bR bu rfl fZ (a_ ta r tc) _ _ rfl O5.o ⟨u4.heap.size,0,none⟩ 1 1 (j_ ⟨lh,X,false⟩) rfl rfl ae.o (Dk _) al f_ M5.o.le ?_;intro v' v5 ab ac _;obtain⟨Y,P,rfl⟩:=gN ab;have M:=gg (M5.o.grown O5.o fZ ac);have O6:=gg ab;clear ab ac K g0 g1;obtain⟨C,B,I,k3,F,E,J,K,A⟩:=gU M.o.at_;have f7:=gC M.o.at_ 7;clear C B I k3 F E J A)
     refine⟨⟨r+1,Y,P,by omega,by go_num,gg ?_,gg (M.o.set 7 (a_ Y (r+1) P)),gg ?_⟩,by simp[intOf];omega⟩
     · rw[aq.o,List.any_append,HB.o];simp[bF.o]
     · rw[aq.o,List.map_append,rz]
       have:=h_ (j:=7) (u:=a_ Y (r+1) P) O6.o M.o.at_ fZ
       simpa[iC,lM] using this
   have an:N=r:=by omega
   subst an;have cd:=a.o.bel.size;have bn:gi (lines.any (jK H)=false):=gg (by have:=HB.o;rw[NL.o,List.take_length] at this;exact this);have a1:gi (U.ownsRow V.heap.size 64 3 (a_ ta N tc) N (iC j_ (lines.map lM))):=gg (by have:=W.o;rw[show lines.take N=lines by rw[NL.o,List.take_length]] at this;exact this);have bc:gi (U.ownsRow w3.heap.size 75 8 (a_ da D dc) D (iC rN d)):=gg (a.o.row PV.o HD.o fZ);have ay:gi (U.heap[w.heap.size+1]? = some (d_ gq 37 (0,0))):=gg ((a.o.keep _ (gn ad.o) (by have:=a.o.pge;omega)).trans ad.o);have bf:gi (U.heap[w.heap.size]? = some (d_ #[a_ ia nw ic,b_ c_ (mem:Int),a_ none 0 0] 43 (0,0))):=gg ((a.o.keep _ (gn aC.o) (by have:=a.o.pge;omega)).trans aC.o);have bw:gi (R=(sK H.toNat ws mem d lines,0)):=gg (by rw[HR.o,if_pos ⟨hH,by rw[←NK.o];omega,by rw[←NL.o];omega,bk.o,bn.o⟩]);have aA:decide ((N:Int)<(N:Int))=false:=by simp
   clear HB W hr ai MV PV HD bk bn HR;obtain⟨j0,hj,a4,ap,bd⟩:=info_parts yT;obtain⟨ih,bP,bQ,bL,bD⟩:=info_parts EZ;obtain⟨q0,q1,q2⟩:=iv bf.o;obtain⟨C,B,I,k3,F,E,J,K,A⟩:=gU a.o.at_;clear B I k3 F E J K A q1 q2;have aG:=gg (HW.o.below a.o.bel);rw[←NW.o] at aG;go_upto_region 19 with(at_builtin;refine jc _ rfl _ _ 24 3 rfl j0 (b_ c_ 0) 1 8 Tryz.underlying24 hj a4 ap bd rfl fZ rfl _ _ _ rfl aG.o f_ ?_;intro v2 u2 aO aa;obtain⟨xw,yw,rfl⟩:=gN aO;have M2:=gg (a.o.up aa);have O2:=gg aO;have ag:=gg aa;clear aO aa C q0;obtain⟨C,B,I,k3,F,E,J,K,A⟩:=gU M2.o.at_;have f0:=gC M2.o.at_ 0;clear B I k3 F E J K A)
   have ak:=M2.o.set 0 (a_ xw nw yw);have OW:=gg (h_ (j:=0) (u:=a_ xw nw yw) O2.o M2.o.at_ fZ);have OL:=gg (h_ (j:=0) (u:=a_ xw nw yw) (gy a1.o ag.o) M2.o.at_ fZ);have OD:=gg (h_ (j:=0) (u:=a_ xw nw yw) (gy bc.o ag.o) M2.o.at_ fZ);generalize u2.setCell ⟨p,0,none⟩ (a_ xw nw yw)=T at *
   have PT:=gg ak.at_;have MT:=gg (MK.start ak.at_ ak.pge ak.bel);have aJ:gi (T.heap[w.heap.size+1]? = some (d_ gq 37 (0,0))):=gg ((ak.keep _ (gn ad.o) (by have:=M2.o.pge;omega)).trans ad.o);have aQ:gi (T.heap[w.heap.size]? = some (d_ #[a_ ia nw ic,b_ c_ (mem:Int),a_ none 0 0] 43 (0,0))):=gg ((ak.keep _ (gn aC.o) (by have:=M2.o.pge;omega)).trans aC.o);obtain⟨h,rfl⟩:∃ h:Nat,H=h:=⟨H.toNat,by omega⟩;clear ak M2 O2 ag C f0 a1 bc a ay bf aG aA
   go_wp2_with fail
   go_loopw [15] (fun i wr=>∃ (r:Nat) (ha:Option Addr) (hc:Nat) (ea:Option Addr) (ec:Nat),r≤h∧i =b_ c_ r∧gi (MK w T p #[a_ xw nw yw,a_ ha r hc,a_ ea r ec,a_ none 0 0,a_ none 0 0,a_ none 0 0,a_ da D dc,a_ ta N tc,a_ none 0 0] wr)∧gi (wr.ownsRow T.heap.size 56 39 (a_ ha r hc) r (iC hC (List.replicate r nA)))∧gi (wr.ownsRow T.heap.size 3 1 (a_ ea r ec) r (gz (List.replicate r 0)))) (fun i _=>h - (intOf i).toNat)
   case atStart=>exact⟨0,none,0,none,0,fM,rfl,MT,gg (World.ownsRow_nil _ _ _ _),gg (World.ownsRow_nil _ _ _ _)⟩
   case round=>
    obtain⟨r,ha,hc,ea,ec,hr,rfl,a,W,HE⟩:=hrel;obtain⟨S,hS⟩:∃ x,x=wr:=⟨_,rfl⟩;subst hS;by_cases ai:r<h
    · have ah:=gH S (d_ zA 56)
      have Q:=gr S (d_ zA 56);have Z:=gg (a.o.up Q);have G:=gg (gy W.o Q);have E4:=gg (gy HE.o Q);have bx:zA=(hC nA).toArray:=by rfl
      have ae:gi (∀ j u,(hC nA)[j]? = some u→(S.alloc (d_ zA 56)).cell? ((⟨S.heap.size,0,none⟩:Addr).add j)=some u):=gg (fun j u hj=>by rw[kx,Nat.zero_add];exact gv ah (by rw[bx];simpa using hj));have al:r+1≤maxLen:=by unfold maxLen;omega
      have ir:(r:Int)<(h:Int):=by omega
      obtain⟨C,B,I,k3,F,E,J,K,A⟩:=gU a.o.at_;clear C I k3 F E J K A Q ah a W HE;go_upto_region 23 with(at_builtin;refine wpList_append_own _ rfl _ _ 30 rfl T.heap.size 56 ih (e_ zA) 39 312 Tryz.underlying30 bP bQ bL bD rfl fZ (a_ ha r hc) _ _ rfl G.o ⟨S.heap.size,0,none⟩ 1 1 (hC nA) rfl rfl ae.o (o8 _) al f_ Z.o.le ?_;intro v' v5 ab ac _;obtain⟨Y,P,rfl⟩:=gN ab;have M:=gg (Z.o.grown G.o fZ ac);have O6:=gg ab;have E6:=gg (nC E4.o ac fun g e=>ku G.o E4.o fZ e);clear ab ac B;obtain⟨C,B,I,k3,F,E,J,K,A⟩:=gU M.o.at_;have f1:=gC M.o.at_ 1;clear C I k3 F E J K A)
      have M7:=gg (M.o.set 1 (a_ Y (r+1) P));have O7:=gg (h_ (j:=1) (u:=a_ Y (r+1) P) O6.o M.o.at_ fZ);have E7:=gg (h_ (j:=1) (u:=a_ Y (r+1) P) E6.o M.o.at_ fZ);clear B f1 M O6 E6 Z G E4 ae;generalize v5.setCell ⟨p,1,none⟩ (a_ Y (r+1) P)=S2 at *
      have bj:=gH S2 (d_ #[b_ c_ 0] 3);have aD:=gr S2 (d_ #[b_ c_ 0] 3);have M8:=gg (M7.o.up aD);have O8:=gg (gy O7.o aD);have E8:=gg (gy E7.o aD);have ae:gi (∀ j u,[b_ c_ 0][j]? = some u→(S2.alloc (d_ #[b_ c_ 0] 3)).cell? ((⟨S2.heap.size,0,none⟩:Addr).add j)=some u):=gg (fun j u hj=>by rw[kx,Nat.zero_add];exact gv bj (by simpa using hj));obtain⟨C,B,I,k3,F,E,J,K,A⟩:=gU M7.o.at_;clear C B k3 F E J K A aD bj M7 O7 E7
      go_wp2_with (at_builtin;refine wpList_append_own _ rfl _ _ 24 rfl T.heap.size 3 j0 (b_ c_ 0) 1 8 Tryz.underlying24 hj a4 ap bd rfl fZ (a_ ea r ec) _ _ rfl E8.o ⟨S2.heap.size,0,none⟩ 1 1 [b_ c_ 0] rfl rfl ae.o (by simp[Value.oneCell']) al f_ M8.o.le ?_;intro v' v9 aZ aX _;obtain⟨xe,ye,rfl⟩:=gN aZ;have ao:=gg (M8.o.grown E8.o fZ aX);have bN:=gg aZ;have bq:=gg (nC O8.o aX fun g e=>ku E8.o O8.o fZ e);clear aZ aX I;obtain⟨C,B,I,k3,F,E,J,K,A⟩:=gU ao.o.at_;have f2:=gC ao.o.at_ 2;clear C B k3 F E J K A)
      refine⟨⟨r+1,Y,P,xe,ye,by omega,by go_num,gg (ao.o.set 2 (a_ xe (r+1) ye)),gg ?_,gg ?_⟩,by simp[intOf];omega⟩
      · have:=h_ (j:=2) (u:=a_ xe (r+1) ye) bq.o ao.o.at_ fZ
        rw[List.replicate_succ',rz]
        simpa[iC] using this
      · have:=h_ (j:=2) (u:=a_ xe (r+1) ye) bN.o ao.o.at_ fZ
        rw[List.replicate_succ']
        simpa[gz] using this
    have an:h=r:=by omega
    subst an;have aA:decide ((h:Int)<(h:Int))=false:=by simp
    have aB:w.heap.size≤p:=by have:=a.o.pge;omega
    have b8:=a.o.plt
    have O:gi (gx 37 S w.heap.size p (a_ xw nw yw) (a_ ha h hc) (a_ ea h ec) (a_ none 0 0) (a_ none 0 0) (a_ none 0 0) (a_ da D dc) (a_ ta N tc) (a_ none 0 0) (List.replicate D (a_ none 0 0)) ⟨ws,List.replicate h nA,List.replicate h 0,lY,d.map ix,lines.map lM,[]⟩):=gg
     ⟨a.o.at_,aB,⟨by rw[←NW.o];exact jW (a.o.row PT.o OW.o fZ) f_,by simpa using jW W.o f_,by simpa using jW HE.o f_,lX S,
      by simp only[List.length_map,←NK.o];rw[show (d.map ix).zip (List.replicate D (a_ none 0 0))=d.map fun k=>(ix k,(a_ none 0 0)) by rw[NK.o];exact Bc d,uA];exact jW (a.o.row PT.o OD.o fZ) f_,
      ⟨by simp[NK.o],fun i q s f hs=>by
       have e1:=(List.mem_replicate.1 (List.mem_of_getElem? f)).2;obtain⟨k,_,e2⟩:=List.mem_map.1 (List.mem_of_getElem? hs);subst e1 e2;exact gl.own (World.ownsRow_nil S 0 3 1) (fun u hu=>by cases hu)⟩,
      by simp only[List.length_map,←NL.o];exact jW (a.o.row PT.o OL.o fZ) f_,World.ownsRow_nil _ _ _ _⟩,
     fun q f g e=>by
      have e1:=(List.mem_replicate.1 f).2;subst e1;cases e⟩
    have bv:gi (S.heap[w.heap.size+1]? = some (d_ gq 37 (0,0))):=gg ((a.o.keep _ (gn aJ.o) (by have:=a.o.pge;omega)).trans aJ.o);have bK:gi (S.heap[w.heap.size]? = some (d_ #[a_ ia nw ic,b_ c_ (mem:Int),a_ none 0 0] 43 (0,0))):=gg ((a.o.keep _ (gn aQ.o) (by have:=a.o.pge;omega)).trans aQ.o);have bz:=gg a.o.bel;have b4:=a.o.pge
    have bY:gi (∀ w',Calls gd 38 #[b_ c_ (h:Int),b_ c_ (mem:Int)] w' (oj w' w'.heap.size (mX h mem,0))):=gg (fun w'=>by
     have:=xN (h:Int) (mem:Int) w';rw[show oo (h:Int) (mem:Int)=(mX h mem,0) by unfold oo;rw[if_pos f_];simp] at this;exact this)
    obtain⟨q0,q1,q2⟩:=iv bK.o;clear q0 q2 a W HE hr ai MT PT OW OL OD aJ aQ
    go_wp2_with (first|(go_at_call 38;refine(bY.o _).mono ?_;rintro e v4 ⟨v',rfl,aY,Q⟩;obtain⟨y1,z1,t1,y2,z2,t2,y3,z3,t3,rfl⟩:=AR aY;have bV:=gg aY;have G:=gg (O.o.below Q);have bW:=gg (gk Q bv.o);have bJ:=gg (gj bz.o Q);obtain⟨C,B,I,k3,F,E,J,K,A⟩:=gU G.o.at_;have f3:=gC G.o.at_ 3;have f4:=gC G.o.at_ 4;have f5:=gC G.o.at_ 5;have Tm:=gg (gx.setMem G.o bV.o);have bb:=gg (((rJ v4 p 3 4 5 (a_ y1 z1 t1) (a_ y2 z2 t2) (a_ y3 z3 t3)).2 (w.heap.size+1) f_).trans bW.o);have bG:=gg (gO (gO (gO bJ.o aB (o:=3) (a_ y1 z1 t1)) aB (o:=4) (a_ y2 z2 t2)) aB (o:=5) (a_ y3 z3 t3));clear aY Q C B I J K A q1)|(refine wpList_load_row rfl 37 _ rfl (p) rfl 37 _ (0,0) _ Tm.o.at_ Tryz.underlying37 rfl je ?_)|(refine wpList_store_row rfl 37 _ _ rfl (w.heap.size+1) _ rfl rfl 37 gq bb.o je rfl Tm.o.parts.ones ?_))
    rw[bw.o];exact gP rfl rfl rfl rfl bb.o Tm.o.isMac bG.o f_
end
section
open Go.RowKit
set_option maxRecDepth 100000
set_option maxHeartbeats 16000000
theorem Aa H v kv lv k mem f lines w (B:kE w v k mem) (N:iQ w 1 f.length kv (gz f)) (hl:iQ w 3 lines.length lv (iC j_ lines))
 (E:(1≤H∧H≤4)→8<f.length∨f.any jY=true∨8<lines.length∨lines.any (jK H)=true) :
 Calls gd 11 #[b_ c_ H,v,kv,lv] w (pF w (jX,1)):=by
 have s:=gg B;have aw:=B.mem;obtain⟨ia,ic,rfl,ar⟩:=B.shape;obtain⟨ka,kc,rfl⟩:=N.shape;obtain⟨la,lc,rfl⟩:=hl.shape;obtain⟨nk,y⟩:∃ n,n=f.length:=⟨_,rfl⟩;obtain⟨nl,A⟩:∃ n,n=lines.length:=⟨_,rfl⟩;obtain⟨nw,O⟩:∃ n,n=k.length:=⟨_,rfl⟩;have u:=gg O;have G:gi (iQ w 1 f.length (a_ ka nk kc) (gz f)):=gg (by rw[y];exact N);have ap:gi (iQ w 3 lines.length (a_ la nl lc) (iC j_ lines)):=gg (by rw[A];exact hl);rw[←y,←A] at E;rw[←y,←A,←O];have aq:=gg E;obtain⟨r,W⟩:∃ r,r=oo H (mem:Int):=⟨_,rfl⟩;have HN:gi (∀ w,Calls gd 29 #[b_ c_ H,b_ c_ (mem:Int)] w (oj w w.heap.size r)):=gg (fun w=>by rw[W];exact td H (mem:Int) w)
 have ai:gi (r.2=0→1≤H∧H≤4):=gg (fun h=>by
  rw[W] at h;unfold oo at h;split at h
  · omega
  · exact absurd h fZ)
 clear B ar N hl y A O E W;obtain⟨w1,Y,ag,ah,af,al,av⟩:=Eh w (d_ #[b_ c_ H] 3) (d_ #[a_ ia nw ic,b_ c_ (mem:Int),a_ none 0 0] 43) (d_ gq 37);have U:=gg ag;have V:=gg ah;have aj:=gg af;have ac:=gg al;clear ag ah af al av
 go_in
 go_upto_region 3 with(fail)
 rw[←Y];clear Y;have q0:=gv U.o (j:=0) rfl;obtain⟨r0,r1,r2⟩:=iv V.o;go_upto_region 4 with(first|(go_at_call 29;((with_reducible refine(HN.o _).mono ?_);rintro e w2 ⟨v2,rfl,ad,X⟩;obtain⟨S,D,F,K,T,M,I,Q,L,rfl⟩:=AR ad;have am:=gg X;clear ad X))|(refine wpList_store_row rfl 33 _ _ rfl w2.heap.size #[a_ S D F,a_ K T M,a_ I Q L] rfl rfl 33 #[a_ none 0 0,a_ none 0 0,a_ none 0 0] (gH w2 _) Bl rfl (by simp[Value.oneCell']) ?_))
 have ak:Up w2 ((w2.alloc zM).setRow w2.heap.size #[a_ S D F,a_ K T M,a_ I Q L]):=below_setRow (gr w2 _) fL _;have q:=gj am.o ak;have R:=gg (gk q U.o);have ae:=gg (gk q V.o);have m:=gg (gk q aj.o);have b:=gg (gj ac.o q);clear ak q q0 r0 r1 r2 U V aj ac am;obtain⟨w3,an⟩:∃ x,x=(w2.alloc zM).setRow w2.heap.size #[a_ S D F,a_ K T M,a_ I Q L]:=⟨_,rfl⟩;rw[←an] at R ae m b ⊢
 clear an;obtain⟨r0,r1,r2⟩:=iv ae.o;have ao:w3.cell? ⟨w.heap.size,0,none⟩=some (b_ c_ H):=gv R.o (j:=0) rfl;have aa:=gn R.o;obtain⟨rm,P⟩:=r;simp only at ai ⊢
 by_cases he:P=0
 rotate_left
 · have g0:(P != 0)=true:=by simp[he]
   go_wp2_with (first|(go_at_call 30;((with_reducible refine(Dr _ k mem _ (by rw[u.o];exact s.o.below b.o)).mono ?_);rintro e C ⟨rfl,a⟩;have c:=gg a;have g:=gg (gk a m.o);clear a))|(refine wpList_store_row rfl 37 _ _ rfl (w.heap.size+2) gq rfl rfl 37 gq g.o je rfl mj.one ?_))
   exact gP rfl rfl rfl rfl g.o (iz _) (gj b.o c.o) f_
 have g0:(P != 0)=false:=by simp[he]
 have t:=aq.o (ai.o he);clear he;cases g1:decide (8<(nk:Int))
 rotate_left
 · clear t
   go_wp2_with (first|(go_at_call 30;((with_reducible refine(Dr _ k mem _ (by rw[u.o];exact s.o.below b.o)).mono ?_);rintro e C ⟨rfl,a⟩;have c:=gg a;have g:=gg (gk a m.o);clear a))|(refine wpList_store_row rfl 37 _ _ rfl (w.heap.size+2) gq rfl rfl 37 gq g.o je rfl mj.one ?_))
   exact gP rfl rfl rfl rfl g.o (iz _) (gj b.o c.o) f_
 cases o:f.any jY
 rotate_left
 · have z:=gg o
   clear t o
   go_wp2_with (first|(go_at_call 30;((with_reducible refine(Dr _ k mem _ (by rw[u.o];exact s.o.below b.o)).mono ?_);rintro e C ⟨rfl,a⟩;have c:=gg a;have g:=gg (gk a m.o);clear a))|(go_at_call 31;((with_reducible refine(nr _ f true _ z.o (G.o.below (gj b.o c.o))).mono ?_);rintro e Z ⟨rfl,d⟩;have i:=gg (gj c.o d);have l:=gg (gk d g.o);clear d))|(refine wpList_store_row rfl 37 _ _ rfl (w.heap.size+2) gq rfl rfl 37 gq l.o je rfl mj.one ?_))
   exact gP rfl rfl rfl rfl l.o (iz _) (gj b.o i.o) f_
 have z:=gg o;cases g2:decide (8<(nl:Int))
 rotate_left
 · clear t o
   go_wp2_with (first|(go_at_call 30;((with_reducible refine(Dr _ k mem _ (by rw[u.o];exact s.o.below b.o)).mono ?_);rintro e C ⟨rfl,a⟩;have c:=gg a;have g:=gg (gk a m.o);clear a))|(go_at_call 31;((with_reducible refine(nr _ f false _ z.o (G.o.below (gj b.o c.o))).mono ?_);rintro e Z ⟨rfl,d⟩;have i:=gg (gj c.o d);have l:=gg (gk d g.o);clear d))|(refine wpList_store_row rfl 37 _ _ rfl (w.heap.size+2) gq rfl rfl 37 gq l.o je rfl mj.one ?_))
   exact gP rfl rfl rfl rfl l.o (iz _) (gj b.o i.o) f_
 have LB:gi (lines.any (jK H)=true):=gg (by
  simp only[decide_eq_false_iff_not] at g1 g2;rcases t with h|h|h|h
  · omega
  · rw[o] at h;cases h
  · omega
  · exact h)
 clear t o
 go_wp2_with (first|(go_at_call 30;((with_reducible refine(Dr _ k mem _ (by rw[u.o];exact s.o.below b.o)).mono ?_);rintro e C ⟨rfl,a⟩;have c:=gg a;have g:=gg (gk a m.o);clear a))|(go_at_call 31;((with_reducible refine(nr _ f false _ z.o (G.o.below (gj b.o c.o))).mono ?_);rintro e Z ⟨rfl,d⟩;have i:=gg (gj c.o d);have l:=gg (gk d g.o);clear d))|(go_at_call 32;((with_reducible refine(qd H _ lines true _ LB.o (ap.o.below (gj b.o i.o)) w.heap.size ((i.o.cell (p:=⟨w.heap.size,0,none⟩) aa).trans ao) (fN aa i.o.size)).mono ?_);rintro e w6 ⟨rfl,J⟩;have au:=gg (gj i.o J);have ab:=gg (gk J l.o);clear J))|(refine wpList_store_row rfl 37 _ _ rfl (w.heap.size+2) gq rfl rfl 37 gq ab.o je rfl mj.one ?_))
 exact gP rfl rfl rfl rfl ab.o (iz _) (gj b.o au.o) f_
end
section
section
open Go.RowKit
variable {H:Type} {enc:TypeId×Value→H} {P:Program} {w:World} {base:Nat} {spare:Nat→Bool} {held:Bool}
theorem uk {t:TypeId} {b} (ht:P.underlying t=some (.struct b)) (n:P.cellsOf t=b.size)
 (p:∀ (i:Nat) (f:Field),b[i]? = some f→f.offset=i∧P.underlying f.type=some (.int .i64)∧P.cellsOf f.type=1) {q} {cs} {x}
 (h:DataW.trod enc P w base spare held q t cs=some x):∃ l:List Int,l.length=b.size∧cs=l.map (b_ c_) ∧ ∀ a∈l,(Lit.int .i64 a).wf=true:=by
 obtain⟨xs,m,rfl,rfl,hl,r,g⟩:=DataW.trod_struct ht h;rw[n] at hl
 obtain⟨l,h1,h2⟩:=th (cs:=cs) (fun i s=>by
  have k:i<b.size:=by omega
  have e:b[i]? = some b[i]:=Array.getElem?_eq_getElem k;obtain⟨o,u,c⟩:=p i _ e;have d:=g i _ e;rw[o,c,fQ f_] at d;obtain⟨a,h,_,j⟩:=DataW.trod_int u d;exact⟨a,p9 h,j⟩)
 refine⟨l,?_,h1,h2⟩;rw[←hl,h1,List.length_map]
end
open Go.RowKit Go.ChangeShapes Go.WideShapes
def oN (x:vp):Prop:=iy x.k∧iy x.h∧iy x.w∧iy x.n
abbrev ky (x:vp):List Value:=jg x
theorem ol:∃ a,gd.underlying 28=some (.struct a)∧a.size=4 ∧ ∀ (i:Nat) (f:Field),a[i]? = some f→f.offset=i∧f.type=3:=by
 refine⟨_,Tryz.underlying28,rfl,fun i f h=>?_⟩;have b:i<4:=(Array.getElem?_eq_some_iff.1 h).1
 match i,b,h with
 | 0,_,h=>cases h;exact⟨rfl,rfl⟩
 | 1,_,h=>cases h;exact⟨rfl,rfl⟩
 | 2,_,h=>cases h;exact⟨rfl,rfl⟩
 | 3,_,h=>cases h;exact⟨rfl,rfl⟩
theorem qp {H:Type} {n:TypeId×Value→H} {w base k m o cs} {x}
 (h:DataW.trod n gd w base k m o 28 cs=some x):∃ r:vp,cs=ky r∧oN r:=by
 obtain⟨p,ht,h5,j⟩:=ol;obtain⟨l,hl,h1,e⟩:=uk ht (by rw[h5];kernel_rfl) (fun i f g=>by rw[(j i f g).2];exact⟨(j i f g).1,Tryz.underlying3,by kernel_rfl⟩) h;rw[h5] at hl
 match l,hl,h1,e with
 | [a,b,c,d],_,h1,e=>exact⟨⟨a,b,c,d⟩,h1,iN (e a gb),iN (e b gb),iN (e c gb),iN (e d gb)⟩
def ph (x:Ln):Prop:=iy x.h∧iy x.p
abbrev jZ (x:Ln):List Value:=j_ x
theorem pZ:∃ a,gd.underlying 64=some (.struct a)∧a.size=3∧(∀ f,a[0]? = some f→f.offset=0∧f.type=3)∧(∀ f,a[1]? = some f→f.offset=1∧f.type=3)∧(∀ f,a[2]? = some f→f.offset=2∧f.type=4):=by
 refine⟨_,Tryz.underlying64,rfl,?_,?_,?_⟩
 all_goals
  intro f h;cases h;exact⟨rfl,rfl⟩
theorem rT {cs} (hl:cs.length=3) {a b c} (f:(cs.drop 0).take 1=[b_ c_ a]) (e:(cs.drop 1).take 1=[b_ c_ b]) (d:(cs.drop 2).take 1=[fJ c]):cs=jZ ⟨a,b,c⟩:=by
 match cs,hl with
 |
  [x0,x1,x2],_=>
  simp at f e d;simp[jZ,j_,f,e,d]
theorem uj {H:Type} {z:TypeId×Value→H} {w base n v D cs} {x}
 (h:DataW.trod z gd w base n v D 64 cs=some x):∃ r:Ln,cs=jZ r∧ph r:=by
 obtain⟨d,ht,h3,f0,f1,f2⟩:=pZ;obtain⟨xs,m,rfl,rfl,hl,I,e⟩:=DataW.trod_struct ht h;have o:gd.cellsOf 64=3:=by kernel_rfl
 have j:gd.cellsOf 3=1:=by kernel_rfl
 have q:gd.cellsOf 4=1:=by kernel_rfl
 rw[o] at hl;have f:=e 0 d[0] gb;have g:=e 1 d[1] gb;have i:=e 2 d[2] gb;obtain⟨p,s⟩:=f0 d[0] gb;obtain⟨u,C⟩:=f1 d[1] gb;obtain⟨G,B⟩:=f2 d[2] gb;rw[p,s,j] at f;rw[u,C,j] at g;rw[G,B,q] at i;rw[fQ (show 0<xs.length by omega)] at f;rw[fQ (show 1<xs.length by omega)] at g;rw[fQ (show 2<xs.length by omega)] at i;obtain⟨a,F,_,k⟩:=DataW.trod_int Tryz.underlying3 f;obtain⟨b,y,_,l⟩:=DataW.trod_int Tryz.underlying3 g;obtain⟨c,A,_⟩:=DataW.trod_bool Tryz.underlying4 i;have E:=iN k;have t:=iN l;clear k l f g i e;exact⟨⟨a,b,c⟩,rT hl F y A,And.intro E t⟩
theorem w_ {P} {H:Type} {a:TypeId×Value→H} {w base c e} {t:TypeId} (ht:P.underlying t=some (.int .i64)) {d} {cs} {x} (h:DataW.trod a P w base c e d t cs=some x):∃ r:Int,cs=Go.Proofs.YtdobddiibgfeaaaGreat.c1 r∧iy r:=by
 obtain⟨n,h1,_,b⟩:=DataW.trod_int ht h;exact⟨n,h1,iN b⟩
instance:Inhabited Ln:=⟨⟨0,0,false⟩⟩
end
