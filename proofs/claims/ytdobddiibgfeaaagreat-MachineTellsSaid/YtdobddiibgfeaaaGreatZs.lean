/- What the walks of this statement lean on: shown. -/
import Derived.Test.YtdobddiibgfeaaaGreatZp
set_option linter.all false
set_option maxRecDepth 100000
set_option maxHeartbeats 16000000
namespace Go.Proofs.YtdobddiibgfeaaaGreat
open Value renaming slice→a_,int→b_,agg→e_,pointer→fG,tuple→fI,bool→fJ
open IntKind renaming i64→c_
open Obj renaming cells→d_
open Ending renaming returned→fH
open Go.Proofs.Tryz renaming prog→gd
open Go.RowKit
def nO (md:Region.Mode) (b:Array Oper) (n:Nat) (a:Array Bool):Bool:=
  decide (a.size=b.size) && ((List.range b.size).all fun j=>(!a.getD j false || match b[j]? with|none=>true|some o=>o.after.toList.all fun e=>!Region.binds md e || a.getD e.on false) && (decide (j<n) || !a.getD j true))
theorem rP {md b n a} (h:nO md b n a=true):HeadInv md b n a:=by
  simp only[nO,Bool.and_eq_true,decide_eq_true_eq,List.all_eq_true,List.mem_range,Bool.or_eq_true,Bool.not_eq_true'] at h;refine⟨h.1,fun j g c hl e he d=>?_,fun t f ht=>(h.2 t ht).2.resolve_left f_⟩;have:=(h.2 j (Array.getElem?_eq_some_iff.1 c).1).1;rw[hl,c] at this;simp only[Bool.true_eq_false,false_or,List.all_eq_true,Bool.or_eq_true,Bool.not_eq_true'] at this;exact(this e (by simpa using he)).resolve_left (by rw[d];exact Bool.true_eq_false.symm▸id)
theorem mY {P} {Q:Exit→Act→World→Prop} {C:World→Prop} {l n c a w f} b (g) (u:f=(iT b 0).length+g)
    (d:(Region.noSelect l.toArray && ((iT b 0).all (fun k=>decide (k<n)) && (decide (b.length≤l.length) && (decide (n<l.toArray.size) && (Region.sinkB .any l.toArray n && (Region.chainB .any l.toArray n && (nO .any l.toArray n c && nf .any l.toArray (iT b 0) c)))))))=true) (q:uW a.tmps.size (jd b l)=true)
    (r:∀ w w',C w→Up w w'→C w') (hC:C w) (a')
    (h:∀ w0,C w0→wpQuiet P l.toArray (fun w'=>∃ x:Wd w0,w'=x.val) (fun x=>x=a') (jd b l) a)
    (ht:kD P .any l.toArray C n (oG P .any l.toArray Q n (l.drop n)) g (ni (iT b 0) c) a' w):kD P .any l.toArray C n (oG P .any l.toArray Q n (l.drop n)) f c a w:=by
  subst u;simp only[Bool.and_eq_true,decide_eq_true_eq,List.all_eq_true] at d;obtain⟨t,j,o,s,m,y,p,v⟩:=d;have e:tL l.toArray (iT b 0)=jd b l:=EB b [] l o;generalize iT b 0=rs at *
  exact Jm (P:=P) (md:=.any) r (g:=g) (w:=w) (R:=fun x=>x=a') t m y s (fun c a w hL=>seqB_ready hL.1) rs c a (rP p) j v (fun x i=>by subst i;exact ht)
    (ER w hC a.tmps.size (tL l.toArray rs) a rfl (by rw[e];exact q) (fun w0 h0=>by rw[←zg,e];exact h w0 h0))
theorem Fs w (a b c):∃ w0:World,w0=((w.alloc a).alloc b).alloc c∧w0.heap[w.heap.size]? = some a∧w0.heap[w.heap.size+1]? = some b∧w0.heap[w.heap.size+2]? = some c∧Up w w0:=by
  have h1:=gk (gr (w.alloc a) b) (gH w a);have h2:=gH (w.alloc a) b;refine⟨_,rfl,gk (gr _ c) h1,?_,?_,gj (gj (gr w a) (gr _ b)) (gr _ c)⟩
  · have:=gk (gr ((w.alloc a).alloc b) c) h2;simpa using this
  · have:=gH ((w.alloc a).alloc b) c;simpa using this
theorem nB {w:World} {b c c1 a c3 c4} {t:TypeId} (h:w.heap[b]? = some (d_ #[c,c1,a,c3,c4] t (0,0))) :
    w.cell? ⟨b,0,none⟩=some c∧w.cell? ⟨b,1,none⟩=some c1∧w.cell? ⟨b,2,none⟩=some a∧w.cell? ⟨b,3,none⟩=some c3∧w.cell? ⟨b,4,none⟩=some c4:=
  ⟨gv h rfl,gv h rfl,gv h rfl,gv h rfl,gv h rfl⟩
def DB (e:oW):Array Value:=#[b_ c_ e.k,b_ c_ e.d,b_ c_ e.ad,b_ c_ e.n,b_ c_ e.o]
/-- The boxes of a call,at some world. -/
structure kR (w0 w:World) (h:Ht) (e:oW):Prop where
  hart:w.heap[w0.heap.size]? = some (d_ (hA h) 56 (0,0))
  eff:w.heap[w0.heap.size+1]? = some (d_ (DB e) 131 (0,0))
  bel:Up w0 w
theorem kR.up {w0 w w' h e} (b:kR w0 w h e) (a:Up w w'):kR w0 w' h e:=⟨gk a b.hart,gk a b.eff,gj b.bel a⟩
theorem kR.set3 {w0 w h e} (b:kR w0 w h e) (x y z):kR w0 (((w.setCell ⟨w0.heap.size+2,0,none⟩ x).setCell ⟨w0.heap.size+2,1,none⟩ y).setCell ⟨w0.heap.size+2,2,none⟩ z) h e:=by
  have K:=rJ w (w0.heap.size+2) 0 1 2 x y z;exact⟨(K.2 _ f_).trans b.hart,(K.2 _ f_).trans b.eff,gO (gO (gO b.bel f_ _) f_ _) f_ _⟩
theorem kR.row {w0 w h a e} (b:kR w0 w h e):kR w0 (w.setRow w0.heap.size (hA a)) a e:=
  ⟨setRow_heap _ _ _ _ _ _ b.hart,iL f_ b.eff,below_setRow b.bel fL _⟩
theorem BL w g (cs):og g w (w.setRow g cs):=⟨by simp,fun b a=>setRow_other w g b cs a⟩
theorem Jy {w b m d a c f cs} (h:gM w (e_ #[d,a,c]) m) (e:w.heap[b]? = some (d_ f 56 (0,0))):gM (w.setRow b cs) (e_ #[d,a,c]) m:=
  yC h (BL w b cs) e fZ fZ
/-- What the switch leaves. -/
def y9 (w:World) (h:Ht) (e:oW) (m:kS) (wx:World):Prop:=∃ j d f b k i a g c,wx.heap[w.heap.size+2]? = some (d_ #[a_ j d f,a_ b k i,a_ a g c] 33 (0,0))∧gM wx (e_ #[a_ j d f,a_ b k i,a_ a g c]) m∧kR w wx h e
theorem y9.set {w w1 a h e m t q r l p d f g o j i n} (c:Up w1 a) (b:kR w w1 h e) (k:w1.heap[w.heap.size+2]? = some (d_ #[t,q,r] 33 (0,0))) (s:gM a (e_ #[a_ l f g,a_ p o j,a_ d i n]) m) :
    y9 w h e m (((a.setCell ⟨w.heap.size+2,0,none⟩ (a_ l f g)).setCell ⟨w.heap.size+2,1,none⟩ (a_ p o j)).setCell ⟨w.heap.size+2,2,none⟩ (a_ d i n)):=
  ⟨_,_,_,_,_,_,_,_,_,(jT (gk c k)).1,pJ _ _ _ s (gk c k),(b.up c).set3 _ _ _⟩
theorem KU w B p wv hv ev m1 m2 m3 dv lv tv qs M H N (J:iV w B p wv hv ev m1 m2 m3 dv lv tv qs M) (hg:gF M H N) (hB:B≤w.heap.size) k (hk:k<M.harts.length) h (Y:h.r.length=32) e a (aA:1≤e.k∧e.k≤5) :
    Calls gd 116 #[fG (some ⟨p,0,none⟩),b_ c_ k,e_ (hA h),jj e,b_ c_ a] w (jf B p w (uY M k h e a)):=by
  obtain⟨c,d,t,en,q⟩:=e;simp only at aA;have aS:=gV h Y;obtain⟨R,hR⟩:∃ R,R=uY M k h ⟨c,d,t,en,q⟩ a:=⟨_,rfl⟩;rw[←hR];obtain⟨r,hr⟩:∃ r,r=lF M k ⟨c,d,t,en,q⟩ a:=⟨_,rfl⟩;have HR:gi (R=if r.2.2=0 then ({ zb5 M k (if c=2 then h else gR h d r.1) with mem:=r.2.1 },0) else (jX,r.2.2)):=gg (by rw[hR,hr];rfl);have ao:=gg hr;clear hR hr;obtain⟨a1,c1,a2,c2,a3,c3,b1,d1,b2,d2,b3,d3,a5,c5,a6,c6,a7,c7,rfl,rfl,rfl,rfl,rfl,rfl,rfl,rfl,rfl⟩:=J.shapes;unfold jj;simp only;have HO:=gg J;have av:=J.parts.mem;have bh:=gn J.at_;obtain⟨_,_,_,z3,z4,z5,_,_,_⟩:=gU J.at_;have HK:gi (k<M.harts.length):=gg hk;have HG:=gg hg;have ad:=hg.small;generalize M.mem.words.length=n1,M.mem.pend.length=n2,M.mem.res.length=n3 at av z3 z4 z5;clear hk hg J;obtain⟨w1,aJ,aL,an,ai,ay⟩:=Fs w (d_ (hA h) 56) (d_ #[b_ c_ c,b_ c_ d,b_ c_ t,b_ c_ en,b_ c_ q] 131) (d_ #[a_ b1 n1 d1,a_ b2 n2 d2,a_ b3 n3 d3] 33);have aE:gi (kR w w1 h ⟨c,d,t,en,q⟩):=gg ⟨aL,an,ay⟩;have u:=gg (av.below ay);have af:=gg ai;obtain⟨e0,e1,e2,e3,e4⟩:=nB an;obtain⟨z,A,E⟩:=iv ai;have aw:=gn an;have aG:=gn ai;clear aL an ai ay av;go_in
  go_upto_block 0 with(fail)
  change Code.wp _ _ _ _ (((w.alloc (d_ (hA h) 56)).alloc (d_ #[b_ c_ c,b_ c_ d,b_ c_ t,b_ c_ en,b_ c_ q] 131)).alloc (d_ #[a_ b1 n1 d1,a_ b2 n2 d2,a_ b3 n3 d3] 33));rw[←aJ];clear aJ z3 z4 z5
  go_cut [10,11] (fun a0 bj wx=>a0 =b_ c_ r.2.2∧bj =b_ c_ r.1∧y9 w h ⟨c,d,t,en,q⟩ r.2.1 wx)
  case first=>as_aux_lemma=>
    rcases(by omega:c=1∨c=2∨c=3∨c=4∨c=5) with rfl|rfl|rfl|rfl|rfl
    · go_wp2_with fail
      refine(wI _ M.mem k a _ _ u.o ad rfl).mono ?_
      rintro e w4 ⟨rfl,az⟩
      go_wp2
      go_meet
      case rel=>rw[ao.o];exact⟨rfl,rfl,_,_,_,_,_,_,_,_,_,gk az af.o,u.o.below az,aE.o.up az⟩
    rotate_left 2
    cases aM:(mM M.mem k a en).1
    all_goals
      go_wp2_with fail
      with_reducible first|refine(L0 _ M.mem k a en _ u.o ad).mono ?_|refine(KG _ M.mem k a _ u.o ad).mono ?_|refine(Lr _ M.mem k a en _ u.o ad).mono ?_|refine(LI _ M.mem k a q en _ u.o ad).mono ?_
      rintro e w3 ⟨v',rfl,m,ap⟩;obtain⟨v,F,O,D,U,Q,P,L,G,rfl⟩:=AR m
      try rw[aM]
      have Z:=gk ap af.o;obtain⟨bn,bs,bl⟩:=iv Z;have f0:=gC Z 0;have f1:=gC Z 1;have f2:=gC Z 2;have HM:=gg m;have a4:=gg ap;clear m ap Z
      go_wp2
      go_meet
      case rel=>rw[ao.o];exact⟨rfl,by first|rfl|(show _=b_ c_ (if (mM M.mem k a en).1=true then 0 else 1);rw[aM];rfl),y9.set a4.o aE.o af.o HM.o⟩
  case rest=>as_aux_lemma=>
    obtain⟨rfl,rfl,v,F,O,D,U,Q,P,L,G,X,m,ab⟩:=hcut;have j:=gg ab;have ac:=gg X;have ak:=gg m;clear X m ab ao aw aG e0 e1 e2 e3 e4 z A E aE u af;generalize r.1=n,r.2.1=m',r.2.2=f at *
    obtain⟨w4,aU⟩:∃ x,x=wc:=⟨_,rfl⟩;subst aU;by_cases aD:f=0
    · subst aD
      have am:=gg (HR.o.trans (if_pos rfl));clear HR;obtain⟨e0,e1,e2,e3,e4⟩:=nB j.o.eff;simp only at e0 e1 e2 e3 e4;have aw:=gn j.o.eff;have aY:=gn j.o.hart;have aG:=gn ac.o
      go_upto_if 83 with(fail)
      obtain⟨l,aj⟩:∃ y,y=if c=2 then h else gR h d n:=⟨_,rfl⟩
      rw[←aj] at am
      go_cut [] (fun wx=>wx.heap[w.heap.size+2]? = some (d_ #[a_ v F O,a_ D U Q,a_ P L G] 33 (0,0))∧gM wx (e_ #[a_ v F O,a_ D U Q,a_ P L G]) m'∧kR w wx l ⟨c,d,t,en,q⟩)
      case first=>as_aux_lemma=>
        subst aj;by_cases h2:c=2
        · have hq:(c == 2)=true:=beq_iff_eq.2 h2
          have H2:=gg h2;clear h2 aA
          go_wp2
          go_meet
          case rel=>rw[if_pos H2.o];exact⟨ac.o,ak.o,j.o⟩
        · have hq:(c == 2)=false:=fS h2
          have H2:=gg h2;clear h2 aA
          go_wp2_with (refine wpList_load_row rfl 56 _ rfl w.heap.size rfl 56 (hA h) (0,0) _ j.o.hart Tryz.underlying56 rfl (ii aS) ?_)
          refine(CM h d _ _ Y).mono ?_
          rintro e w5 ⟨rfl,ar⟩;have aN:=gk ar j.o.hart;have V:=mo Y d n;have aC:=gg ar;clear ar
          go_wp2_with (refine wpList_store_row rfl 56 _ _ rfl w.heap.size (hA (gR h d n)) rfl rfl 56 (hA h) aN (ii (gV _ V)) (by rw[aS,gV _ V]) (jU _) ?_)
          go_meet
          case rel=>rw[if_neg H2.o];exact⟨iL f_ (gk aC.o ac.o),Jy (ak.o.below aC.o) aN,(j.o.up aC.o).row⟩
      case rest=>as_aux_lemma=>
        obtain⟨X,m,ab⟩:=hcut;have V:l.r.length=32:=by rw[aj];split;exact Y;exact mo Y d n
        have ax:=gV l V;have T:=gg ab;have aa:=gg X;have aq:=gg m;clear X m ab aj e0 e1 e2 e3 e4 aY aw aG j ac ak;obtain⟨w7,aO⟩:∃ x,x=wc:=⟨_,rfl⟩;rw[←aO] at T aa aq ⊢
        clear aO;go_upto_region 20 with(fail)
        have W:=gg (HO.o.below T.o.bel);obtain⟨g,cc,bm,eh,bf,bb,_,_⟩:=W.o.parts.hart HG.o.regs HK.o;injection eh with eh _ eh2
        subst eh eh2;obtain⟨k0,o,k2,k3,k4,k5,k6,k7,k8⟩:=gU W.o.at_;obtain⟨z,A,E⟩:=iv aa.o;have ae:=gn W.o.at_;have S:=gn aa.o;have ag:=gn T.o.hart;obtain⟨nh,al⟩:∃ n,n=M.harts.length:=⟨_,rfl⟩;have bk:k<nh:=by rw[al];exact HK.o
        have bd:=gg al;rw[←al] at o;clear k0 k2 k3 k4 k5 k6 k7 k8 z A E al bf
        try simp only[Act.put,fU,fV,fW]
        refine fY (fun w'=>(p<w'.heap.size∧w'.cell? ⟨p,1,none⟩=some (a_ (some ⟨g,0,none⟩) nh c2))∧(w.heap.size+2<w'.heap.size∧w'.heap[w.heap.size+2]? = some (d_ #[a_ v F O,a_ D U Q,a_ P L G] 33 (0,0)))∧w.heap.size<w'.heap.size∧w'.heap[w.heap.size]? = some (d_ (hA l) 56 (0,0))) 13 [true,true,true,true,true,true,true,true,true,true,true,true] (fun a b h I=>⟨⟨fN h.1.1 I.size,by rw[I.cell (p:=⟨p,1,none⟩) h.1.1];exact h.1.2⟩,⟨fN h.2.1.1 I.size,iE I h.2.1.1 h.2.1.2⟩,fN h.2.2.1 I.size,iE I h.2.2.1 h.2.2.2⟩) ⟨⟨ae,o⟩,⟨S,aa.o⟩,ag,T.o.hart⟩ ?a1 ?h1 ?ht1
        case h1=>
          intro w0 ⟨⟨ae,o⟩,⟨S,aK⟩,ag,aP⟩;obtain⟨z,A,E⟩:=iv aK;have s1:=fun x=>gD ae o x
          have s2:=fun x=>gD S z x
          have s3:=fun x=>gD S A x
          have s4:=fun x=>gD S E x
          have R0:gi (∀ w':World,(∃ x:Wd w0,w'=x.val)→(loadVar 56 ⟨w.heap.size,0,none⟩).run gd w' = .ok (e_ (hA l)) w'):=gg (by
            rintro w' ⟨x,rfl⟩;exact run_loadVar_row _ _ 56 56 (hA l) (0,0) _ (iE x.bel ag aP) Tryz.underlying56 rfl (ii ax))
          clear o z A E aK aP;simp only[jd]
          iterate 8 (go_big_quiet_step (fail))
          go_big_quiet_want
          refine kY 56 _ ⟨w.heap.size,0,none⟩ (e_ (hA l)) rfl rfl R0.o ?_
          simp only[Act.put,fU,fV,fW]
          go_big_quiet_on
          repeat(go_big_quiet_step (fail))
          refine wpQuiet_nil ?_
          rfl
        case ht1=>
          change kD _ _ _ _ _ _ 1 _ _ _;refine jQ (i:=12) ga fZ rfl ?_
          intro w8 aW ⟨⟨br,bg⟩,⟨bi,aT⟩,aX,aH⟩;have ah:Up w7 w8:=(by repeat(first|(with_reducible exact Below.refl _ _)|(with_reducible refine gO ?_ ?_ _)|(with_reducible apply iS)|(with_reducible refine gj ?_ (by with_reducible assumption))|(with_reducible apply iR)|omega));have C:=gg (W.o.below ah);have aV:=gg (aq.o.below ah);have aR:gi (Up w w8):=gg (gj T.o.bel ah);clear ah aW T aa aq W ae S ag o;have au:=gg (C.o.setMem aV.o);obtain⟨k0,o,k2,k3,k4,k5,k6,k7,k8⟩:=gU C.o.at_;have f3:=gC C.o.at_ 3;have f4:=gC C.o.at_ 4;have f5:=gC C.o.at_ 5;have aB:=C.o.base;obtain⟨j0,j1,j2,j3,j4,j5,j6,j7,j8⟩:=gU au.o.at_;have bq:p<w.heap.size:=bh;have K:=(rJ w8 p 3 4 5 (a_ v F O) (a_ D U Q) (a_ P L G));have ba:=gn au.o.at_;rw[←bd.o] at j1;have a8:=gg (And.intro (And.intro ba j1) (And.intro (And.intro (fN bi K.1) ((K.2 (w.heap.size+2) f_).trans aT)) (And.intro (fN aX K.1) ((K.2 w.heap.size f_).trans aH))));clear k0 o k2 k6 k7 k8 j0 j1 j2 j3 j4 j5 j6 j7 j8 K bg aT aH
          go_wp2_with fail
          refine⟨a8.o,?_⟩;refine lR ga ?_
          intro w9 aF _;have aQ:=gg (au.o.below aF);have bc:=gg (((((aR.o.mono hB).setCell aB (a_ v F O)).setCell aB (a_ D U Q)).setCell aB (a_ P L G)).trans (aF.mono (by have:=aR.o.size;simp only[kj];omega)));obtain⟨g',bp,bt,s,be,bo,_,aI⟩:=aQ.o.parts.hart HG.o.regs HK.o;injection s with s _ _
          injection s with s
          injection s with s
          subst s;have a9:=gg aI;clear aI be aF
          try simp only[List.drop_succ_cons,List.drop_zero]
          go_wp2_with (refine wpList_store_mid rfl 56 _ _ rfl g (k*39) (hA l) rfl rfl (by rw[ax];exact a9.o) (by rw[ax];exact uS) (jU l) ?_)
          go_ret;rw[am.o];refine⟨rfl,?_,fun _=>⟨_,_,_,_,_,_,_,_,_,_,aQ.o.setHart HG.o.regs rfl HK.o V⟩⟩;exact rx bb _ _ bc.o
    · have am:=gg (HR.o.trans (if_neg aD))
      have aZ:=gg (j.o.bel.mono hB);clear j ac ak
      go_wp2
      go_ret;rw[am.o];exact jf.fail (e:=f) aZ.o aD
section
section
variable {w w':World} {B p:Nat} {wv hv ev m1 m2 m3 dv lv tv:Value} {qs:List Value} {M:i8}
theorem nC {row} {base e k n:Nat} {v xs} (h:w.ownsRow base e k v n xs) (a:w.grownBy w' row) (d:∀ g,row=some g→v.ownBlock≠some g):w'.ownsRow base e k v n xs:=
  lH h fun b e=>a.block b (h.lt b e).2 (fun c=>d b c.symm e)
theorem KH {row k n v xs} (h:gl w k n v xs) (a:w.grownBy w' row) (f:∀ g,row=some g→v.ownBlock≠some g):gl w' k n v xs:=by
  refine⟨h.1,h.2.1,?_⟩;rcases h.2.2 with h|⟨b,o,c,rfl,d,m,i,l⟩
  · exact .inl h
  · refine .inr ⟨b,o,c,rfl,fN d a.size,m,i,fun j u p=>?_⟩
    rw[←l j u p];simp only[World.cell?,a.block b d (fun e=>f b e.symm rfl)]
theorem Fu {k n v xs} (h:gl w k n v xs) {g} (a:v.ownBlock=some g):g<w.heap.size:=by
  rcases h.2.2 with⟨rfl,_⟩|⟨b,o,c,rfl,d,_⟩
  · simp[Value.ownBlock] at a
  · simp[Value.ownBlock] at a;omega
/-- An access more. -/
theorem gx.appendTrace {Y} (h:gx Y w B p wv hv ev m1 m2 m3 dv lv tv qs M) (d:w.grownBy w' tv.ownBlock) {tv' l} (ht:w'.ownsRow B 59 5 tv' l.length (iC mK l)) (G:tv'.ownBlock=tv.ownBlock∨tv'.ownBlock=some w.heap.size) (hT:Y=97∨Y=37:=by decide) :
    gx Y (w'.setCell ⟨p,8,none⟩ tv') B p wv hv ev m1 m2 m3 dv lv tv' qs { M with trace:=l }:=by
  have T:=h.parts.trace
  have f:w'.heap[p]? = some (d_ #[wv,hv,ev,m1,m2,m3,dv,lv,tv] Y (0,0)):=by
    rw[d.block p (gn h.at_) (fun e=>gS T h.at_ (by first|decide|(rcases hT with rfl|rfl<;>decide)) e.symm)];exact h.at_
  have I:gM w' (e_ #[m1,m2,m3]) M.mem:=by
    obtain⟨a,b,c,D,e,x,t,k3,n⟩:=h.parts.mem;injection e with e
    have J:m1=a:=by have:=congrArg (·[0]?) e;simpa using this
    have m:m2=b:=by have:=congrArg (·[1]?) e;simpa using this
    have L:m3=c:=by have:=congrArg (·[2]?) e;simpa using this
    subst J m L;exact⟨_,_,_,D,rfl,nC x d fun g e=>ku T x (by first|decide|(rcases hT with rfl|rfl<;>decide)) e,nC t d fun g e=>ku T t (by first|decide|(rcases hT with rfl|rfl<;>decide)) e,nC k3 d fun g e=>ku T k3 (by first|decide|(rcases hT with rfl|rfl<;>decide)) e,n.1,fun i r l v hl=>nC (n.2 i r l v hl) d fun g e=>ku T (n.2 i r l v hl) (by first|decide|(rcases hT with rfl|rfl<;>decide)) e⟩
  have K:=nF w' p 8 tv';have r1:=nC h.parts.words d fun g e=>ku T h.parts.words (by first|decide|(rcases hT with rfl|rfl<;>decide)) e
  have r2:=nC h.parts.harts d fun g e=>ku T h.parts.harts (by first|decide|(rcases hT with rfl|rfl<;>decide)) e
  have r3:=nC h.parts.ends d fun g e=>ku T h.parts.ends (by first|decide|(rcases hT with rfl|rfl<;>decide)) e
  have u:=nC h.parts.devs d fun g e=>ku T h.parts.devs (by first|decide|(rcases hT with rfl|rfl<;>decide)) e
  have y:=nC h.parts.lines d fun g e=>ku T h.parts.lines (by first|decide|(rcases hT with rfl|rfl<;>decide)) e
  have F:jl w' qs M.devs:=⟨h.parts.ques.1,fun i q s k E=>KH (h.parts.ques.2 i q s k E) d fun g e A=>(h.offQ q (List.mem_of_getElem? k) g A).2.2.2.2.1 e⟩
  refine⟨jb f 8 tv',h.base,⟨iG r1 K (gS r1 f (by first|decide|(rcases hT with rfl|rfl<;>decide))),iG r2 K (gS r2 f (by first|decide|(rcases hT with rfl|rfl<;>decide))),iG r3 K (gS r3 f (by first|decide|(rcases hT with rfl|rfl<;>decide))),yC I K f (by first|decide|(rcases hT with rfl|rfl<;>decide)) (by first|decide|(rcases hT with rfl|rfl<;>decide)),iG u K (gS u f (by first|decide|(rcases hT with rfl|rfl<;>decide))),
    CQ F K fun q k e=>(h.offQ q k p e).2.2.2.2.2 rfl,iG y K (gS y f (by first|decide|(rcases hT with rfl|rfl<;>decide))),iG ht K (gS ht f (by first|decide|(rcases hT with rfl|rfl<;>decide)))⟩,fun q k g e=>?_⟩
  obtain⟨h1,h2,h3,h4,h5,H⟩:=h.offQ q k g e;refine⟨h1,h2,h3,h4,?_,H⟩;rcases G with o|o
  · rw[o];exact h5
  · rw[o]
    obtain⟨j,z⟩:=List.mem_iff_getElem?.1 k;have C:j<M.devs.length:=by rw[←h.parts.ques.1];exact(fR z).1
    have:=Fu (h.parts.ques.2 j q _ z (fQ C)) e;intro m;injection m with m;omega
/-- A hart in a box is another one. -/
theorem gx.box {Y} (h:gx Y w B p wv hv ev m1 m2 m3 dv lv tv qs M) {b g cs} (c:w.heap[b]? = some (d_ g 56 (0,0))) (d:hv.ownBlock≠some b) (f:∀ q∈qs,q.ownBlock≠some b) (hT:Y=97∨Y=37:=by decide):gx Y (w.setRow b cs) B p wv hv ev m1 m2 m3 dv lv tv qs M:=by
  have K:=BL w b cs
  exact⟨(K.2 p (by rintro rfl;have:=h.at_;rw[c] at this;injection this with e;injection e with _ e;exact absurd e (by first|decide|(rcases hT with rfl|rfl<;>decide)))).trans h.at_,h.base,⟨iG h.parts.words K (gS h.parts.words c (by first|decide|(rcases hT with rfl|rfl<;>decide))),iG h.parts.harts K d,iG h.parts.ends K (gS h.parts.ends c (by first|decide|(rcases hT with rfl|rfl<;>decide))),yC h.parts.mem K c (by first|decide|(rcases hT with rfl|rfl<;>decide)) (by first|decide|(rcases hT with rfl|rfl<;>decide)),iG h.parts.devs K (gS h.parts.devs c (by first|decide|(rcases hT with rfl|rfl<;>decide))),
    CQ h.parts.ques K f,iG h.parts.lines K (gS h.parts.lines c (by first|decide|(rcases hT with rfl|rfl<;>decide))),iG h.parts.trace K (gS h.parts.trace c (by first|decide|(rcases hT with rfl|rfl<;>decide)))⟩,h.offQ⟩
/-- An access of its own is another one. -/
theorem gx.acc {Y} (h:gx Y w B p wv hv ev m1 m2 m3 dv lv tv qs M) {b j d u} (a:w.heap[b]? = some (d_ d 59 (0,0))) (c:∀ q∈qs,q.ownBlock≠some b) (ht:tv.ownBlock≠some b) (hT:Y=97∨Y=37:=by decide):gx Y (w.setCell ⟨b,j,none⟩ u) B p wv hv ev m1 m2 m3 dv lv tv qs M:=by
  have K:=nF w b j u
  exact⟨(K.2 p (by rintro rfl;have:=h.at_;rw[a] at this;injection this with e;injection e with _ e;exact absurd e (by first|decide|(rcases hT with rfl|rfl<;>decide)))).trans h.at_,h.base,⟨iG h.parts.words K (gS h.parts.words a (by first|decide|(rcases hT with rfl|rfl<;>decide))),iG h.parts.harts K (gS h.parts.harts a (by first|decide|(rcases hT with rfl|rfl<;>decide))),iG h.parts.ends K (gS h.parts.ends a (by first|decide|(rcases hT with rfl|rfl<;>decide))),yC h.parts.mem K a (by first|decide|(rcases hT with rfl|rfl<;>decide)) (by first|decide|(rcases hT with rfl|rfl<;>decide)),iG h.parts.devs K (gS h.parts.devs a (by first|decide|(rcases hT with rfl|rfl<;>decide))),
    CQ h.parts.ques K c,iG h.parts.lines K (gS h.parts.lines a (by first|decide|(rcases hT with rfl|rfl<;>decide))),iG h.parts.trace K ht⟩,h.offQ⟩
end
theorem FD w B p wv hv ev m1 m2 m3 dv lv tv qs M (c:iV w B p wv hv ev m1 m2 m3 dv lv tv qs M) (i:Int) (h0:0≤i) (h1:i<M.mem.pend.length) (b) (a:decide ((iA M.mem i).length≠0)=b) :
    Calls gd 76 #[fG (some ⟨p,0,none⟩),b_ c_ i] w fun e w'=>e =fH (fJ b)∧Up w w':=by
  subst a;exact vA w B p wv hv ev m1 m2 m3 dv lv tv qs M c i h0 h1
/-- A new queue's block. -/
theorem mz {w F n q l} (h:gl w 1 n q l) (c:oV F q):q.oneCell'=true ∧ ∀ g,q.ownBlock=some g→F≤g:=by
  obtain⟨d,e,rfl⟩:=h.shape;refine⟨rfl,fun g b=>?_⟩;cases d with
  | none=>simp[Value.ownBlock] at b
  | some a=>simp[Value.ownBlock] at b;subst b;exact c a _ _ rfl
theorem Kg w B p wv hv ev m1 m2 m3 dv lv tv qs M H N (ho:iV w B p wv hv ev m1 m2 m3 dv lv tv qs M) (hg:gF M H N) (hN:N≤1000000) (C:B≤w.heap.size) k (hk:k<M.harts.length) (b4:k<M.mem.pend.length) h (am:h.r.length=32) e d (hd:d<M.devs.length) g (bw:0≤g∧g<4) (bi:e.k=1∨e.k=2) :
    Calls gd 117 #[fG (some ⟨p,0,none⟩),b_ c_ k,e_ (hA h),jj e,b_ c_ d,b_ c_ g] w (jf B p w (pG M k h e d g)):=by
  obtain⟨G,y,av,en,eo⟩:=e;simp only at bi;have bS:=gV h am;obtain⟨R,hR⟩:∃ R,R=pG M k h ⟨G,y,av,en,eo⟩ d g:=⟨_,rfl⟩;rw[←hR];have bH:oT M (d:Int)=M.devs[d]:=by simp[oT,hd]
  unfold pG at hR;rw[bH] at hR;have bm:=hg.dev M.devs[d] (List.getElem_mem _);generalize bo:M.devs[d]=D at *
  have dm:=gg bo;clear bo bH;obtain⟨wr,aW⟩:∃ b,(G == 2)=b:=⟨_,rfl⟩;obtain⟨val,bd⟩:∃ x,x=if G=2 then wrap32 en else kV D g:=⟨_,rfl⟩
  obtain⟨S2,aZ⟩:∃ x,x=if G=2 then ja (kX D g (wrap32 (wrap32 en))) else ja (ls D g):=⟨_,rfl⟩
  obtain⟨A,be⟩:∃ x,x=if G=2 then h else gR h y val:=⟨_,rfl⟩
  have aM:gi (R=if (iA M.mem (k:Int)).length≠0 then (jX,92) else ({ zb5 M k A with devs:=M.devs.set d S2,trace:=M.trace ++ [⟨k,d,g,wr,val⟩] },0)):=gg (by
    rw[hR,be,aZ,bd,←aW];rcases bi with rfl|rfl <;> simp)
  obtain⟨a1,c1,a2,c2,a3,c3,b1,d1,b2,d2,b3,d3,a5,c5,a6,c6,a7,c7,rfl,rfl,rfl,rfl,rfl,rfl,rfl,rfl,rfl⟩:=ho.shapes;unfold jj;simp only;obtain⟨w1,bs,bD,cm,bK,_⟩:=lU w (d_ (hA h) 56) (d_ #[b_ c_ G,b_ c_ y,b_ c_ av,b_ c_ en,b_ c_ eo] 131);have aL:gi (kR w w1 h ⟨G,y,av,en,eo⟩):=gg ⟨bD,cm,bK⟩;have U:=gg ho;have HG:=gg hg;have HK:=gg hk;have cp:=gg b4;have HD:=gg hd;have bM:=gg bd;have ce:=gg aZ;have aT:=gg be;clear bD cm bK ho hg hk b4 hR bd aZ be;obtain⟨bu,bW⟩:∃ b,decide ((iA M.mem (k:Int)).length≠0)=b:=⟨_,rfl⟩;have a8:=gg bW;clear bW;go_in;go_upto_region 1 with(fail)
  rw[←bs];clear bs
  go_wp2_with fail
  refine(FD _ _ _ _ _ _ _ _ _ _ _ _ _ M (U.o.below aL.o.bel) k f_ (by have:=cp.o;omega) bu a8.o).mono ?_
  rintro e w2 ⟨rfl,aH⟩;cases bu with
  | true=>
    have ct:=gg (mH (aL.o.bel.mono C) aH C);clear aH
    go_wp2
    go_ret;rw[aM.o,if_pos (of_decide_eq_true a8.o)];exact jf.fail (e:=92) ct.o fZ
  | false=>
  have aM:=gg (aM.o.trans (if_neg (of_decide_eq_false a8.o)));have aI:=gg (aL.o.up aH);clear aH aL;go_upto_region 3 with(fail)
  go_cut [13] (fun cw wx=>∃ c,cw = fG (some ⟨c,0,none⟩)∧w.heap.size+2≤c∧wx.heap[c]? = some (d_ #[b_ c_ k,b_ c_ d,b_ c_ g,fJ wr,b_ c_ (wrap32 en)] 59 (0,0))∧Up w2 wx)
  case first=>
    have ds:w.heap.size+2≤w2.heap.size:=gn aI.o.eff;refine fX (fun w'=>Up w2 w') [true,true,true,true,true,true,true,true,true,true] (fun a b h s=>gj h s) fK ?a1 ?h1 ?ht1
    case h1=>
      intro w0 S;have he:=gk S aI.o.eff;obtain⟨q0,q1,q2,q3,q4⟩:=nB he;simp only at q0 q3;have b7:=gn he;have y0:=fun x=>gD b7 q0 x
      have y3:=fun x=>gD b7 q3 x
      clear q0 q1 q2 q3 q4 he S;simp only[jd];repeat(go_big_quiet_step ((go_at_call 124;with_reducible exact oA (mF en _))))
      refine wpQuiet_nil ?_
      rfl
    case ht1=>
      change kN _ _ _ _ _ 2 _ _ _;refine js (i:=10) ga rfl ?_
      intro w5 _ m
      go_wp2_with fail
      refine⟨gj m (gr w5 _),?_⟩;refine js (i:=11) ga rfl ?_
      intro w6 ag bI;have v:=gk ag (gH w5 (d_ #[b_ c_ 0,b_ c_ 0,b_ c_ 0,fJ false,b_ c_ 0] 59));obtain⟨k0,k1,k2,k3,k4⟩:=nB v;have f0:=gC v 0;have f1:=gC v 1;have f2:=gC v 2;have f3:=gC v 3;have f4:=gC v 4;have az:w2.heap.size≤w5.heap.size:=m.size;have V:=gg (gO (gO (gO (gO (gO bI az (b_ c_ k) (o:=0)) az (b_ c_ d) (o:=1)) az (b_ c_ g) (o:=2)) az (fJ wr) (o:=3)) az (b_ c_ (wrap32 en)) (o:=4));have dd:=gg (jb (jb (jb (jb (jb v 0 (b_ c_ k)) 1 (b_ c_ d)) 2 (b_ c_ g)) 3 (fJ wr)) 4 (b_ c_ (wrap32 en)));clear ag bI v
      go_wp2_with fail
      refine⟨V.o,?_⟩;refine od ga ?_
      intro w8 I Q;have cJ:=gg (gk I dd.o)
      go_wp2
      go_meet
      case rel=>exact⟨_,rfl,by omega,cJ.o,Q⟩
  case rest=>
  obtain⟨c,rfl,dy,hn,br⟩:=hcut;obtain⟨w3,cO⟩:∃ x,x=wc:=⟨_,rfl⟩;subst cO;have O:=gg (aI.o.up br);have X:=gg hn;clear br hn aI;have J:=gg (U.o.below O.o.bel);obtain⟨t,cd,cT,qv,e2,cj,cc,aN,an,hst,dq⟩:=J.o.parts.dev HD.o;injection e2 with e2 _ e3
  subst e2 e3;rw[dm.o] at aN hst;have L:=gg cj;have bL:=gg an;have bx:=gg hst;have bU:=gg aN;obtain⟨n5,af⟩:∃ n,n=M.devs.length:=⟨_,rfl⟩;have du:d<n5:=by rw[af];exact HD.o
  have aB:=gg af;have dB:t<w.heap.size:=(U.o.parts.devs.lt t rfl).2;have dz:=gn U.o.at_
  have cl:gi (∀ q∈qs,∀ g,q.ownBlock=some g→g<w.heap.size):=gg fun q hq g e=>by
    obtain⟨j,hj⟩:=List.mem_iff_getElem?.1 hq;have da:j<M.devs.length:=by rw[←U.o.parts.ques.1];exact(fR hj).1
    exact Fu (U.o.parts.ques.2 j q _ hj (fQ da)) e
  clear af cj an hst aN;obtain⟨t0,t1,t2,t3,t4⟩:=nB X.o;have dA:=gn X.o
  go_upto_if 28 with(fail)
  clear t0 t1 t2 t3 t4
  go_cut [] (fun wx=>∃ f,iV wx B p (a_ a1 M.words.length c1) (a_ a2 M.harts.length c2) (a_ a3 M.ends.length c3) (a_ b1 M.mem.words.length d1) (a_ b2 M.mem.pend.length d2) (a_ b3 M.mem.res.length d3) (a_ (some ⟨t,0,none⟩) M.devs.length c5) (a_ a6 M.lines.length c6) (a_ a7 M.trace.length c7) (qs.set d f) { M with devs:=M.devs.set d S2 }∧wx.heap[c]? = some (d_ #[b_ c_ k,b_ c_ d,b_ c_ g,fJ wr,b_ c_ val] 59 (0,0))∧wx.heap[w.heap.size]? = some (d_ (hA A) 56 (0,0))∧wx.heap[w.heap.size+1]? = some (d_ #[b_ c_ G,b_ c_ y,b_ c_ av,b_ c_ en,b_ c_ eo] 131 (0,0))∧(∀ g,f.ownBlock=some g→c<g)∧Below B w wx)
  case first=>
   by_cases h2:G=2
   · subst h2
     obtain rfl:true=wr:=aW;have hv:=bM.o;have aa:=ce.o;have hh:=aT.o;rw[if_pos rfl] at hv aa hh;have HV:=gg hv;have HS:=gg aa;have HH:=gg hh;clear hv aa hh;go_upto_region 5 with(fail)
     refine fY (fun w'=>Up w3 w') 18 [true,true,true,true,true,true,true,true,true,true,true,true,true,true,true,true,true] (fun a b h s=>gj h s) fK ?a2 ?h2 ?ht2
     case h2=>
      intro w0 S;obtain⟨k0,k1,k2,k3,k4,k5,k6,k7,k8⟩:=gU (gk S J.o.at_);obtain⟨q0,q1,q2,q3,q4⟩:=nB (gk S X.o);have ar:=gn (gk S J.o.at_);have Z:=gn (gk S X.o);rw[←aB.o] at k6;have x6:=fun x=>gD ar k6 x
      have y4:=fun x=>gD Z q4 x
      have ab:=gk S L.o;clear k0 k1 k2 k3 k4 k5 k6 k7 k8 q0 q1 q2 q3 q4 S
      have R0:gi (∀ w':World,(∃ x:Wd w0,w'=x.val)→(loadVar 75 ⟨t,d*8,none⟩).run gd w' = .ok (e_ (gX D qv)) w'):=gg (by
        rintro w' ⟨x,rfl⟩;exact A0 (pN (gn ab) (CO bU.o L.o ab) x))
      clear ab;simp only[jd]
      iterate 13 (go_big_quiet_step (fail))
      go_big_quiet_want
      refine kY 75 _ ⟨t,d*8,none⟩ (e_ (gX D qv)) rfl rfl R0.o ?_
      simp only[Act.put,fU,fV,fW]
      go_big_quiet_on
      repeat(go_big_quiet_step (fail))
      refine wpQuiet_nil ?_
      rfl
     case ht2=>
      change kD _ _ _ _ _ _ 1 _ _ _;refine jQ (i:=17) ga fZ rfl ?_
      intro w4 _ E
      go_wp2_with fail
      refine(LQ _ D g (wrap32 en) _ (bx.o.below E) bm bw).mono ?_
      rintro e w5 ⟨v',rfl,⟨f,rfl,ad,ap⟩,m⟩;obtain⟨bc,ae⟩:=mz ad ap;have aQ:=gg ((J.o.below E).fresh ae);have aC:gi (∀ g,f.ownBlock=some g→c<g):=gg fun g hg=>fN (gn (gk E X.o)) (ae g hg)
      have ao:=gg (gj E m);clear ap m E ae
      go_wp2_with fail
      refine⟨ao.o,?_⟩;refine lR ga ?_
      intro w8 b0 Q;have cf:=gk Q X.o;have ak:=gg ((J.o.below Q).setDev rfl HD.o (ad.below b0) aQ.o);have aX:=gg (vi bL.o L.o (gk Q L.o));have K:=AQ w8 t (d*8) (sC (ja (kX D g (wrap32 (wrap32 en))),f));have aw:=gg ((K.2 c f_).trans cf);have aA:=gg ((K.2 w.heap.size f_).trans (gk Q O.o.hart));have bf:=gg ((K.2 (w.heap.size+1) f_).trans (gk Q O.o.eff));have al:=gg (rx cc (sC (ja (kX D g (wrap32 (wrap32 en))),f)) (d*8) ((O.o.bel.mono C).trans (Q.mono (by have:=O.o.bel.size;omega))));clear Q b0 ad cf K
      try simp only[List.drop_succ_cons,List.drop_zero]
      go_wp2_with (refine wpList_store_mid rfl 75 _ _ rfl t (d*8) (gX (ja (kX D g (wrap32 (wrap32 en)))) f) rfl rfl aX.o EG (De _ bc) ?_)
      go_meet
      case rel=>rw[HV.o,HS.o,HH.o];exact⟨f,ak.o,aw.o,aA.o,bf.o,aC.o,al.o⟩
   · obtain rfl:G=1:=bi.resolve_right h2
     obtain rfl:false=wr:=aW;have hv:=bM.o;have aa:=ce.o;have hh:=aT.o;rw[if_neg h2] at hv aa hh;rw[hv] at hh;have HV:=gg hv;have HS:=gg aa;have HH:=gg hh;clear hv aa hh h2;go_upto_region 6 with(fail)
     obtain⟨z0,z1,z2,z3,z4,z5,z6,z7,z8⟩:=gU J.o.at_;rw[←aB.o] at z6;have cC:=gn J.o.at_;have c9:=gn L.o
     go_cut [] (fun wx=>∃ f,iV wx B p (a_ a1 M.words.length c1) (a_ a2 M.harts.length c2) (a_ a3 M.ends.length c3) (a_ b1 M.mem.words.length d1) (a_ b2 M.mem.pend.length d2) (a_ b3 M.mem.res.length d3) (a_ (some ⟨t,0,none⟩) M.devs.length c5) (a_ a6 M.lines.length c6) (a_ a7 M.trace.length c7) (qs.set d f) { M with devs:=M.devs.set d (ja (ls D g)) }∧wx.heap[c]? = some (d_ #[b_ c_ k,b_ c_ d,b_ c_ g,fJ false,b_ c_ (kV D g)] 59 (0,0))∧wx.heap[w.heap.size]? = some (d_ (hA h) 56 (0,0))∧wx.heap[w.heap.size+1]? = some (d_ #[b_ c_ 1,b_ c_ y,b_ c_ av,b_ c_ en,b_ c_ eo] 131 (0,0))∧(∀ g,f.ownBlock=some g→c<g)∧Below B w wx)
     case first=>
      refine fY (fun w'=>(p<w'.heap.size∧w'.cell? ⟨p,6,none⟩=some (a_ (some ⟨t,0,none⟩) n5 c5))∧t<w'.heap.size∧w'.heap[t]? = some (d_ cT 75 (0,0))) 21 [true,true,true,true,true,true,true,true,true,true,true,true,true,true,true] (fun a b h s=>⟨⟨fN h.1.1 s.size,by rw[s.cell (p:=⟨p,6,none⟩) h.1.1];exact h.1.2⟩,fN h.2.1 s.size,iE s h.2.1 h.2.2⟩) ⟨⟨cC,z6⟩,c9,L.o⟩ ?a4 ?h4 ?ht4
      case h4=>
       intro w0 ⟨⟨ar,k6⟩,_,ab⟩;have x6:=fun x=>gD ar k6 x
       clear k6
       have R0:gi (∀ w':World,(∃ x:Wd w0,w'=x.val)→(loadVar 75 ⟨t,d*8,none⟩).run gd w' = .ok (e_ (gX D qv)) w'):=gg (by
         rintro w' ⟨x,rfl⟩;exact A0 (pN (gn ab) (CO bU.o L.o ab) x))
       clear ab;simp only[jd]
       iterate 13 (go_big_quiet_step (fail))
       go_big_quiet_want
       refine kY 75 _ ⟨t,d*8,none⟩ (e_ (gX D qv)) rfl rfl R0.o ?_
       simp only[Act.put,fU,fV,fW]
       go_big_quiet_on
       repeat(go_big_quiet_step (fail))
       refine wpQuiet_nil ?_
       rfl
      case ht4=>
       clear z0 z1 z2 z3 z4 z5 z7 z8;change kD _ _ _ _ _ _ 6 _ _ _;refine jQ (i:=15) ga fZ rfl ?_
       intro w4 cS ⟨⟨bF,bB⟩,bO,bp⟩;have E:Up w3 w4:=(by repeat(first|(with_reducible exact Below.refl _ _)|(with_reducible refine gO ?_ ?_ _)|(with_reducible apply iS)|(with_reducible refine gj ?_ (by with_reducible assumption))|(with_reducible apply iR)|omega))
       go_wp2_with fail
       refine(xF _ D g _ (bx.o.below E) bm bw).mono ?_
       rintro e w5 ⟨v',rfl,⟨f,rfl,ad,ap⟩,m⟩;obtain⟨bc,ae⟩:=mz ad ap;have aQ:=gg ((J.o.below E).fresh ae);have aC:gi (∀ g,f.ownBlock=some g→c<g):=gg fun g hg=>fN (gn (gk E X.o)) (ae g hg)
       have ao:=gg (gj E m);have bA:=And.intro (And.intro (fN bF m.size) ((m.cell (p:=⟨p,6,none⟩) bF).trans bB)) (And.intro (fN bO m.size) (iE m bO bp));have aO:=gg bA;have df:=gg ad;clear ap m E cS bB bp ae ad bA
       go_wp2_with fail
       refine⟨aO.o,?_⟩;refine mY [false,false,false,false,false,false,false,false,false,false,false,false,false,false,false,false,true,true,true,true] 1 ga ga ga (fun a b h s=>⟨⟨fN h.1.1 s.size,by rw[s.cell (p:=⟨p,6,none⟩) h.1.1];exact h.1.2⟩,fN h.2.1 s.size,iE s h.2.1 h.2.2⟩) aO.o ?a5 ?h5 ?ht5
       case h5=>
        intro w0 _;simp only[jd];repeat(go_big_quiet_step (fail))
        refine wpQuiet_nil ?_
        rfl
       case ht5=>
        refine jQ (i:=20) ga fZ rfl ?_
        intro w6 ag ax;have V:=gg (gj ao.o ag);have v:=gk V.o X.o;have Z:=gn v;obtain⟨q0,q1,q2,q3,q4⟩:=nB v;have f4:=gC v 4;have K:=nF w6 c 4 (b_ c_ (kV D g));have c0:=gg (jb v 4 (b_ c_ (kV D g)));have cu:=gg ((K.2 t f_).trans (gk V.o L.o));have co:=gg ((K.2 w.heap.size f_).trans (gk V.o O.o.hart));have cv:=gg ((K.2 (w.heap.size+1) f_).trans (gk V.o O.o.eff));have cN:=gg ((J.o.below V.o).acc v (j:=4) (u:=b_ c_ (kV D g)) (fun q hq e=>by have:=cl.o q hq c e;omega) (fun e=>by have:=(U.o.parts.trace.lt c e).2;omega));have cD:=gg (DV (df.o.below ag) K (fun e=>by have:=aC.o c e;omega));have cy:=gg (((O.o.bel.mono C).trans (V.o.mono (by have:=O.o.bel.size;omega))).setCell (p:=⟨c,4,none⟩) (show B≤c by omega) (b_ c_ (kV D g)));have cP:gi (w.heap.size≤(w6.setCell ⟨c,4,none⟩ (b_ c_ (kV D g))).heap.size):=gg (by rw[kj];omega);have cM:=gg (And.intro (And.intro (fN ax.1.1 K.1) ((Bq (show p≠c by omega) 4 6 (b_ c_ (kV D g))).trans ax.1.2)) (And.intro (fN ax.2.1 K.1) ((K.2 t f_).trans ax.2.2)));clear ag ax K v aO
        go_wp2_with fail
        refine⟨cM.o,?_⟩;clear q0 q1 q2 q3 q4 f4;refine lR ga ?_
        intro w8 I _;have dk:=cP.o;have aX:=gg (vi bL.o L.o (gk I cu.o));have ak:=gg ((cN.o.below I).setDev rfl HD.o (cD.o.below I) aQ.o);have K:=AQ w8 t (d*8) (sC (ja (ls D g),f));have aw:=gg ((K.2 c f_).trans (gk I c0.o));have aA:=gg ((K.2 w.heap.size f_).trans (gk I co.o));have bf:=gg ((K.2 (w.heap.size+1) f_).trans (gk I cv.o));have al:=gg (rx cc (sC (ja (ls D g),f)) (d*8) (cy.o.trans (I.mono f_)));clear I K dk
        try simp only[List.drop_succ_cons,List.drop_zero]
        go_wp2_with (refine wpList_store_mid rfl 75 _ _ rfl t (d*8) (gX (ja (ls D g)) f) rfl rfl aX.o EG (De _ bc) ?_)
        go_meet
        case rel=>exact⟨f,ak.o,aw.o,aA.o,bf.o,aC.o,al.o⟩
     case rest=>
      obtain⟨f,ac,Y,ai,aj,aJ,aq⟩:=hcut;have bN:=gg aJ;have cA:=gg ac;have cQ:=gg Y;have bX:=gg ai;have dj:=gg aj;have cX:=gg aq;obtain⟨t0,t1,t2,t3,t4⟩:=nB Y;obtain⟨e0,e1,e2,e3,e4⟩:=nB aj;have cB:=gn Y;have cx:=gn aj;have cF:=gn ai;clear ac Y ai aj aq aJ z0 z1 z2 z3 z4 z5 z6 z7 z8
      go_wp2_with (refine wpList_load_row rfl 56 _ rfl w.heap.size rfl 56 (hA h) (0,0) _ bX.o Tryz.underlying56 rfl (ii bS) ?_)
      refine(CM h y (kV D g) _ am).mono ?_
      rintro e w5 ⟨rfl,m⟩;have bC:=gV (gR h y (kV D g)) (mo am y (kV D g));have bb:=gg (gk m bX.o);have aB:=gg (gk m cQ.o);have c8:=gg (gk m dj.o);have ao:=gg (mH cX.o m C)
      have cR:=gg ((cA.o.below m).box (cs:=hA (gR h y (kV D g))) bb.o (fun e=>by have:=(U.o.parts.harts.lt w.heap.size e).2;omega) (fun q hq e=>by
        rcases List.mem_or_eq_of_mem_set hq with h1|rfl
        · have:=cl.o q h1 _ e;omega
        · have:=bN.o _ e;omega))
      clear t0 t1 t2 t3 t4 e0 e1 e2 e3 e4 cB cx cF m
      go_wp2_with (refine wpList_store_row rfl 56 _ _ rfl w.heap.size (hA (gR h y (kV D g))) rfl rfl 56 (hA h) bb.o (ii bC) (by rw[bS,bC]) (jU _) ?_)
      go_meet
      case rel=>rw[HV.o,HS.o,HH.o];exact⟨f,cR.o,(iL f_ aB.o),setRow_heap _ _ _ _ _ _ bb.o,iL f_ c8.o,bN.o,ao.o.trans ((below_setRow (Below.refl B _) C _))⟩
  case rest=>
  obtain⟨f,ac,Y,ai,aj,aJ,aq⟩:=hcut;obtain⟨w9,cW⟩:∃ x,x=wc:=⟨_,rfl⟩;subst cW;have ak:=gg ac;have aw:=gg Y;have aA:=gg ai;have al:=gg aq;have HL:gi (M.trace.length≤N):=gg HG.o.trace;obtain⟨z0,z1,z2,z3,z4,z5,z6,z7,z8⟩:=gU ac.at_;have cZ:=gn ac.at_;have cG:=gn Y;have bR:A.r.length=32:=by rw[aT.o];split;exact am;exact mo am y val
  clear ac Y ai aj aJ aq z0 z1 z2 z3 z4 z5 z6 z7;obtain⟨F,aE⟩:∃ n,n=M.trace.length:=⟨_,rfl⟩;have P:=gg aE;have dt:F≤1000000:=by rw[aE];exact fO HL.o hN
  rw[←aE] at z8;clear aE;obtain⟨i0,hi,di,dc,cz⟩:=info_parts EI;go_upto_region 8 with(fail)
  refine fY (fun w'=>(p<w'.heap.size∧w'.cell? ⟨p,8,none⟩=some (a_ a7 F c7))∧c<w'.heap.size∧w'.heap[c]? = some (d_ #[b_ c_ k,b_ c_ d,b_ c_ g,fJ wr,b_ c_ val] 59 (0,0))) 9 [true,true,true,true,true,true,true] (fun a b h s=>⟨⟨fN h.1.1 s.size,by rw[s.cell (p:=⟨p,8,none⟩) h.1.1];exact h.1.2⟩,fN h.2.1 s.size,iE s h.2.1 h.2.2⟩) ⟨⟨cZ,z8⟩,cG,aw.o⟩ ?a3 ?h3 ?ht3
  case h3=>
    intro w0 ⟨⟨ar,k8⟩,Z,bk⟩;obtain⟨t0,t1,t2,t3,t4⟩:=nB bk;have x8:=fun x=>gD ar k8 x
    have y0:=fun x=>gD Z t0 x
    have y1:=fun x=>gD Z t1 x
    have y2:=fun x=>gD Z t2 x
    have y3:=fun x=>gD Z t3 x
    have y4:=fun x=>gD Z t4 x
    clear k8 t0 t1 t2 t3 t4 bk;simp only[jd];repeat(go_big_quiet_step (fail))
    refine wpQuiet_nil ?_
    rfl
  case ht3=>
    clear z8;change kD _ _ _ _ _ _ 2 _ _ _;refine jQ (i:=7) ga fZ rfl ?_
    intro z cr ⟨⟨bP,cn⟩,de,bV⟩;have aG:Up w9 z:=(by repeat(first|(with_reducible exact Below.refl _ _)|(with_reducible refine gO ?_ ?_ _)|(with_reducible apply iS)|(with_reducible refine gj ?_ (by with_reducible assumption))|(with_reducible apply iR)|omega));have bj:=gg (ak.o.below aG);have cg:=gg (gk aG aA.o);have bQ:=gg (mH al.o aG C);clear aG cr
    go_wp2_with fail
    refine⟨⟨⟨fN bP (gr z _).size,((gr z _).cell (p:=⟨p,8,none⟩) bP).trans cn⟩,fN de (gr z _).size,gk (gr z _) bV⟩,?_⟩;refine jQ (i:=8) ga fZ rfl ?_
    intro wb aS ⟨⟨aV,aU⟩,cK,bl⟩;have aF:Up z wb:=gj (gr z _) aS;have au:=gg (bj.o.below aF);have a0:=gg (gk aF cg.o);have ck:=gg (mH bQ.o aF C);have bG:wb.heap[z.heap.size]? = some (d_ #[b_ c_ k,b_ c_ d,b_ c_ g,fJ wr,b_ c_ val] 59 (0,0)):=gk aS (gH z _)
    have HC:gi (∀ j u,(mK ⟨k,d,g,wr,val⟩)[j]? = some u→wb.cell? ((⟨z.heap.size,0,none⟩:Addr).add j)=some u):=gg (fun j u hj=>by
      rw[kx,Nat.zero_add];exact gv bG (by simpa[mK] using hj))
    have HT:=gg au.o.parts.trace;have b8:gi (wb.ownsRow B 59 5 (a_ a7 F c7) F (iC mK M.trace)):=gg (by have:=HT.o;rw[P.o];exact this);have dp:(F+1)*40≤140737488355328:=by omega
    have cU:F+1≤maxLen:=by unfold maxLen;omega
    have bJ:B≤wb.heap.size:=fO C ck.o.size;have dh:=au.o.base;have bh:=gS HT.o au.o.at_ fZ;have cI:=gS HT.o a0.o fZ;have aR:∀ (g':Nat),(a_ a7 M.trace.length c7).ownBlock=some g'→g'<w.heap.size:=fun g' e=>(U.o.parts.trace.lt g' e).2
    clear aS aF bG bj cg bQ cn bV;refine wpList_append_own_at _ rfl _ _ 35 rfl B 59 i0 (e_ #[b_ c_ 0,b_ c_ 0,b_ c_ 0,fJ false,b_ c_ 0]) 5 40 Tryz.underlying35 hi di dc cz rfl fZ _ _ _ rfl b8.o ⟨z.heap.size,0,none⟩ 1 1 (mK ⟨k,d,g,wr,val⟩) rfl rfl HC.o (El _) cU dp bJ ?_
    intro tv' wd ba W _ b6;obtain⟨xt,yt,rfl⟩:=gN ba;have bn:=gg ba;have aP:=gg W;have bY:=gg b6
    have ci:wd.cell? ⟨p,8,none⟩=some (a_ a7 F c7):=by
      simp only[World.cell?] at aU ⊢
      rw[W.block p aV (fun e=>bh (by rw[←P.o];exact e.symm))];exact aU
    have af:wd.heap[c]? = some (d_ #[b_ c_ k,b_ c_ d,b_ c_ g,fJ wr,b_ c_ val] 59 (0,0)):=by
      rw[W.block c cK (fun e=>by have:=aR c (by rw[←P.o];exact e.symm);omega)];exact bl
    have bT:gi (wd.heap[w.heap.size]? = some (d_ (hA A) 56 (0,0))):=gg (by
      rw[W.block w.heap.size (gn a0.o) (fun e=>by have:=aR w.heap.size (by rw[←P.o];exact e.symm);omega)];exact a0.o)
    have cb:gi (Below B w wd):=gg (ck.o.grown W bJ (fun g' e=>(HT.o.lt g' (by rw[←P.o];exact e)).1));have ca:=gg (And.intro (And.intro (fN aV W.size) ci) (And.intro (gn af) af));have cq:=gg ((W.block p aV (fun e=>bh (by rw[←P.o];exact e.symm))).trans au.o.at_);clear ba W b6 ci af aU bl
    go_wp2_with fail
    refine⟨ca.o,?_⟩;refine lR ga ?_
    intro we ah _
    have bz:=gg (au.o.appendTrace (w':=we) (tv':=a_ xt (F+1) yt) (l:=M.trace ++ [⟨k,d,g,wr,val⟩]) (by rw[←P.o];exact BA aP.o aP.o.size ah) (by
      have e:(M.trace ++ [(⟨k,d,g,wr,val⟩:Ac)]).length=F+1:=by simp[P.o]
      rw[e,rz]
      simpa[iC] using gy bn.o ah) (by rw[←P.o];exact bY.o))
    have bt:=gg (gk ah bT.o);have aY:=gk ah cq.o;have cY:=gv aY (j:=8) rfl;have cL:=gC aY 8;have bq:gi (Below B w we):=gg (mH cb.o ah C);clear ah aY
    try simp only[List.drop_succ_cons,List.drop_zero]
    go_upto_region 9 with(fail)
    obtain⟨wf,aK⟩:∃ x,x=we.setCell ⟨p,8,none⟩ (a_ xt (F+1) yt):=⟨_,rfl⟩;have bv:gi (wf.heap[w.heap.size]? = some (d_ (hA A) 56 (0,0))):=gg (by rw[aK];exact(iY f_).trans bt.o);have dn:gi (Below B w wf):=gg (by rw[aK];exact bq.o.setCell dh _);have ay:=bz;rw[←aK] at ay ⊢
    clear aK bz bt bq cY cL ca aP bY bn bT cb HT b8 HC bh cI aR;obtain⟨gh,ch,dx,eh,bE,dg,_,an⟩:=ay.o.parts.hart HG.o.regs HK.o;injection eh with eh _ eh2
    subst eh eh2;have dl:=gg an;have bZ:=gg bE;obtain⟨j0,j1,j2,j3,j4,j5,j6,j7,j8⟩:=gU ay.o.at_;have b9:=gn ay.o.at_;have b5:=gn bv.o;obtain⟨nh,bg⟩:∃ n,n=M.harts.length:=⟨_,rfl⟩;have dr:k<nh:=by rw[bg];exact HK.o
    rw[←bg] at j1;have x1:=fun x=>gD b9 j1 x
    have a9:=gV A bR
    have R0:gi (∀ w':World,(∃ x:Wd wf,w'=x.val)→(loadVar 56 ⟨w.heap.size,0,none⟩).run gd w' = .ok (e_ (hA A)) w'):=gg (by
      rintro w' ⟨x,rfl⟩;exact run_loadVar_row _ _ 56 56 (hA A) (0,0) _ (iE x.bel b5 bv.o) Tryz.underlying56 rfl (ii a9))
    clear j0 j1 j2 j3 j4 j5 j6 j7 j8 bg bE an;refine ov 8 ga ga ?_
    simp only[List.take_succ_cons,List.take_zero,List.drop_succ_cons,List.drop_zero]
    iterate 6 (go_big_quiet_step (fail))
    go_big_quiet_want
    refine kY 56 _ ⟨w.heap.size,0,none⟩ (e_ (hA A)) rfl rfl R0.o ?_
    simp only[Act.put,fU,fV,fW]
    go_big_quiet_on
    repeat(go_big_quiet_step (fail))
    refine wpQuiet_nil ?_
    rintro wg ⟨⟨dw,aD⟩,rfl⟩;have db:=gg (ay.o.below aD);have cH:=gg (vi dl.o bZ.o (gk aD bZ.o));have cE:=gg (mH dn.o aD C);clear aD x1 R0 b9 b5
    go_wp2_with (refine wpList_store_mid rfl 56 _ _ rfl gh (k*39) (hA A) rfl rfl (by rw[a9];exact cH.o) (by rw[a9];exact uS) (jU A) ?_)
    go_ret;rw[aM.o];have T:=db.o.setHart HG.o.regs rfl HK.o bR;exact⟨rfl,rx dg _ _ cE.o,fun _=>⟨_,_,_,_,_,_,_,_,_,_,T⟩⟩
end
