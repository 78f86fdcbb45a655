/- What the walks of this statement lean on: shown. -/
import Derived.Test.YtdobddiibgfeaaaGreatZs
set_option linter.all false
set_option maxRecDepth 100000
set_option maxHeartbeats 16000000
namespace Go.Proofs.YtdobddiibgfeaaaGreat
open Value renaming slice→a_,int→b_,agg→e_,pointer→fG,tuple→fI,bool→fJ
open IntKind renaming i64→c_
open Obj renaming cells→d_
open Ending renaming returned→fH
open Go.Proofs.Tryz renaming prog→gd
section
open Go.RowKit
theorem LN w B p wv hv ev m1 m2 m3 dv lv tv qs M H N (ho:iV w B p wv hv ev m1 m2 m3 dv lv tv qs M) (hE:rF wv ev m1 m3) (m:gF M H N) (hN:N≤1000000) (hB:B≤w.heap.size) k (hk:k<M.harts.length) h (ah:h.r.length=32) e (aC:1≤e.k∧e.k≤5) :
 Calls gd 77 #[fG (some ⟨p,0,none⟩),b_ c_ k,e_ (hA h),jj e] w (jf B p w (uR M k h e)):=by
 obtain⟨a,E,f,en,u⟩:=e;simp only at aC;have az:=gV h ah;obtain⟨R,j⟩:∃ R,R=uR M k h ⟨a,E,f,en,u⟩:=⟨_,rfl⟩;rw[←j];have an:k<M.mem.pend.length:=by obtain⟨W,_,gm⟩:=m.mem;rw[gm.pend,←m.harts];exact hk
 have ar:k<M.ends.length:=by rw[m.he];exact hk
 obtain⟨a1,c1,a2,c2,a3,c3,b1,d1,b2,J,b3,d3,a5,c5,a6,c6,a7,c7,rfl,rfl,rfl,rfl,rfl,rfl,rfl,rfl,rfl⟩:=ho.shapes;unfold jj;simp only;obtain⟨w1,ao,ag,ac,aa,_⟩:=lU w (d_ (hA h) 56) (d_ #[b_ c_ a,b_ c_ E,b_ c_ f,b_ c_ en,b_ c_ u] 131);have au:=gg ag;have aX:=gg ac;have z:=gg (ho.below aa);have ai:=gg (aa.mono hB);have aB:B≤w1.heap.size:=fO hB aa.size;have HG:=gg m;have HK:=gg hk;have aG:=gg an;have aj:=gg ar;have aM:=gg hE;have s1:=m.small.words;have s5:=m.devs;obtain⟨e0,e1,e2,e3,e4⟩:=nB ac;obtain⟨z0,z1,z2,z3,z4,z5,z6,z7,z8⟩:=gU z.o.at_;have a4:=gn ag;have aT:=gn ac;have aU:=gn z.o.at_;have hm:uh ⟨a,E,f,en,u⟩=wrap64 (f - 536870912):=rfl;have hd:qo ⟨a,E,f,en,u⟩=wrap64 (f - 268435456):=rfl;unfold uR at j;rw[hm,hd] at j;have bm:=sE (f - 536870912);have bd:=sE (f - 268435456);clear hm hd ag ac aa ho hE m hk an ar z1 z2 z4 z5 z7 z8;obtain⟨x,hx⟩:∃ x,x=wrap64 (f - 536870912):=⟨_,rfl⟩;obtain⟨y,hy⟩:∃ y,y=wrap64 (f - 268435456):=⟨_,rfl⟩;rw[←hx] at j bm;rw[←hy] at j bd;have aR:=gg hx;have aE:=gg hy;clear hx hy;obtain⟨X,ak⟩:∃ n,n=M.mem.words.length:=⟨_,rfl⟩;obtain⟨n5,am⟩:∃ n,n=M.devs.length:=⟨_,rfl⟩;have aO:=gg ak;have ap:=gg am;rw[←ak] at z3 s1;rw[←am] at z6 s5;clear ak am;obtain⟨W,hW⟩:∃ W,W=nZ M x:=⟨_,rfl⟩;obtain⟨D,hD⟩:∃ D,D=xG M a y:=⟨_,rfl⟩;have G:gi (W=(decide (0≤x) && (x.tmod 4 == 0 && decide (x.tdiv 4<X)))):=gg (by rw[hW,aO.o];rfl);have l:gi (D=((a == 1 || a == 2) && (decide (0≤y) && (y.tmod 4 == 0 && (decide (y.tmod 256<16) && decide (y.tdiv 256<n5)))))):=gg (by rw[hD,ap.o];rfl);rw[←hW,←hD] at j;have HR:=gg j;clear hW hD j;go_in;go_upto_region 1 with(fail)
 rw[←ao];clear ao;go_upto_region 2 with(fail)
 rw[←aR.o]
 go_cut [33] (fun s wx=>s = fJ W∧wx=w1)
 case first=>
  by_cases F:0≤x
  · have d0:decide (0≤x)=true:=by simpa using F
    have d:=Int.tmod_eq_emod_of_nonneg F (b:=4);have c:=Int.tdiv_eq_ediv_of_nonneg F (b:=4);have u2:c_.wrap (x / 4)=x / 4:=IntWalk.i64_in _ f_;by_cases x1:x % 4=0
    · by_cases U:x / 4<X
      · have J:decide (x / 4<(X:Int))=true:=by simpa using U
        have A:gi (W=true):=gg (by rw[G.o,d,c];simp[F,x1,U]);clear d c
        go_wp2
        go_meet
        case rel=>exact⟨by rw[A.o],rfl⟩
      · have J:decide (x / 4<(X:Int))=false:=by simpa using U
        have A:gi (W=false):=gg (by rw[G.o,d,c];simp[U]);clear d c
        go_wp2
        go_meet
        case rel=>exact⟨by rw[A.o],rfl⟩
    · have d1:(x % 4 == 0)=false:=by simpa using x1
      have A:gi (W=false):=gg (by rw[G.o,d];simp[x1]);clear d c
      go_wp2
      go_meet
      case rel=>exact⟨by rw[A.o],rfl⟩
  · have d0:decide (0≤x)=false:=by simpa using F
    have A:gi (W=false):=gg (by rw[G.o];simp[F])
    go_wp2
    go_meet
    case rel=>exact⟨by rw[A.o],rfl⟩
 case rest=>
 obtain⟨rfl,P⟩:=hcut;subst P;cases W
 · have S:=gg (HR.o.trans (if_neg gb))
   clear HR z3 G;go_upto_region 5 with(fail)
   rw[←aE.o];obtain⟨C,ad⟩:∃ C,C=(a == 1 || a == 2):=⟨_,rfl⟩;have Z:=gg ad;rw[←ad] at l;clear ad;obtain⟨w2,aQ⟩:∃ v,v=wc:=⟨_,rfl⟩;subst aQ
   go_cut [11] (fun s wx=>s = fJ C∧wx=w2)
   case first=>
    by_cases h1:a=1
    · have O:gi (C=true):=gg (by rw[Z.o];simp[h1])
      have d1:(a == 1)=true:=by simp[h1]
      go_wp2
      go_meet
      case rel=>exact⟨by rw[O.o],rfl⟩
    · have d1:(a == 1)=false:=by simp[h1]
      by_cases h2:a=2
      · have O:gi (C=true):=gg (by rw[Z.o];simp[h2])
        have J:(a == 2)=true:=by simp[h2]
        go_wp2
        go_meet
        case rel=>exact⟨by rw[O.o],rfl⟩
      · have O:gi (C=false):=gg (by rw[Z.o];simp[h1,h2])
        have J:(a == 2)=false:=by simp[h2]
        go_wp2
        go_meet
        case rel=>exact⟨by rw[O.o],rfl⟩
   case rest=>
   obtain⟨rfl,P⟩:=hcut;subst P;obtain⟨w3,aD⟩:∃ v,v=wc:=⟨_,rfl⟩;subst aD;go_upto_region 6 with(fail)
   go_cut [77] (fun s wx=>s = fJ D∧wx=w3)
   case first=>
    cases C
    · have i:gi (D=false):=gg (by rw[l.o];simp)
      go_wp2
      go_meet
      case rel=>exact⟨by rw[i.o],rfl⟩
    · by_cases q:0≤y
      · have d0:decide (0≤y)=true:=by simpa using q
        have d:=Int.tmod_eq_emod_of_nonneg q (b:=4);have t:=Int.tmod_eq_emod_of_nonneg q (b:=256);have c:=Int.tdiv_eq_ediv_of_nonneg q (b:=256);have u2:c_.wrap (y / 256)=y / 256:=IntWalk.i64_in _ f_;by_cases y1:y % 4=0
        · by_cases V:y % 256<16
          · have J:decide (y % 256<16)=true:=by simpa using V
            by_cases Y:y / 256<n5
            · have d3:decide (y / 256<(n5:Int))=true:=by simpa using Y
              have i:gi (D=true):=gg (by rw[l.o,d,t,c];simp[q,y1,V,Y]);clear d t c
              go_wp2
              go_meet
              case rel=>exact⟨by rw[i.o],rfl⟩
            · have d3:decide (y / 256<(n5:Int))=false:=by simpa using Y
              have i:gi (D=false):=gg (by rw[l.o,d,t,c];simp[Y]);clear d t c
              go_wp2
              go_meet
              case rel=>exact⟨by rw[i.o],rfl⟩
          · have J:decide (y % 256<16)=false:=by simpa using V
            have i:gi (D=false):=gg (by rw[l.o,t];simp[V]);clear d t c
            go_wp2
            go_meet
            case rel=>exact⟨by rw[i.o],rfl⟩
        · have d1:(y % 4 == 0)=false:=by simpa using y1
          have i:gi (D=false):=gg (by rw[l.o,d];simp[y1]);clear d t c
          go_wp2
          go_meet
          case rel=>exact⟨by rw[i.o],rfl⟩
      · have d0:decide (0≤y)=false:=by simpa using q
        have i:gi (D=false):=gg (by rw[l.o];simp[q])
        go_wp2
        go_meet
        case rel=>exact⟨by rw[i.o],rfl⟩
   case rest=>
   obtain⟨rfl,P⟩:=hcut;subst P;cases D
   · have ab:=gg (S.o.trans (if_neg gb))
     obtain⟨g,cc,aV,al,ay,aL,aZ,aW⟩:=rf z.o.parts.ends aj.o;injection al with al _ e3'
     subst al e3';obtain⟨k0,k1,k2,k3,k4,k5,k6,k7,k8⟩:=gU z.o.at_;have aY:=gn ay;obtain⟨n3,af⟩:∃ n,n=M.ends.length:=⟨_,rfl⟩;have a0:k<n3:=by rw[af];exact aj.o
     rw[←af] at k2;have T:=gg (z.o.setEnd aM.o rfl aj.o 3);clear k0 k1 k3 k4 k5 k6 k7 k8 ay af e0 e1 e2 e3 e4 z0 z6
     go_wp2
     go_ret;rw[ab.o];exact⟨rfl,ai.o.setCell aL _,fun _=>⟨_,_,_,_,_,_,_,_,_,_,T.o⟩⟩
   · have ab:=gg (S.o.trans (if_pos rfl))
     have hp:=l.o;simp at hp;obtain⟨av,aA,aS,aJ,ax⟩:=hp;have d:=Int.tmod_eq_emod_of_nonneg aA (b:=256);have c:=Int.tdiv_eq_ediv_of_nonneg aA (b:=256);rw[d] at aJ;rw[c] at ax;obtain⟨o,aN⟩:∃ o:Nat,y / 256=o:=⟨(y / 256).toNat,by omega⟩;have aq:o<M.devs.length:=by have:=ap.o;omega
     have u2:c_.wrap (o:Int)=o:=IntWalk.i64_in _ f_;have u3:c_.wrap (y % 256)=y % 256:=IntWalk.i64_in _ f_;have u4:c_.wrap (y % 256 / 4)=y % 256 / 4:=IntWalk.i64_in _ f_;have aw:(y % 256).tdiv 4=y % 256 / 4:=Int.tdiv_eq_ediv_of_nonneg f_;have aH:gi (a=1∨a=2):=gg (by have:=Z.o;rw[av] at this;simp at this;exact this);have aK:gi (R=pG M k h ⟨a,E,f,en,u⟩ o (y % 256 / 4)):=gg (by rw[ab.o,d,c,aw,aN]);have aP:=gg aq;clear d c aw S ab aq av aS ax z0 z6
     go_wp2_with (refine wpList_load_row rfl 56 _ rfl w.heap.size rfl 56 (hA h) (0,0) _ au.o Tryz.underlying56 rfl (ii az) ?_)
     refine(Kg _ B p _ _ _ _ _ _ _ _ _ qs M H N z.o HG.o hN aB k HK.o aG.o h ah ⟨a,E,f,en,u⟩ o aP.o _ f_ aH.o).mono ?_
     rintro e w4 ⟨rfl,K,Q⟩;have I:=gg Q;have ae:=gg (ai.o.trans K);clear K Q;have L:=aK.o;rw[←L] at I ⊢
     clear L
     go_wp2
     go_ret;exact⟨rfl,ae.o,I.o⟩
 · have S:=gg (HR.o.trans (if_pos rfl))
   have aI:0≤x:=by have:=G.o;simp at this;exact this.1
   have u2:c_.wrap (x / 4)=x / 4:=IntWalk.i64_in _ f_;have c:=Int.tdiv_eq_ediv_of_nonneg aI (b:=4);have aF:=gg c;clear c
   go_wp2_with (refine wpList_load_row rfl 56 _ rfl w.heap.size rfl 56 (hA h) (0,0) _ au.o Tryz.underlying56 rfl (ii az) ?_)
   refine(KU _ B p _ _ _ _ _ _ _ _ _ qs M H N z.o HG.o aB k HK.o h ah ⟨a,E,f,en,u⟩ _ aC).mono ?_
   rintro e w2 ⟨rfl,K,Q⟩;have I:=gg Q;have ae:=gg (ai.o.trans K);clear K Q;rw[←aF.o] at I ⊢
   have L:=S.o;rw[←L] at I ⊢
   clear L
   go_wp2
   go_ret;exact⟨rfl,ae.o,I.o⟩
theorem Ns w B p i d f n c m h l g j M H N (r:iV w B p i d f n c m h l g j M) (a:gF M H N) k (s:k<M.harts.length) x b (o:yU M k=x) (q:yV M k=b) :
 Calls gd 74 #[fG (some ⟨p,0,none⟩),b_ c_ k] w fun e w'=>e =fH (fI #[gK x,fJ b])∧Up w w':=by
 subst o q;exact Nr w B p i d f n c m h l g j M r a.regs a.word a.words k f_ f_ (a.pcs _ (Da f_ f_)).1
theorem yc h id op d a b n w (l:h.r.length=32) g (j c f i e) (m:mN h id ⟨op,d,a,b,n⟩=(g,⟨j,c,f,i,e⟩)) :
 Calls gd 75 #[e_ (hA h),b_ c_ id,e_ #[b_ c_ op,b_ c_ d,b_ c_ a,b_ c_ b,b_ c_ n]] w fun k w'=>k =fH (fI #[e_ (hA g),e_ #[b_ c_ j,b_ c_ c,b_ c_ f,b_ c_ i,b_ c_ e]])∧Up w w':=by
 have:=ya h id ⟨op,d,a,b,n⟩ w l;rw[m] at this;exact this
theorem yf w B p wv hv ev m1 m2 m3 dv lv tv qs M H N (ho:iV w B p wv hv ev m1 m2 m3 dv lv tv qs M) (br:rF wv ev m1 m3) (hg:gF M H N) (hN:N≤1000000) (D:B≤w.heap.size) (c) :
 Calls gd 41 #[fG (some ⟨p,0,none⟩),cV c] w (jf B p w (oe M c.h)):=by
 obtain⟨ck,ch,cw,cn⟩:=c;obtain⟨a1,c1,a2,c2,a3,c3,b1,d1,b2,d2,b3,d3,a5,c5,a6,c6,a7,c7,rfl,rfl,rfl,rfl,rfl,rfl,rfl,rfl,rfl⟩:=ho.shapes;unfold cV;simp only;have he:=hg.he;obtain⟨w1,aP,hc1,bm,_⟩:=pC w (d_ #[b_ c_ ck,b_ c_ ch,b_ c_ cw,b_ c_ cn] 28);have aE:=gg (ho.below bm);have bj:gi (Below B w w1):=gg (bm.mono D);have bH:=gg hc1;obtain⟨q,d,t,m⟩:=kM hc1;have f:=gn hc1;have HG:=gg hg;have HE:=gg he;have bM:∀ k:Nat,k<M.harts.length→k<M.mem.pend.length:=fun k hk=>by obtain⟨W,_,gm⟩:=hg.mem;rw[gm.pend,←hg.harts];exact hk
 have bS:=gg bM;clear hc1 bm ho q t m hg he bM;cases hh:oQ M ch
 · have e:oe M ch=(jX,1):=by unfold oe;rw[if_pos hh]
   rw[e];clear e;have HH:=gg hh;clear hh;go_in;go_upto_region 1 with(fail)
   rw[←aP];clear aP
   go_wp2_with fail
   refine(C9 _ _ _ _ _ _ _ _ _ _ _ _ _ M aE.o HE.o ch false HH.o).mono ?_
   rintro e w2 ⟨rfl,ar⟩;have aF:=gg (mH bj.o ar D);clear ar
   go_wp2
   go_ret;exact jf.fail aF.o fZ
 · obtain⟨r0,r1,r2⟩:=rj hh
   obtain⟨k,rfl⟩:∃ k:Nat,ch=k:=⟨ch.toNat,by omega⟩;have HH:=gg hh;have z:gi (k<M.ends.length):=gg f_;have V:gi (k<M.harts.length):=gg f_;have bt:=gg (bS.o k V.o);obtain⟨E,hE⟩:∃ E,yZ M (k:Int)=E:=⟨_,rfl⟩;have ae:=gg hE;obtain⟨R,hR⟩:∃ R,R=oe M (k:Int):=⟨_,rfl⟩;rw[←hR];have HR:=gg hR;obtain⟨n3,bA⟩:∃ n,n=M.ends.length:=⟨_,rfl⟩;have b5:k<n3:=by omega
   have aU:=gg bA;obtain⟨Z,cd,cb,b,_,_,_,_⟩:=rf aE.o.parts.ends z.o;injection b with b _ e3'
   subst b e3';have a4:=gg br;clear hh r0 r1 r2 hE hR bA br;go_in;go_upto_region 1 with(fail)
   rw[←aP];clear aP
   go_wp2_with fail
   refine(C9 _ _ _ _ _ _ _ _ _ _ _ _ _ M aE.o HE.o k true HH.o).mono ?_
   rintro e w2 ⟨rfl,ar⟩;have aF:=gg (mH bj.o ar D);have aK:=gg (aE.o.below ar);have a0:=gg (gk ar bH.o);clear ar d f bj aE bH;obtain⟨q,d,t,m⟩:=kM a0.o;obtain⟨O,j,s,k3,L,I,K,G,J⟩:=gU aK.o.at_;have i:=gn aK.o.at_;have f:=gn a0.o;obtain⟨bk,bf,bo,b,Q,ap,ab,_⟩:=rf aK.o.parts.ends z.o;injection b with b _ e3'
   injection b with b
   injection b with b
   subst b e3';rw[←yO z.o,ae.o] at ab;rw[←aU.o] at s;have am:=gn Q;have x2:=fun x=>gD i s x
   have C:=fun x=>gD f d x
   have z1:=fun x=>gD am ab x
   clear O j s k3 L I K G J q d t m Q ap ab;go_upto_region 3 with(fail)
   by_cases hE:E=0
   case neg=>
    have d0:(E != 0)=true:=by simp[hE]
    have P:=gg (HR.o.trans (by unfold oe;rw[if_neg (by rw[HH.o];simp),if_pos (by rw[ae.o];exact hE)]:oe M (k:Int)=(jX,100)));refine kK ga ga ?_
    repeat(go_big_quiet_step (fail))
    refine wpQuiet_nil ?_
    rintro w3 ⟨⟨bT,av⟩,rfl⟩;have aT:=gg (mH aF.o av D);clear av x2 C z1
    go_wp2
    go_ret;rw[P.o];exact jf.fail (e:=100) aT.o fZ
   have d0:(E != 0)=false:=by simp[hE]
   refine kK ga ga ?_
   repeat(go_big_quiet_step (fail))
   refine wpQuiet_nil ?_
   rintro w3 ⟨⟨bT,av⟩,rfl⟩;have aT:=gg (mH aF.o av D);have bb:=gg (aK.o.below av);have aY:=gg (gk av a0.o);clear av x2 C z1 i f am aF aK a0 d0;obtain⟨q,d,t,m⟩:=kM aY.o;have f:=gn aY.o;obtain⟨X,hX⟩:∃ X,yU M (k:Int)=X:=⟨_,rfl⟩;obtain⟨Fb,hF⟩:∃ Fb,yV M (k:Int)=Fb:=⟨_,rfl⟩;have HX:=gg hX;have HF:=gg hF;clear hX hF
   go_wp2_with fail
   refine(Ns _ B p _ _ _ _ _ _ _ _ _ qs M H N bb.o HG.o k V.o X Fb HX.o HF.o).mono ?_
   rintro e w4 ⟨rfl,aX⟩;have bv:=gg (mH aT.o aX D);have bF:=gg (bb.o.below aX);have bO:=gg (gk aX aY.o);clear aX q d t m f aT bb aY;obtain⟨xo,xd,xa,xb,xn⟩:=X;rw[show gK ⟨xo,xd,xa,xb,xn⟩ =e_ #[b_ c_ xo,b_ c_ xd,b_ c_ xa,b_ c_ xb,b_ c_ xn] from rfl];obtain⟨w5,aZ,bs,aR,_⟩:=pC w4 (d_ #[b_ c_ xo,b_ c_ xd,b_ c_ xa,b_ c_ xb,b_ c_ xn] 72);have bn:=gg (mH bv.o aR D);have af:=gg (bF.o.below aR);have aq:=gg (gk aR bO.o);have bI:=gg bs;have bN:=gg (af.o.parts.ends.lt Z rfl).2;clear aR bs bv bF bO;cases Fb
   · have P:=gg (HR.o.trans (by unfold oe;rw[if_neg (by rw[HH.o];simp),if_neg (by rw[ae.o,hE];simp),if_pos HF.o]:oe M (k:Int)=(zeY M k 2,0)))
     go_upto_region 7 with(fail)
     rw[←aZ];clear aZ;obtain⟨q,d,t,m⟩:=kM aq.o;obtain⟨O,j,s,k3,L,I,K,G,J⟩:=gU af.o.at_;have i:=gn af.o.at_;have f:=gn aq.o;obtain⟨bk,bf,bo,b,Q,ap,ab,_⟩:=rf af.o.parts.ends z.o;injection b with b _ e3'
     injection b with b
     injection b with b
     subst b e3';rw[←yO z.o,ae.o] at ab;rw[←aU.o] at s;have am:=gn Q;have x2:=fun x=>gD i s x
     have C:=fun x=>gD f d x
     have aB:=gg Q;clear O j s k3 L I K G J q d t m ab Q;refine ov 8 ga ga ?_
     simp only[List.take_succ_cons,List.take_zero,List.drop_succ_cons,List.drop_zero];repeat(go_big_quiet_step (fail))
     refine wpQuiet_nil ?_
     rintro wt ⟨⟨bB,A⟩,rfl⟩;have ac:=gk A aB.o;have ao:=gg (af.o.below A);have ak:=gg (gk A aq.o);have aN:=gg (mH bn.o A D)
     have bp:wt.cell? ⟨Z,k,none⟩=some (b_ c_ 0):=by
      obtain⟨g4,_,_,g,_,_,ag,_⟩:=rf ao.o.parts.ends z.o;injection g with g _ _
      injection g with g
      injection g with g
      subst g;rw[←yO z.o,ae.o,hE] at ag;exact ag
     have bd:=gC ac k;have T:=gg (ao.o.setEnd a4.o rfl z.o 2)
     have ah:(wt.setCell ⟨Z,k,none⟩ (b_ c_ 2)).heap[w.heap.size]? = some (d_ #[b_ c_ ck,b_ c_ k,b_ c_ cw,b_ c_ cn] 28 (0,0)):=
      (iY (by rintro rfl;have:=ak.o;rw[ac] at this;injection this with e;injection e with _ e;exact absurd e fZ)).trans ak.o
     have aH:=gg ah;have ax:=gg (aN.o.setCell (p:=⟨Z,k,none⟩) ap (b_ c_ 2))
     clear A x2 C i f am ac ah
     go_wp2
     go_ret;rw[P.o];exact⟨rfl,ax.o,fun _=>⟨_,_,_,_,_,_,_,_,_,_,T.o⟩⟩
   · have bQ:=gg (HR.o.trans (by unfold oe;rw[if_neg (by rw[HH.o];simp),if_neg (by rw[ae.o,hE];simp),if_neg (by rw[HF.o];simp),HX.o]:oe M (k:Int)=lZ M k (mN (lm M k) k ⟨xo,xd,xa,xb,xn⟩)))
     obtain⟨r,hr⟩:∃ r,mN (lm M k) k ⟨xo,xd,xa,xb,xn⟩=r:=⟨_,rfl⟩;have aJ:=bQ.o;rw[hr] at aJ;have hl:=L3 (lm M k) k ⟨xo,xd,xa,xb,xn⟩ (HG.o.regsOf HH.o);rw[hr] at hl;obtain⟨v,y,ed,aS,en,eo⟩:=r;simp only at hl;unfold lZ at aJ;simp only at aJ;have aM:=gg aJ;have HS:=gg hr;clear aJ hr bQ;obtain⟨gh,ch,b7,eh,bE,ce,ba,bV⟩:=af.o.parts.hart HG.o.regs V.o;injection eh with eh _ eh2
     subst eh eh2;have bz:=E9 V.o;have bi:=HG.o.regs (M.harts[k]'V.o) (List.getElem_mem _);rw[←bz] at ba bi;generalize lm M (k:Int)=T at *
     have bX:=gg ba;have a9:=gg bE;obtain⟨nh,bq⟩:∃ n,n=M.harts.length:=⟨_,rfl⟩;have b0:k<nh:=by rw[bq];exact V.o
     have aV:=gg bq;obtain⟨q,d,t,m⟩:=kM aq.o;obtain⟨O,j,s,k3,L,I,K,G,J⟩:=gU af.o.at_;have i:=gn af.o.at_;have f:=gn aq.o;rw[←aV.o] at j;obtain⟨i0,i1,i2,i3,i4⟩:=nB bI.o;have aw:=gn bI.o;have x1:=fun S (x:sM w5 S)=>CP i j x
     have C:=fun S (x:sM w5 S)=>CP f d x
     have j0:=fun S (x:sM w5 S)=>CP aw i0 x
     have j1:=fun S (x:sM w5 S)=>CP aw i1 x
     have j2:=fun S (x:sM w5 S)=>CP aw i2 x
     have j3:=fun S (x:sM w5 S)=>CP aw i3 x
     have j4:=fun S (x:sM w5 S)=>CP aw i4 x
     have R2:gi (∀ S:oF,∀ w':World,(∃ x:sM w5 S,w'=x.val)→(loadVar 56 ⟨gh,k*39,none⟩).run gd w' = .ok (e_ (hA T)) w'):=gg (by
      rintro S w' ⟨x,rfl⟩;exact By bi (CO bX.o a9.o (iE x.ok.1 (gn a9.o) a9.o)))
     clear O j s k3 L I K G J q d t m i0 i1 i2 i3 i4 ba bE bq bV bz i f aw;have aa:=gV v hl;go_upto_region 9 with(fail)
     rw[←aZ];clear aZ;refine JZ 16 ga ga ga _ _ _ _ rfl rfl rfl rfl rfl rfl rfl rfl 7 8 rfl rfl rfl rfl fZ zA gL (hA v) #[b_ c_ y,b_ c_ ed,b_ c_ aS,b_ c_ en,b_ c_ eo] 56 131 ?r1 ?r2 ?a' ?h ?hst ?hQ
     case r1=>intro a w;kernel_rfl
     case r2=>intro a w;kernel_rfl
     case h=>
      intro S cj;have cl:=x1 S;have cf:=C S;have cc:=j0 S;have ci:=j1 S;have b8:=j2 S;have b4:=j3 S;have ca:=j4 S;have R3:=gg (R2.o S);simp only[List.take_succ_cons,List.take_zero]
      iterate 8 (go_big_quiet_step (fail))
      go_big_quiet_want
      refine kY 56 _ ⟨gh,k*39,none⟩ (e_ (hA T)) rfl rfl R3.o ?_
      simp only[Act.put,fU,fV,fW]
      go_big_quiet_on
      repeat(go_big_quiet_step ((go_at_call 75;with_reducible exact Ah (yc T k xo xd xa xb xn _ bi v y ed aS en eo HS.o))))
      refine wpQuiet_nil ?_
      exact rfl
     case hst=>
      intro b1 b2 hb;exact⟨fun w' bg=>H8 56 _ _ rfl b1 (hA v) rfl rfl 56 zA (ii aa) (by rw[aa];rfl) (jU v) w' bg,fun w' bg=>H8 131 _ _ rfl b2 #[b_ c_ y,b_ c_ ed,b_ c_ aS,b_ c_ en,b_ c_ eo] rfl rfl 131 gL ga rfl (by simp[Value.oneCell']) w' bg⟩
     intro bh be w6 b9 bU bZ aW bG bD;have au:=gg (mH bn.o aW D);have F:=gg (af.o.below aW);have Y:=gg (gk aW aq.o);have az:=gg bG;have bw:=gg bD;clear x1 C j0 j1 j2 j3 j4 R2 aW bG bD bn af aq
     try simp only[Act.put,fU,fV,fW]
     obtain⟨e0,e1,e2,e3,g⟩:=nB bw.o;have aQ:=gn bw.o;have bY:w5.heap.size≤be:=bU;have cg:Z<w5.heap.size:=bN.o;by_cases h9:y=9
     · have P:=gg (aM.o.trans (if_pos h9))
       subst h9;go_upto_region 12 with(fail)
       clear e0 e1 e2 e3 g aQ;obtain⟨q,d,t,m⟩:=kM Y.o;obtain⟨O,j,s,k3,L,I,K,G,J⟩:=gU F.o.at_;have i:=gn F.o.at_;have f:=gn Y.o;obtain⟨bk,bf,bo,b,Q,ap,ab,_⟩:=rf F.o.parts.ends z.o;injection b with b _ e3'
       injection b with b
       injection b with b
       subst b e3';rw[←yO z.o,ae.o] at ab;rw[←aU.o] at s;have am:=gn Q;have x2:=fun x=>gD i s x
       have C:=fun x=>gD f d x
       have aB:=gg Q;clear O j s k3 L I K G J q d t m ab Q;refine ov 8 ga ga ?_
       simp only[List.take_succ_cons,List.take_zero,List.drop_succ_cons,List.drop_zero];repeat(go_big_quiet_step (fail))
       refine wpQuiet_nil ?_
       rintro wt ⟨⟨bB,A⟩,rfl⟩;have ac:=gk A aB.o;have ao:=gg (F.o.below A);have ak:=gg (gk A Y.o);have aN:=gg (mH au.o A D)
       have bp:wt.cell? ⟨Z,k,none⟩=some (b_ c_ 0):=by
        obtain⟨g4,_,_,g,_,_,ag,_⟩:=rf ao.o.parts.ends z.o;injection g with g _ _
        injection g with g
        injection g with g
        subst g;rw[←yO z.o,ae.o,hE] at ag;exact ag
       have bd:=gC ac k;have T:=gg (ao.o.setEnd a4.o rfl z.o 2)
       have ah:(wt.setCell ⟨Z,k,none⟩ (b_ c_ 2)).heap[w.heap.size]? = some (d_ #[b_ c_ ck,b_ c_ k,b_ c_ cw,b_ c_ cn] 28 (0,0)):=
        (iY (by rintro rfl;have:=ak.o;rw[ac] at this;injection this with e;injection e with _ e;exact absurd e fZ)).trans ak.o
       have aH:=gg ah;have ax:=gg (aN.o.setCell (p:=⟨Z,k,none⟩) ap (b_ c_ 2))
       clear A x2 C i f am ac ah
       go_wp2
       go_ret;rw[P.o];exact⟨rfl,ax.o,fun _=>⟨_,_,_,_,_,_,_,_,_,_,T.o⟩⟩
     have d9:(y == 9)=false:=by simpa using h9
     by_cases h7:y=7
     · have P:=gg (aM.o.trans ((if_neg h9).trans (if_pos h7)))
       subst h7;go_upto_region 15 with(fail)
       clear e0 e1 e2 e3 g aQ d9;obtain⟨q,d,t,m⟩:=kM Y.o;obtain⟨O,j,s,k3,L,I,K,G,J⟩:=gU F.o.at_;have i:=gn F.o.at_;have f:=gn Y.o;obtain⟨bk,bf,bo,b,Q,ap,ab,_⟩:=rf F.o.parts.ends z.o;injection b with b _ e3'
       injection b with b
       injection b with b
       subst b e3';rw[←yO z.o,ae.o] at ab;rw[←aU.o] at s;have am:=gn Q;have x2:=fun x=>gD i s x
       have C:=fun x=>gD f d x
       have aB:=gg Q;clear O j s k3 L I K G J q d t m ab Q;refine ov 8 ga ga ?_
       simp only[List.take_succ_cons,List.take_zero,List.drop_succ_cons,List.drop_zero];repeat(go_big_quiet_step (fail))
       refine wpQuiet_nil ?_
       rintro wt ⟨⟨bB,A⟩,rfl⟩;have ac:=gk A aB.o;have ao:=gg (F.o.below A);have ak:=gg (gk A Y.o);have aN:=gg (mH au.o A D)
       have bp:wt.cell? ⟨Z,k,none⟩=some (b_ c_ 0):=by
        obtain⟨g4,_,_,g,_,_,ag,_⟩:=rf ao.o.parts.ends z.o;injection g with g _ _
        injection g with g
        injection g with g
        subst g;rw[←yO z.o,ae.o,hE] at ag;exact ag
       have bd:=gC ac k;have T:=gg (ao.o.setEnd a4.o rfl z.o 1)
       have ah:(wt.setCell ⟨Z,k,none⟩ (b_ c_ 1)).heap[w.heap.size]? = some (d_ #[b_ c_ ck,b_ c_ k,b_ c_ cw,b_ c_ cn] 28 (0,0)):=
        (iY (by rintro rfl;have:=ak.o;rw[ac] at this;injection this with e;injection e with _ e;exact absurd e fZ)).trans ak.o
       have aH:=gg ah;have ax:=gg (aN.o.setCell (p:=⟨Z,k,none⟩) ap (b_ c_ 1));have bl:=gg ((iY (u:=b_ c_ 1) (o:=k) (show bh≠Z by have:=bN.o;omega)).trans (gk A az.o));clear A x2 C i f am ac ah;go_upto_region 25 with(fail)
       obtain⟨wn,bL⟩:∃ x,x=wt.setCell ⟨Z,k,none⟩ (b_ c_ 1):=⟨_,rfl⟩;rw[←bL] at T aH ax bl ⊢
       clear bL bp bd;have a8:=T;obtain⟨q,d,t,m⟩:=kM aH.o;obtain⟨O,j,s,k3,L,I,K,G,J⟩:=gU a8.o.at_;have i:=gn a8.o.at_;have f:=gn aH.o;obtain⟨bJ,_,_,l,an,aI,_,ai⟩:=a8.o.parts.hart HG.o.regs V.o;injection l with l _ _
       injection l with l
       injection l with l
       subst l;rw[←aV.o] at j;have al:=gn bl.o;have x1:=fun x=>gD i j x
       have C:=fun x=>gD f d x
       have R0:gi (∀ w':World,(∃ x:Wd wn,w'=x.val)→(loadVar 56 ⟨bh,0,none⟩).run gd w' = .ok (e_ (hA v)) w'):=gg (by
        rintro w' ⟨x,rfl⟩;exact run_loadVar_row _ _ 56 56 (hA v) (0,0) _ (iE x.bel al bl.o) Tryz.underlying56 rfl (ii aa))
       have aL:=gg ai;have aj:=gg an;clear O j s k3 L I K G J q d t m an ai;refine ov 9 ga ga ?_
       simp only[List.take_succ_cons,List.take_zero,List.drop_succ_cons,List.drop_zero]
       iterate 7 (go_big_quiet_step (fail))
       go_big_quiet_want
       refine kY 56 _ ⟨bh,0,none⟩ (e_ (hA v)) rfl rfl R0.o ?_
       simp only[Act.put,fU,fV,fW]
       go_big_quiet_on
       repeat(go_big_quiet_step (fail))
       refine wpQuiet_nil ?_
       rintro wz ⟨⟨bP,U⟩,rfl⟩;have aA:=gg (a8.o.below U);have aG:=gg (vi aL.o aj.o (gk U aj.o));have aD:=gg (mH ax.o U D);clear U x1 C R0 i f al
       go_wp2_with (refine wpList_store_mid rfl 56 _ _ rfl gh (k*39) (hA v) rfl rfl (by rw[aa];exact aG.o) (by rw[aa];exact uS) (jU v) ?_)
       go_ret;rw[P.o];exact⟨rfl,rx aI _ _ aD.o,fun _=>⟨_,_,_,_,_,_,_,_,_,_,aA.o.setHart HG.o.regs rfl V.o hl⟩⟩
     have d7:(y == 7)=false:=by simpa using h7
     by_cases h6:y=6
     · have bu:=gg (aM.o.trans ((if_neg h9).trans ((if_neg h7).trans (if_pos h6))))
       subst h6;obtain⟨q,d,t,m⟩:=kM Y.o;have f:=gn Y.o;by_cases ay:(iA M.mem (k:Int)).length≠0
       · have P:=gg (bu.o.trans (if_pos ay))
         have bc:=gg ay;clear ay
         go_wp2_with fail
         refine(FD _ _ _ _ _ _ _ _ _ _ _ _ _ M F.o k f_ (by have:=bt.o;omega) true (by simpa using bc.o)).mono ?_
         rintro e w7 ⟨rfl,ad⟩;have aC:=gg (mH au.o ad D);clear ad
         go_wp2
         go_ret;rw[P.o];exact jf.fail (e:=92) aC.o fZ
       · have P:=gg (bu.o.trans (if_neg ay))
         have bc:=gg ay;clear ay
         go_wp2_with fail
         refine(FD _ _ _ _ _ _ _ _ _ _ _ _ _ M F.o k f_ (by have:=bt.o;omega) false (by simpa using bc.o)).mono ?_
         rintro e w7 ⟨rfl,ad⟩;have aC:=gg (mH au.o ad D);have aO:=gg (F.o.below ad);have bR:=gg (gk ad Y.o);have bC:=gg (gk ad az.o);clear ad q d t m f e0 e1 e2 e3 g aQ d9 d7;go_upto_region 25 with(fail)
         obtain⟨q,d,t,m⟩:=kM bR.o;obtain⟨O,j,s,k3,L,I,K,G,J⟩:=gU aO.o.at_;have i:=gn aO.o.at_;have f:=gn bR.o;obtain⟨bJ,_,_,l,an,aI,_,ai⟩:=aO.o.parts.hart HG.o.regs V.o;injection l with l _ _
         injection l with l
         injection l with l
         subst l;rw[←aV.o] at j;have al:=gn bC.o;have x1:=fun x=>gD i j x
         have C:=fun x=>gD f d x
         have R0:gi (∀ w':World,(∃ x:Wd w7,w'=x.val)→(loadVar 56 ⟨bh,0,none⟩).run gd w' = .ok (e_ (hA v)) w'):=gg (by
          rintro w' ⟨x,rfl⟩;exact run_loadVar_row _ _ 56 56 (hA v) (0,0) _ (iE x.bel al bC.o) Tryz.underlying56 rfl (ii aa))
         have aL:=gg ai;have aj:=gg an;clear O j s k3 L I K G J q d t m an ai;refine ov 9 ga ga ?_
         simp only[List.take_succ_cons,List.take_zero,List.drop_succ_cons,List.drop_zero]
         iterate 7 (go_big_quiet_step (fail))
         go_big_quiet_want
         refine kY 56 _ ⟨bh,0,none⟩ (e_ (hA v)) rfl rfl R0.o ?_
         simp only[Act.put,fU,fV,fW]
         go_big_quiet_on
         repeat(go_big_quiet_step (fail))
         refine wpQuiet_nil ?_
         rintro wz ⟨⟨bP,U⟩,rfl⟩;have aA:=gg (aO.o.below U);have aG:=gg (vi aL.o aj.o (gk U aj.o));have aD:=gg (mH aC.o U D);clear U x1 C R0 i f al
         go_wp2_with (refine wpList_store_mid rfl 56 _ _ rfl gh (k*39) (hA v) rfl rfl (by rw[aa];exact aG.o) (by rw[aa];exact uS) (jU v) ?_)
         go_ret;rw[P.o];exact⟨rfl,rx aI _ _ aD.o,fun _=>⟨_,_,_,_,_,_,_,_,_,_,aA.o.setHart HG.o.regs rfl V.o hl⟩⟩
     have d6:(y == 6)=false:=by simpa using h6
     by_cases h5:1≤y∧y≤5
     · have P:=gg (aM.o.trans ((if_neg h9).trans ((if_neg h7).trans ((if_neg h6).trans (if_pos h5)))))
       obtain⟨q,d,t,m⟩:=kM Y.o;have f:=gn Y.o;have bW:B≤w6.heap.size:=fO D au.o.size;have b6:=gn az.o;have H5:=gg h5;rcases(by omega:y=1∨y=2∨y=3∨y=4∨y=5) with rfl|rfl|rfl|rfl|rfl
       all_goals
        clear h5 h6 h7 h9 d6 d7 d9
        go_wp2_with (refine wpList_load_row rfl 56 _ rfl bh rfl 56 (hA v) (0,0) _ az.o Tryz.underlying56 rfl (ii aa) ?_)
        refine(LN _ B p _ _ _ _ _ _ _ _ _ qs M H N F.o a4.o HG.o hN bW k V.o v hl ⟨_,ed,aS,en,eo⟩ H5.o).mono ?_
        rintro e w7 ⟨rfl,ad,bx⟩;have aC:=gg (au.o.trans ad);have bK:=gg bx;clear ad bx q d t m e0 e1 e2 e3 g;rw[←P.o] at bK ⊢
        go_wp2
        go_ret;exact⟨rfl,aC.o,bK.o⟩
     have P:=gg (aM.o.trans ((if_neg h9).trans ((if_neg h7).trans ((if_neg h6).trans (if_neg h5)))));have t1:(y == 1)=false:=by simp;omega
     have t2:(y == 2)=false:=by simp;omega
     have t3:(y == 3)=false:=by simp;omega
     have t4:(y == 4)=false:=by simp;omega
     have t5:(y == 5)=false:=by simp;omega
     go_upto_region 25 with(fail)
     clear e0 e1 e2 e3 g aQ d9 d7 d6 t1 t2 t3 t4 t5 h9 h7 h6 h5;obtain⟨q,d,t,m⟩:=kM Y.o;obtain⟨O,j,s,k3,L,I,K,G,J⟩:=gU F.o.at_;have i:=gn F.o.at_;have f:=gn Y.o;obtain⟨bJ,_,_,l,an,aI,_,ai⟩:=F.o.parts.hart HG.o.regs V.o;injection l with l _ _
     injection l with l
     injection l with l
     subst l;rw[←aV.o] at j;have al:=gn az.o;have x1:=fun x=>gD i j x
     have C:=fun x=>gD f d x
     have R0:gi (∀ w':World,(∃ x:Wd w6,w'=x.val)→(loadVar 56 ⟨bh,0,none⟩).run gd w' = .ok (e_ (hA v)) w'):=gg (by
      rintro w' ⟨x,rfl⟩;exact run_loadVar_row _ _ 56 56 (hA v) (0,0) _ (iE x.bel al az.o) Tryz.underlying56 rfl (ii aa))
     have aL:=gg ai;have aj:=gg an;clear O j s k3 L I K G J q d t m an ai;refine ov 9 ga ga ?_
     simp only[List.take_succ_cons,List.take_zero,List.drop_succ_cons,List.drop_zero]
     iterate 7 (go_big_quiet_step (fail))
     go_big_quiet_want
     refine kY 56 _ ⟨bh,0,none⟩ (e_ (hA v)) rfl rfl R0.o ?_
     simp only[Act.put,fU,fV,fW]
     go_big_quiet_on
     repeat(go_big_quiet_step (fail))
     refine wpQuiet_nil ?_
     rintro wz ⟨⟨bP,U⟩,rfl⟩;have aA:=gg (F.o.below U);have aG:=gg (vi aL.o aj.o (gk U aj.o));have aD:=gg (mH au.o U D);clear U x1 C R0 i f al
     go_wp2_with (refine wpList_store_mid rfl 56 _ _ rfl gh (k*39) (hA v) rfl rfl (by rw[aa];exact aG.o) (by rw[aa];exact uS) (jU v) ?_)
     go_ret;rw[P.o];exact⟨rfl,rx aI _ _ aD.o,fun _=>⟨_,_,_,_,_,_,_,_,_,_,aA.o.setHart HG.o.regs rfl V.o hl⟩⟩
theorem Gm:gd.underlying 93=some (.map 3 90):=by kernel_rfl
theorem FO e k (w):(Instr.checkKey e 10000 3 (b_ c_ k)).run gd w = .ok () w:=by cases e <;> kernel_rfl
theorem uV (w):(zeroValue 90).run gd w = .ok .nilFunc w:=by kernel_rfl
abbrev ME (k:Int) (f a:Nat):MapEntry:=⟨b_ c_ k,.func (.func f) #[] #[],a⟩
theorem D4 {w} {b c f:Nat} {a} (k) (d:w.heap[b]? = some (.map a c)) (e:∀ w:World,(Instr.findKey 3 (b_ c_ k) a.toList).run gd w = .ok none w) :
 (Instr.mapUpdate 93 (.map (some b)) (b_ c_ k) (.func (.func f) #[] #[])).run gd w = .ok () (ChangeMaps.setBlock w b (.map (a.push (ME k f c)) (c+1))):=by
 simp[Instr.mapUpdate,Sem.run_bind,run_underlying Gm,MapKept.run_getObj_map d,FO,e,MapKept.run_setObj_map _ d,ChangeMaps.setBlock,Result.andThen]
theorem Iu {w:World} {b e:Nat} {a:Array MapEntry} (k) (d:w.heap[b]? = some (.map a e)) (r:Option (Nat×Value)) (c:∀ w:World,(Instr.findKey 3 (b_ c_ k) a.toList).run gd w = .ok r w) :
 (Instr.lookup 93 (.map (some b)) (b_ c_ k) true).run gd w = .ok (fI #[(r.map (·.2)).getD .nilFunc,fJ r.isSome]) w:=by
 cases r with
 | none=>simp[Instr.lookup,Sem.run_bind,run_underlying Gm,MapKept.run_getObj_map d,FO,c,uV,Result.andThen]
 | some x=>simp[Instr.lookup,Sem.run_bind,run_underlying Gm,MapKept.run_getObj_map d,FO,c,Result.andThen]
theorem yM {P b rest o a w w1} {Q:Exit→Act→World→Prop} (g:o.guard=none) t m k v (i:o.op = .insert t m k v) {mv kv vv} (e:a.eval m=mv) (f:a.eval k=kv) (c:a.eval v=vv)
 (j:(Instr.mapUpdate t mv kv vv).run P w = .ok () w1) (h:wpList P b Q rest (a.put o.dst undef) w1):wpList P b Q (o :: rest) a w:=
 wpList_plain g fun _ d=>by
  unfold Oper.wp execOp;simp only[i,e,f,c,Sem.run_bind,j,Result.andThen_ok];exact d _ _ h
theorem Hn {P b rest o a w v} {Q:Exit→Act→World→Prop} (f:o.guard=none) t m k (g:o.op = .lookup t m k true) {mv kv} (d:a.eval m=mv) (e:a.eval k=kv)
 (i:(Instr.lookup t mv kv true).run P w = .ok v w) (h:wpList P b Q rest (a.put o.dst v) w):wpList P b Q (o :: rest) a w:=
 wpList_plain f fun _ c=>by
  unfold Oper.wp execOp;simp only[g,d,e,Sem.run_bind,i,Result.andThen_ok];exact c _ _ h
def mw:Nat→Array MapEntry
 | 0=>#[]
 | 1=>#[ME 1 41 0]
 | 2=>#[ME 1 41 0,ME 2 42 1]
 | 3=>#[ME 1 41 0,ME 2 42 1,ME 3 43 2]
 | 4=>#[ME 1 41 0,ME 2 42 1,ME 3 43 2,ME 4 44 3]
 | _=>#[ME 1 41 0,ME 2 42 1,ME 3 43 2,ME 4 44 3,ME 5 45 4]
theorem zz (w):(Instr.findKey 3 (b_ c_ 1) (mw 0).toList).run gd w = .ok none w:=by kernel_rfl
theorem zC (w):(Instr.findKey 3 (b_ c_ 2) (mw 1).toList).run gd w = .ok none w:=by kernel_rfl
theorem zD (w):(Instr.findKey 3 (b_ c_ 3) (mw 2).toList).run gd w = .ok none w:=by kernel_rfl
theorem zE (w):(Instr.findKey 3 (b_ c_ 4) (mw 3).toList).run gd w = .ok none w:=by kernel_rfl
theorem zF (w):(Instr.findKey 3 (b_ c_ 5) (mw 4).toList).run gd w = .ok none w:=by kernel_rfl
theorem Cb (w):(Instr.findKey 3 (b_ c_ 1) (mw 5).toList).run gd w = .ok (some (0,.func (.func 41) #[] #[])) w:=by kernel_rfl
theorem Cc (w):(Instr.findKey 3 (b_ c_ 2) (mw 5).toList).run gd w = .ok (some (1,.func (.func 42) #[] #[])) w:=by kernel_rfl
theorem Cd (w):(Instr.findKey 3 (b_ c_ 3) (mw 5).toList).run gd w = .ok (some (2,.func (.func 43) #[] #[])) w:=by kernel_rfl
theorem Ce (w):(Instr.findKey 3 (b_ c_ 4) (mw 5).toList).run gd w = .ok (some (3,.func (.func 44) #[] #[])) w:=by kernel_rfl
theorem Cf (w):(Instr.findKey 3 (b_ c_ 5) (mw 5).toList).run gd w = .ok (some (4,.func (.func 45) #[] #[])) w:=by kernel_rfl
theorem AK:gd.underlying 3=some (.int .i64):=by kernel_rfl
theorem zG k (h:k≠1∧k≠2∧k≠3∧k≠4∧k≠5) (w):(Instr.findKey 3 (b_ c_ k) (mw 5).toList).run gd w = .ok none w:=by
 have b:(k == 1)=false:=by simp[h.1]
 have c:(k == 2)=false:=by simp[h.2.1]
 have e:(k == 3)=false:=by simp[h.2.2.1]
 have f:(k == 4)=false:=by simp[h.2.2.2.1]
 have d:(k == 5)=false:=by simp[h.2.2.2.2]
 simp only[mw]
 have a:Instr.findNow (.int .i64) (b_ c_ k) (mw 5).toList 0=some none:=by
  simp only[mw,Instr.findNow,Instr.sameNow,if_true,b,c,e,f,d]
 simp only[mw] at a;simp[Instr.findKey,Sem.run_bind,run_underlying AK,a,Result.andThen]
def ma (w:World) (b:Nat):Nat→World
 | 0=>w
 | n+1=>ChangeMaps.setBlock (ma w b n) b (.map (mw (n+1)) (n+1))
theorem Gt {w b} (a:b<w.heap.size) (h0:w.heap[b]? = some (.map #[] 0)):∀ n,(ma w b n).heap[b]? = some (.map (mw n) n)∧(ma w b n).heap.size=w.heap.size
 | 0=>⟨h0,rfl⟩
 |
  n+1=>by
  have:=Gt a h0 n;refine⟨?_,by simp[ma,ChangeMaps.setBlock,this.2]⟩;simp only[ma,ChangeMaps.setBlock];rw[Array.getElem?_setIfInBounds_self_of_lt (by rw[this.2];exact a)]
theorem IB w (b):∀ n g,g≠b→(ma w b n).heap[g]? = w.heap[g]?
 | 0,_,_=>rfl
 |
  n+1,g,hg=>by
  simp only[ma,ChangeMaps.setBlock];rw[Array.getElem?_setIfInBounds_ne f_];exact IB w b n g hg
theorem Hl {w b a B} (h:Below B a w) (d:B≤b):∀ n,Below B a (ma w b n)
 | 0=>h
 |
  n+1=>by
  have:=Hl h d n;exact { os:=this.os,tape:=this.tape,output:=this.output,size:=by have:=this.size;simp only[ma,ChangeMaps.setBlock,Array.size_setIfInBounds];exact this,block:=fun g c=>by simp only[ma,ChangeMaps.setBlock];rw[Array.getElem?_setIfInBounds_ne f_];exact this.block g c }
theorem ql w2 (b) (c:w2.heap[b]? = some (.map #[] 0)):∃ u1 u2 u3 u4 u5:World,(Instr.mapUpdate 93 (.map (some b)) (b_ c_ 1) (.func (.func 41) #[] #[])).run gd w2 = .ok () u1∧(Instr.mapUpdate 93 (.map (some b)) (b_ c_ 2) (.func (.func 42) #[] #[])).run gd u1 = .ok () u2∧(Instr.mapUpdate 93 (.map (some b)) (b_ c_ 3) (.func (.func 43) #[] #[])).run gd u2 = .ok () u3∧(Instr.mapUpdate 93 (.map (some b)) (b_ c_ 4) (.func (.func 44) #[] #[])).run gd u3 = .ok () u4∧(Instr.mapUpdate 93 (.map (some b)) (b_ c_ 5) (.func (.func 45) #[] #[])).run gd u4 = .ok () u5∧u5.heap[b]? = some (.map (mw 5) 5)∧(∀ g,g≠b→u5.heap[g]? = w2.heap[g]?)∧u5.heap.size=w2.heap.size∧(∀ B a,Below B a w2→B≤b→Below B a u5):=by
 have d:=gn c;have A:=fun n=>(Gt d c n).1
 refine⟨ma w2 b 1,ma w2 b 2,ma w2 b 3,ma w2 b 4,ma w2 b 5,?_,?_,?_,?_,?_,A 5,fun g i=>IB w2 b 5 g i,(Gt d c 5).2,fun B a h j=>Hl h j 5⟩
 · have e:(mw 0).push (ME 1 41 0)=mw 1:=by kernel_rfl
   have r:=D4 (f:=41) 1 (A 0) zz;rw[e] at r;exact r
 · have e:(mw 1).push (ME 2 42 1)=mw 2:=by kernel_rfl
   have r:=D4 (f:=42) 2 (A 1) zC;rw[e] at r;exact r
 · have e:(mw 2).push (ME 3 43 2)=mw 3:=by kernel_rfl
   have r:=D4 (f:=43) 3 (A 2) zD;rw[e] at r;exact r
 · have e:(mw 3).push (ME 4 44 3)=mw 4:=by kernel_rfl
   have r:=D4 (f:=44) 4 (A 3) zE;rw[e] at r;exact r
 · have e:(mw 4).push (ME 5 45 4)=mw 5:=by kernel_rfl
   have r:=D4 (f:=45) 5 (A 4) zF;rw[e] at r;exact r
theorem KV M i h e (a):(uY M i h e a).2≠0→(uY M i h e a).1=jX:=by
 unfold uY;split
 · intro h;exact absurd rfl h
 · intro _;rfl
theorem Kh M i h e (d g):(pG M i h e d g).2≠0→(pG M i h e d g).1=jX:=by
 unfold pG;repeat' split
 all_goals first|(intro h;exact absurd rfl h)|(intro _;rfl)
theorem LO M i h (e):(uR M i h e).2≠0→(uR M i h e).1=jX:=by
 unfold uR;split
 · exact KV _ _ _ _ _
 · split
   · exact Kh _ _ _ _ _ _
   · intro h;exact absurd rfl h
theorem zu M i (r):(lZ M i r).2≠0→(lZ M i r).1=jX:=by
 unfold lZ;repeat' split
 all_goals first|exact LO _ _ _ _|(intro h;exact absurd rfl h)|(intro _;rfl)
theorem qO M (i):(oe M i).2≠0→(oe M i).1=jX:=by
 unfold oe;repeat' split
 all_goals first|exact zu _ _ _|(intro h;exact absurd rfl h)|(intro _;rfl)
theorem Jc M (i k):(pK M i k).2≠0→(pK M i k).1=jX:=by
 unfold pK;repeat' split
 all_goals first|(intro h;exact absurd rfl h)|(intro _;rfl)
theorem Jb M (k):(uQ M k).2≠0→(uQ M k).1=jX:=by
 unfold uQ;split
 · intro h;exact absurd rfl h
 · intro _;rfl
theorem qT M (i):(oC M i).2≠0→(oC M i).1=jX:=by
 unfold oC;repeat' split
 all_goals first|(intro h;exact absurd rfl h)|(intro _;rfl)
theorem I0 M (d n):(tJ M d n).2≠0→(tJ M d n).1=jX:=by
 unfold tJ;split
 · intro h;exact absurd rfl h
 · intro _;rfl
theorem Hm {P c rest o a w w2 b} {Q:Exit→Act→World→Prop} (f:o.guard=none) t (i:o.op = .makeMap t none) (g:b=w.heap.size) (d:w2=w.alloc (.map #[] 0))
 (h:wpList P c Q rest (a.put o.dst (.map (some b))) w2):wpList P c Q (o :: rest) a w:=
 wpList_plain f fun _ e=>by
  subst g d;unfold Oper.wp execOp;simp only[i,Option.map_none,run_makeMap,Result.andThen_ok];exact e _ _ h
def pF (w:World) (r:i8×Int) (e:Ending) (w':World):Prop:=∃ a,e =fH (fI #[a,b_ c_ r.2])∧gJ w' a r.1∧Up w w'
abbrev gq:Array Value:=#[a_ none 0 0,a_ none 0 0,a_ none 0 0,a_ none 0 0,a_ none 0 0,a_ none 0 0,a_ none 0 0,a_ none 0 0,a_ none 0 0]
theorem Gp {i:Nat} {v} (h:gq[i]? = some v):v =a_ none 0 0:=by
 have a:i<9:=by
  have:=(Array.getElem?_eq_some_iff.1 h).1
  simpa[gq] using this
 match i,a with
 | 0,_=>simpa[gq] using h.symm
 | 1,_=>simpa[gq] using h.symm
 | 2,_=>simpa[gq] using h.symm
 | 3,_=>simpa[gq] using h.symm
 | 4,_=>simpa[gq] using h.symm
 | 5,_=>simpa[gq] using h.symm
 | 6,_=>simpa[gq] using h.symm
 | 7,_=>simpa[gq] using h.symm
 | 8,_=>simpa[gq] using h.symm
theorem je:(gd.info? 37).map (·.size)=some 9:=by kernel_rfl
theorem GQ {w v M} (h:gJ w v M):∃ B x j c l G e H u d n t m A y F I C L p K z O i E q o,v =e_ #[a_ B x j,a_ c l G,a_ e H u,a_ d n t,a_ m A y,a_ F I C,a_ L p K,a_ z O i,a_ E q o]:=by
 obtain⟨R,U,Q,P,g,N,W,T,V,S,rfl,a⟩:=h;obtain⟨_,_,rfl⟩:=gN a.words;obtain⟨_,_,rfl⟩:=gN a.harts;obtain⟨_,_,rfl⟩:=gN a.ends;obtain⟨_,_,rfl⟩:=gN a.devs;obtain⟨_,_,rfl⟩:=gN a.lines;obtain⟨_,_,rfl⟩:=gN a.trace;obtain⟨c,k,J,e,s,f,d,D,r,b⟩:=AR a.mem;injection b with b
 have f1:P =a_ c k J:=by have:=congrArg (·[0]?) b;simpa using this
 have f2:g =a_ e s f:=by have:=congrArg (·[1]?) b;simpa using this
 have f3:N =a_ d D r:=by have:=congrArg (·[2]?) b;simpa using this
 subst f1 f2 f3;exact⟨_,_,_,_,_,_,_,_,_,_,_,_,_,_,_,_,_,_,_,_,_,_,_,_,_,_,_,rfl⟩
theorem Ae {k b m s p r A t G e x H F j f q u l y B w g E d o C z} {i:Nat} {v} (h:(#[a_ k b m,a_ s p r,a_ A t G,a_ e x H,a_ F j f,a_ q u l,a_ y B w,a_ g E d,a_ o C z]:Array Value)[i]? = some v):∃ a n c,v =a_ a n c:=by
 have D:i<9:=by
  have:=(Array.getElem?_eq_some_iff.1 h).1
  simpa using this
 match i,D with
 | 0,_=>exact⟨_,_,_,by simpa using h.symm⟩
 | 1,_=>exact⟨_,_,_,by simpa using h.symm⟩
 | 2,_=>exact⟨_,_,_,by simpa using h.symm⟩
 | 3,_=>exact⟨_,_,_,by simpa using h.symm⟩
 | 4,_=>exact⟨_,_,_,by simpa using h.symm⟩
 | 5,_=>exact⟨_,_,_,by simpa using h.symm⟩
 | 6,_=>exact⟨_,_,_,by simpa using h.symm⟩
 | 7,_=>exact⟨_,_,_,by simpa using h.symm⟩
 | 8,_=>exact⟨_,_,_,by simpa using h.symm⟩
theorem qt {w w' b cs} (K:og b w w') (x:w.heap[b]? = some (d_ cs 37 (0,0))) (l:∀ (i:Nat) (v:Value),cs[i]? = some v → ∃ a n c,v=a_ a n c) {s} {q} (h:gl w 1 s.q.length q (qL s)):gl w' 1 s.q.length q (qL s):=by
 refine⟨h.1,h.2.1,?_⟩;rcases h.2.2 with h|⟨g,o,c,rfl,y,t,p,r⟩
 · exact .inl h
 · refine .inr ⟨g,o,c,rfl,fN y K.1,t,p,fun j u k=>?_⟩
   have d:=r j u k;by_cases e:g=b
   · subst e
     simp only[World.cell?,x] at d;obtain⟨_,_,_,this⟩:=l (o+j) u (by simpa using d);have m:u∈qL s:=List.mem_of_getElem? k;obtain⟨z,_,f⟩:=List.mem_map.1 m;rw[this] at f;cases f
   · rw[←d]
     simp only[World.cell?,K.2 g e]
theorem gJ.row9 {w v M} (h:gJ w v M) {b cs cs'} (d:w.heap[b]? = some (d_ cs 37 (0,0))) (g:∀ (i:Nat) (v:Value),cs[i]? = some v → ∃ a n c,v=a_ a n c):gJ (w.setRow b cs') v M:=by
 obtain⟨m,f,j,t,e,r,l,p,k,o,rfl,h⟩:=h;have K:=BL w b cs'
 exact⟨m,f,j,t,e,r,l,p,k,o,rfl,iG h.words K (gS h.words d fZ),iG h.harts K (gS h.harts d fZ),iG h.ends K (gS h.ends d fZ),yC h.mem K d fZ fZ,iG h.devs K (gS h.devs d fZ),
  ⟨h.ques.1,fun i q s h1 h2=>qt K d g (h.ques.2 i q s h1 h2)⟩,iG h.lines K (gS h.lines d fZ),iG h.trace K (gS h.trace d fZ)⟩
structure kw (cs:Array Value):Prop where
 size:cs.size=9
 all:∀ (i:Nat) (v:Value),cs[i]? = some v → ∃ a n c,v=a_ a n c
theorem kw.one {cs:Array Value} (h:kw cs):cs.all (·.oneCell')=true:=by
 rw[Array.all_eq_true];intro i b;obtain⟨a,n,c,e⟩:=h.all i cs[i] (Array.getElem?_eq_getElem b);rw[e];rfl
theorem mj:kw gq:=⟨rfl,fun i v h=>⟨none,0,0,Gp h⟩⟩
theorem kw.info {cs:Array Value} (h:kw cs):(gd.info? 37).map (·.size)=some cs.size:=by rw[h.size];exact je
theorem oR {w v M} (h:gJ w v M):∃ cs,v =e_ cs∧kw cs:=by
 obtain⟨g,a,j,n,l,o,y,p,D,c,t,C,s,f,d,m,q,i,x,z,r,e,B,b,k,A,u,rfl⟩:=GQ h;exact⟨_,rfl,rfl,fun _ _=>Ae⟩
theorem im {P:Program} {fn} {p q:Tmp} {ty:TypeId} (h:fn.results = #[.cell p ty,.tmp q]) (tmps:Array Value) (w:World) g t (cs:Array Value) (fr:Nat×Nat) (d)
 (f:tmps.getD p undef = fG (some ⟨g,0,none⟩)) (a:w.heap[g]? = some (d_ cs t fr)) {v} (c:tmps.getD q undef=v)
 (j:P.underlying ty=some d) (b:(match d with|.struct _|.array _ _=>true|_=>false)=true) (k:(P.info? ty).map (·.size)=some cs.size) :
 (results fn tmps).run P w = .ok (fI #[e_ cs,v]) w:=by
 have e:tmps[p]?.getD undef = fG (some ⟨g,0,none⟩):=by simpa using f
 have i:tmps[q]?.getD undef=v:=by simpa using c
 simp[results,h,e,i,asAddr,run_loadVar_row w g t ty cs fr d a j b k]
theorem nK v M H N w a r t E (fn:Nat) R x (hm:gJ w v M) (hg:gF M H N) (hN:N≤100000) (ap:R.2≠0→R.1=jX)
 (an:∀ w:World,(Instr.findKey 3 (b_ c_ a) (mw 5).toList).run gd w = .ok (some (x,.func (.func fn) #[] #[])) w)
 (aw:∀ (args:Array Value) (w:World),(callFunc fn args).run gd w = .ok (.enter fn args) w)
 (am:∀ (d:World) (B p:Nat) (K hv X m1 m2 U dv lv tv:Value) (qs:List Value),iV d B p K hv X m1 m2 U dv lv tv qs M→rF K X m1 U→B≤d.heap.size→Calls gd fn #[fG (some ⟨p,0,none⟩),e_ #[b_ c_ a,b_ c_ r,b_ c_ t,b_ c_ E]] d (jf B p d R)) :
 Calls gd 17 #[v,e_ #[b_ c_ a,b_ c_ r,b_ c_ t,b_ c_ E]] w (pF w R):=by
 obtain⟨S,rfl,vn⟩:=oR hm;have ar:=gg hm;have HG:=gg hg;have ac:=gg ap;have ag:=gg am;obtain⟨w1,Q,I,F,C,u⟩:=Fs w (d_ S 37) (d_ #[b_ c_ a,b_ c_ r,b_ c_ t,b_ c_ E] 28) (d_ gq 37);obtain⟨b,m⟩:∃ b,b=w1.heap.size:=⟨_,rfl⟩;obtain⟨w2,c⟩:∃ x,x=w1.alloc (.map #[] 0):=⟨_,rfl⟩;have D:w2.heap[b]? = some (.map #[] 0):=by rw[c,m];exact gH w1 _
 have ao:=gn D;obtain⟨u1,u2,u3,u4,u5,Y,P,g3,L,g5,T,k,SZ,BB⟩:=ql w2 b D;have H1:=gg Y;have H2:=gg P;have H3:=gg g3;have H4:=gg L;have H5:=gg g5;have HL:gi ((Instr.lookup 93 (.map (some b)) (b_ c_ a) true).run gd u5 = .ok (fI #[.func (.func fn) #[] #[],fJ true]) u5):=gg (Iu a T _ an);have aj:Up w w2:=by rw[c];exact gj u (gr w1 _)
 have ad:=gk (show Up w1 w2 by rw[c];exact gr w1 _) I;have o:=gk (show Up w1 w2 by rw[c];exact gr w1 _) F;have Z:=gk (show Up w1 w2 by rw[c];exact gr w1 _) C;have n0:=gn I;have n1:=gn F;have n2:=gn C;have y:=(k (w.heap.size+1) f_).trans o;have Y0:=(kM y).1;have ai:=gn y;have HX:=gg ((k w.heap.size f_).trans ad);have HY:=gg ((k (w.heap.size+1) f_).trans o);have HZ:=gg ((k (w.heap.size+2) f_).trans Z);have V:Up w u5:=BB _ _ aj (by rw[m];exact u.size);have J:=gg V;have aq:=gg m;have ah:=gg c;clear I F C u ad o Z V k T BB SZ Y P g3 L g5 D ao m c y;go_in;go_upto_region 1 with(fail)
 rw[←Q];clear Q;go_upto_region 2 with(first|(refine Hm rfl 93 rfl aq.o ah.o ?_)|(refine yM (w1:=u1) (mv:=.map (some b)) (kv:=b_ c_ 1) (vv:=.func (.func 41) #[] #[]) rfl 93 _ _ _ rfl rfl rfl rfl H1.o ?_)|(refine yM (w1:=u2) (mv:=.map (some b)) (kv:=b_ c_ 2) (vv:=.func (.func 42) #[] #[]) rfl 93 _ _ _ rfl rfl rfl rfl H2.o ?_)|(refine yM (w1:=u3) (mv:=.map (some b)) (kv:=b_ c_ 3) (vv:=.func (.func 43) #[] #[]) rfl 93 _ _ _ rfl rfl rfl rfl H3.o ?_)|(refine yM (w1:=u4) (mv:=.map (some b)) (kv:=b_ c_ 4) (vv:=.func (.func 44) #[] #[]) rfl 93 _ _ _ rfl rfl rfl rfl H4.o ?_)|(refine yM (w1:=u5) (mv:=.map (some b)) (kv:=b_ c_ 5) (vv:=.func (.func 45) #[] #[]) rfl 93 _ _ _ rfl rfl rfl rfl H5.o ?_))
 go_upto_region 3 with(refine Hn (mv:=.map (some b)) (kv:=b_ c_ a) rfl 93 _ _ rfl rfl rfl HL.o ?_)
 go_wp2_with (refine wpList_load_row rfl 37 _ rfl w.heap.size rfl 37 S (0,0) _ HX.o Tryz.underlying37 rfl vn.info ?_)
 refine(wY _ M H N _ (ar.o.below J.o) HG.o hN).mono ?_
 rintro e d ⟨p,av,aA,ay,az,ax,aC,dv',aB,tv',au,rfl,ab,O,i⟩;have HC:=gg (ag.o d u5.heap.size p _ _ _ _ _ _ _ _ _ _ ab O i.size);have aa:=gg (gk i HY.o);have ae:=gg (gk i HZ.o);have ak:=gg (gj J.o i);obtain⟨c0,c1,c2,c3⟩:=kM aa.o;have al:=gn aa.o;clear ab O i Y0 ai
 go_wp2_with fail
 refine HC.o.mono ?_
 rintro e j ⟨rfl,A,f⟩;have l:gi (j.heap[w.heap.size+2]? = some (d_ gq 37 (0,0))):=gg ((A.block _ (by have:=gn HZ.o;exact this)).trans ae.o);have W:gi (Up w j):=gg (ak.o.trans (A.mono J.o.size));clear c0 c1 c2 c3 al A;obtain⟨M',G⟩:=R;simp only at f ac ⊢
 by_cases h0:G=0
 · subst h0
   obtain⟨W1,W2,W3,W4,W5,W6,W7,W8,W9,QS,f⟩:=f rfl;have n:=f.isMac;have s:=f.at_;obtain⟨cs,g,h⟩:=oR n;rw[g] at n;injection g with g
   rw[g] at s;have af:=gg s;have q:=gg (n.row9 (cs':=cs) l.o mj.all);have z:gi ((j.setRow (w.heap.size+1+1) cs).heap[w.heap.size+1+1]? = some (d_ cs 37 (0,0))):=gg (setRow_heap _ _ _ _ _ _ l.o);clear f s n g
   go_wp2_with (first|(refine wpList_store_row rfl 37 _ _ rfl (w.heap.size+1+1) cs rfl rfl 37 gq l.o h.info (by rw[h.size];rfl) h.one ?_)|(refine wpList_load_row rfl 37 _ rfl p rfl 97 cs (0,0) _ af.o Tryz.underlying37 rfl h.info ?_))
   exact bodyPost_ret (v:=fI #[e_ cs,b_ c_ 0]) (im rfl _ _ (w.heap.size+1+1) _ cs _ _ rfl z.o rfl Tryz.underlying37 rfl h.info) rfl ⟨_,rfl,q.o,below_setRow W.o f_ _⟩
 · have d0:(G != 0)=true:=by simp[h0]
   have q:gi (gJ (j.setRow (w.heap.size+1+1) gq) (e_ gq) M'):=gg (by rw[ac.o h0];exact iz _);have z:gi ((j.setRow (w.heap.size+1+1) gq).heap[w.heap.size+1+1]? = some (d_ gq 37 (0,0))):=gg (setRow_heap _ _ _ _ _ _ l.o)
   go_wp2_with (refine wpList_store_row rfl 37 _ _ rfl (w.heap.size+1+1) gq rfl rfl 37 gq l.o je rfl mj.one ?_)
   exact bodyPost_ret (v:=fI #[e_ gq,b_ c_ G]) (im rfl _ _ (w.heap.size+1+1) _ gq _ _ rfl z.o rfl Tryz.underlying37 rfl je) rfl ⟨_,rfl,(by first|exact q.o|exact iz _),below_setRow W.o f_ _⟩
theorem Fi v M w c (T:gJ w v M) (q:c.k≠1∧c.k≠2∧c.k≠3∧c.k≠4∧c.k≠5) :
 Calls gd 17 #[v,cV c] w (pF w (jX,1)):=by
 obtain⟨P,rfl,vn⟩:=oR T;obtain⟨d,L,N,J⟩:=c;simp only at q;unfold cV;simp only;obtain⟨w1,u,m,j,l,h⟩:=Fs w (d_ P 37) (d_ #[b_ c_ d,b_ c_ L,b_ c_ N,b_ c_ J] 28) (d_ gq 37);obtain⟨b,f⟩:∃ b,b=w1.heap.size:=⟨_,rfl⟩;obtain⟨w2,a⟩:∃ x,x=w1.alloc (.map #[] 0):=⟨_,rfl⟩;have n:w2.heap[b]? = some (.map #[] 0):=by rw[a,f];exact gH w1 _
 have K:=gn n;obtain⟨u1,u2,u3,u4,u5,o,t,s,r,A,C,e,W,y⟩:=ql w2 b n;have E:=gg o;have O:=gg t;have F:=gg s;have V:=gg r;have H:=gg A;have U:gi ((Instr.lookup 93 (.map (some b)) (b_ c_ d) true).run gd u5 = .ok (fI #[.nilFunc,fJ false]) u5):=gg (Iu d C _ (zG d q));have I:Up w w2:=by rw[a];exact gj h (gr w1 _)
 have B:=gk (show Up w1 w2 by rw[a];exact gr w1 _) m;have g:=gk (show Up w1 w2 by rw[a];exact gr w1 _) j;have p:=gk (show Up w1 w2 by rw[a];exact gr w1 _) l;have n0:=gn m;have Z:=gn j;have n2:=gn l;have i:=(e (w.heap.size+1) f_).trans g;have R:=(kM i).1;have X:=gn i;have HX:=gg ((e w.heap.size f_).trans B);have HY:=gg ((e (w.heap.size+1) f_).trans g);have z:=gg ((e (w.heap.size+2) f_).trans p);have D:Up w u5:=y _ _ I (by rw[f];exact h.size);have Y:=gg D;have S:=gg f;have G:=gg a;clear m j l h B g p D e C y W o t s r A n K f a i;go_in;go_upto_region 1 with(fail)
 rw[←u];clear u;go_upto_region 2 with(first|(refine Hm rfl 93 rfl S.o G.o ?_)|(refine yM (w1:=u1) (mv:=.map (some b)) (kv:=b_ c_ 1) (vv:=.func (.func 41) #[] #[]) rfl 93 _ _ _ rfl rfl rfl rfl E.o ?_)|(refine yM (w1:=u2) (mv:=.map (some b)) (kv:=b_ c_ 2) (vv:=.func (.func 42) #[] #[]) rfl 93 _ _ _ rfl rfl rfl rfl O.o ?_)|(refine yM (w1:=u3) (mv:=.map (some b)) (kv:=b_ c_ 3) (vv:=.func (.func 43) #[] #[]) rfl 93 _ _ _ rfl rfl rfl rfl F.o ?_)|(refine yM (w1:=u4) (mv:=.map (some b)) (kv:=b_ c_ 4) (vv:=.func (.func 44) #[] #[]) rfl 93 _ _ _ rfl rfl rfl rfl V.o ?_)|(refine yM (w1:=u5) (mv:=.map (some b)) (kv:=b_ c_ 5) (vv:=.func (.func 45) #[] #[]) rfl 93 _ _ _ rfl rfl rfl rfl H.o ?_))
 go_upto_region 3 with(refine Hn (mv:=.map (some b)) (kv:=b_ c_ d) rfl 93 _ _ rfl rfl rfl U.o ?_)
 have Q:gi ((u5.setRow (w.heap.size+1+1) gq).heap[w.heap.size+1+1]? = some (d_ gq 37 (0,0))):=gg (setRow_heap _ _ _ _ _ _ z.o);clear R X
 go_wp2_with (refine wpList_store_row rfl 37 _ _ rfl (w.heap.size+1+1) gq rfl rfl 37 gq z.o je rfl mj.one ?_)
 exact bodyPost_ret (v:=fI #[e_ gq,b_ c_ 1]) (im rfl _ _ (w.heap.size+1+1) _ gq _ _ rfl Q.o rfl Tryz.underlying37 rfl je) rfl ⟨_,rfl,iz _,below_setRow Y.o f_ _⟩
theorem Fj v M H N w c (j:gJ w v M) (b:gF M H N) (g:N≤100000) (e:c.k=1) :
 Calls gd 17 #[v,cV c] w (pF w (oe M c.h)):=by
 obtain⟨m,a,d,f⟩:=c;simp only at e;subst e;exact nK v M H N w 1 a d f _ _ _ j b g (qO M a) Cb (fun _ _=>by kernel_rfl) fun n B p _ _ _ _ _ _ _ _ _ _ h l i=>yf _ _ _ _ _ _ _ _ _ _ _ _ _ M H N h l b f_ i ⟨1,a,d,f⟩
theorem Fk v M H N w c (j:gJ w v M) (d:gF M H N) (g:N≤100000) (e:c.k=2) :
 Calls gd 17 #[v,cV c] w (pF w (pK M c.h c.w)):=by
 obtain⟨l,a,b,f⟩:=c;simp only at e;subst e;exact nK v M H N w 2 a b f _ _ _ j d g (Jc M a b) Cc (fun _ _=>by kernel_rfl) fun n B p _ _ _ _ _ _ _ _ _ _ h m i=>MZ _ _ _ _ _ _ _ _ _ _ _ _ _ M H N h d i ⟨2,a,b,f⟩
theorem Fl v M H N w c (j:gJ w v M) (d:gF M H N) (g:N≤100000) (e:c.k=3) :
 Calls gd 17 #[v,cV c] w (pF w (uQ M c.w)):=by
 obtain⟨l,b,a,f⟩:=c;simp only at e;subst e;exact nK v M H N w 3 b a f _ _ _ j d g (Jb M a) Cd (fun _ _=>by kernel_rfl) fun n B p _ _ _ _ _ _ _ _ _ _ h m i=>MR _ _ _ _ _ _ _ _ _ _ _ _ _ M h d.lines i ⟨3,b,a,f⟩
theorem Fm v M H N w c (j:gJ w v M) (b:gF M H N) (g:N≤100000) (e:c.k=4) :
 Calls gd 17 #[v,cV c] w (pF w (oC M c.h)):=by
 obtain⟨l,a,d,f⟩:=c;simp only at e;subst e;exact nK v M H N w 4 a d f _ _ _ j b g (qT M a) Ce (fun _ _=>by kernel_rfl) fun n B p _ _ _ _ _ _ _ _ _ _ h m i=>LZ _ _ _ _ _ _ _ _ _ _ _ _ _ M H N h b i ⟨4,a,d,f⟩
theorem Fn v M H N w c (j:gJ w v M) (a:gF M H N) (g:N≤100000) (f:c.k=5) :
 Calls gd 17 #[v,cV c] w (pF w (tJ M c.w c.n)):=by
 obtain⟨l,e,b,d⟩:=c;simp only at f;subst f;exact nK v M H N w 5 e b d _ _ _ j a g (I0 M b d) Cf (fun _ _=>by kernel_rfl) fun o B p _ _ _ _ _ _ _ _ _ _ h m i=>Ms _ _ _ _ _ _ _ _ _ _ _ _ _ M h a.devs a.dev i ⟨5,e,b,d⟩
theorem BZ v M H N w c (a:gJ w v M) (b:gF M H N) (d:N≤100000) :
 Calls gd 17 #[v,cV c] w (pF w (lW M c)):=by
 unfold lW;split
 · exact Fj v M H N w c a b d (by assumption)
 · split
   · exact Fk v M H N w c a b d (by assumption)
   · split
     · exact Fl v M H N w c a b d (by assumption)
     · split
       · exact Fm v M H N w c a b d (by assumption)
       · split
         · exact Fn v M H N w c a b d (by assumption)
         · exact Fi v M w c a ⟨by assumption,by assumption,by assumption,by assumption,by assumption⟩
end
section
open Go.RowKit
section
theorem lL {h} (k:jw h) (d n):jw (gR h d n):=by
 unfold gR;split
 · rename_i c
   have a:∀ j:Nat,(h.r.set d.toNat (wrap32 n)).getD j 0=if j=d.toNat then wrap32 n else h.r.getD j 0:=fun j=>by
    simp only[List.getD_eq_getElem?_getD,List.getElem?_set,k.len];split
    · rename_i e;rw[if_pos f_,if_pos e.symm];rfl
    · rename_i e;rw[if_neg f_]
   refine⟨by simpa using k.len,fun j b=>?_,?_,k.pc,k.st,k.ve,k.sc,k.ep,k.ca,k.le⟩
   · simp only;rw[a];split
     · exact gG _
     · exact k.reg j b
   · simp only;rw[a,if_neg f_];exact k.zero
 · exact k
theorem tZ {h} (k:jw h) (c):jw (sL h c):=⟨k.len,k.reg,k.zero,k.ve,by unfold sL Ep;simp only;split <;> simp,k.ve,k.sc,k.pc,gG _,k.le⟩
theorem tX {h} (k:jw h):jw (vo h):=⟨k.len,k.reg,k.zero,k.ep,by
 unfold vo;simp only
 rcases k.st with e|e|e|e <;> rw[e] <;> decide,k.ve,k.sc,k.ep,k.ca,k.le⟩
theorem Mw:jw nA:=⟨rfl,fun j b=>by unfold nA;simp only[List.getD_eq_getElem?_getD,List.getElem?_replicate];rw[if_pos b];decide,rfl,by decide,.inl rfl,by decide,by decide,by decide,by decide,by decide⟩
theorem sS {h} (k:jw h) {p} (a:iF p):jw { h with pc:=p }:=⟨k.len,k.reg,k.zero,⟨a,trivial⟩,k.st,k.ve,k.sc,k.ep,k.ca,k.le⟩
theorem MH pc x (a b):iF (m_ pc x a b):=by
 unfold m_;split
 · exact gG _
 · split
   · exact mu (gG _) fZ
   · exact gG _
theorem AP (x):bits .and .i64 x 136=0∨bits .and .i64 x 136=8∨bits .and .i64 x 136=128∨bits .and .i64 x 136=136:=by
 rw[kF,show BitVec.ofInt 64 136=BitVec.twoPow 64 3 ||| BitVec.twoPow 64 7 by decide,BitVec.and_or_distrib_left,BitVec.and_twoPow,BitVec.and_twoPow];split <;> split <;> decide
theorem rK {op was n} (hw:iF was) (hn:iF n):iF (tC op was n):=by
 unfold tC;split
 · exact ti hw hn
 · split
   · exact nH hw hn
   · exact hn
theorem tY {h} (k:jw h) (x) (g:iF (tT h x)) (off) (a) (b:iF a) (c:off=33→a=136):jw (ly h x off a):=by
 have s:iF h.st:=by rcases k.st with e|e|e|e <;> rw[e] <;> decide
 have w:iF (o5 h off):=by
  unfold o5;repeat' split
  all_goals first|exact s|exact k.ve.1|exact k.sc|exact k.ep.1|exact k.ca|exact k.le
 have v:=mu (rK (op:=x.op) w g) b
 refine lL (h:={ nY h off (bits .and .i64 (tC x.op (o5 h off) (tT h x)) a) with pc:=wrap32 (h.pc+4) }) ?_ _ _
 unfold nY;split
 · rename_i e;rw[c e] at v ⊢;exact⟨k.len,k.reg,k.zero,⟨gG _,trivial⟩,AP _,k.ve,k.sc,k.ep,k.ca,k.le⟩
 repeat' split
 · exact⟨k.len,k.reg,k.zero,⟨gG _,trivial⟩,k.st,⟨v,trivial⟩,k.sc,k.ep,k.ca,k.le⟩
 · exact⟨k.len,k.reg,k.zero,⟨gG _,trivial⟩,k.st,k.ve,v,k.ep,k.ca,k.le⟩
 · exact⟨k.len,k.reg,k.zero,⟨gG _,trivial⟩,k.st,k.ve,k.sc,⟨v,trivial⟩,k.ca,k.le⟩
 · exact⟨k.len,k.reg,k.zero,⟨gG _,trivial⟩,k.st,k.ve,k.sc,k.ep,v,k.le⟩
 · exact⟨k.len,k.reg,k.zero,⟨gG _,trivial⟩,k.st,k.ve,k.sc,k.ep,k.ca,v⟩
theorem oI {h} (k:jw h) id (x):jw (mN h id x).1:=by
 unfold mN;split
 · exact k
 split
 · exact tX k
 split
 · rename_i r _ _
   have g:iF (tT h x):=by
    have:=(CJ (x:=x) (by simpa using r)).1
    exact k.reg _ f_
   unfold jp;repeat' split
   all_goals first|exact tY k _ g _ _ fZ fZ|exact lL (sS k (gG _)) _ _|exact k
 · refine sS (h:=jr h x _ _) ?_ (MH _ _ _ _)
   unfold jr;repeat' split
   all_goals first|exact lL k _ _|exact k
theorem nR {m} (k:lE m) h a {n} (b:iF n):lE (km m h a n):=⟨fun z c=>by
 rcases List.mem_or_eq_of_mem_set c with c|c
 · exact k.1 z c
 · exact c▸b,k.2⟩
theorem tf {m} (k:lE m) h {l} (b:∀ x∈l,iF x.2):lE (AZ m h l):=⟨k.1,fun z c=>by
 rcases List.mem_or_eq_of_mem_set c with c|c
 · exact k.2 z c
 · exact c▸b⟩
theorem nS {m} (k:lE m) {h} (a:m6 m h=true):∀ x∈iA m h,iF x.2:=k.2 _ (Gc a)
theorem ug {m a h j} (k:lE m) (e:mV m h j=(a,0)):lE a:=by
 obtain⟨b,_,⟨x,c,_,_⟩,rfl⟩:=pX e
 refine tf (nR k _ _ ?_) h fun y d=>nS k b y (List.mem_of_mem_eraseIdx d)
 rw[List.getD_eq_getElem?_getD,c];exact nS k b x (List.mem_of_getElem? c)
section
variable {M:i8} {H N:Nat}
theorem uM (g:gF M H N) {a} (h:N≤a):gF M H a:=⟨g.words,g.word,g.few,g.harts,g.fine,g.num,g.ends,g.mem,g.devs,g.dev,g.lines,fO g.trace h⟩
theorem CL (g:gF M H N) i {h} (k:jw h):gF (zb5 M i h) H N:=by
 have all:∀ x∈M.harts.set i.toNat h,jw x:=fun x a=>by
  rcases List.mem_or_eq_of_mem_set a with a|a
  · exact g.fine x a
  · rw[a];exact k
 exact⟨g.words,g.word,g.few,by simp[zb5,g.harts],all,g.num,g.ends,g.mem,g.devs,g.dev,g.lines,g.trace⟩
theorem EP (g:gF M H N) (i x):gF (zeY M i x) H N:=⟨g.words,g.word,g.few,g.harts,g.fine,g.num,by simp[zeY,g.ends],g.mem,g.devs,g.dev,g.lines,g.trace⟩
theorem Hv (g:gF M H N) k (b):gF (zdL M k b) H N:=⟨g.words,g.word,g.few,g.harts,g.fine,g.num,g.ends,g.mem,g.devs,g.dev,by simp[zdL];exact g.lines,g.trace⟩
theorem IK (g:gF M H N) {m} (b:∀ W,W≤100000→jA M.mem H W→jA m H W) (d:lE m):gF { M with mem:=m } H N:=by
 obtain⟨W,a,c⟩:=g.mem;exact⟨g.words,g.word,g.few,g.harts,g.fine,d,g.ends,⟨W,a,b W a c⟩,g.devs,g.dev,g.lines,g.trace⟩
theorem FZ (g:gF M H N) (d:Int) {s} (b:pQ s):gF { M with devs:=M.devs.set d.toNat s } H N:=
 ⟨g.words,g.word,g.few,g.harts,g.fine,g.num,g.ends,g.mem,by simp;exact g.devs,fun x a=>by
  rcases List.mem_or_eq_of_mem_set a with a|a
  · exact g.dev x a
  · rw[a];exact b,g.lines,g.trace⟩
theorem IL (g:gF M H N) (a):gF { M with trace:=M.trace ++ [a] } H (N+1):=
 ⟨g.words,g.word,g.few,g.harts,g.fine,g.num,g.ends,g.mem,g.devs,g.dev,g.lines,by simp;exact g.trace⟩
theorem Jd (g:gF M H N) {d:Int} (h0:0≤d) (h1:d<M.devs.length):pQ (oT M d):=g.dev _ (M6 h0 h1)
theorem Nm (g:gF M H N) {i e a} (h:(lF M i e a).2.2=0):∀ W,W≤100000→jA M.mem H W→jA (lF M i e a).2.1 H W:=by
 intro W _ b;unfold lF at h ⊢
 split at h <;> rename_i h1
 · rw[if_pos h1];exact b
 rw[if_neg h1];split at h <;> rename_i h2
 · rw[if_pos h2];exact Mc b (Prod.ext rfl h)
 rw[if_neg h2];split at h <;> rename_i h3
 · rw[if_pos h3];exact Ka b (u:=(ow M.mem i a).1) (Prod.ext rfl (Prod.ext rfl h))
 rw[if_neg h3];split at h <;> rename_i h4
 · rw[if_pos h4];exact Nn b (u:=(mM M.mem i a e.n).1) (Prod.ext rfl (Prod.ext rfl h))
 rw[if_neg h4];exact Kr b (u:=(ml M.mem i a e.o e.n).1) (Prod.ext rfl (Prod.ext rfl h))
theorem wW {M} (k:lE M.mem) {i e a} (h:(lF M i e a).2.2=0):lE (lF M i e a).2.1:=by
 unfold lF at h ⊢
 split at h <;> rename_i h1
 · rw[if_pos h1];exact k
 rw[if_neg h1];split at h <;> rename_i h2
 · rw[if_pos h2];obtain⟨b,_,d⟩:=qQ (Prod.ext rfl h:A2 M.mem i a e.n=(_,0))
   refine Eq.mpr (congrArg lE d) (tf k i fun x c=>?_)
   rcases List.mem_append.1 c with c|c
   · simp only[jm,Bool.and_eq_true] at b;exact nS k b.1 x c
   · simp at c;subst c;exact gG _
 rw[if_neg h2];split at h <;> rename_i h3
 · rw[if_pos h3];obtain⟨_,_,d⟩:=Ix (u:=(ow M.mem i a).1) (Prod.ext rfl (Prod.ext rfl h));exact Eq.mpr (congrArg lE d) k
 rw[if_neg h3];split at h <;> rename_i h4
 · rw[if_pos h4];obtain⟨_,_,d⟩:=sQ (u:=(mM M.mem i a e.n).1) (Prod.ext rfl (Prod.ext rfl h));refine Eq.mpr (congrArg lE d) ?_;split
   · exact nR k i a (gG _)
   · exact k
 rw[if_neg h4];obtain⟨_,_,d⟩:=Jj (u:=(ml M.mem i a e.o e.n).1) (Prod.ext rfl (Prod.ext rfl h));refine Eq.mpr (congrArg lE d) (nR k _ _ ?_)
 unfold sJ;split
 · exact gG _
 · exact AJ _ _ _
theorem Kn (g:gF M H N) i {h} (k:jw h) e (a) (h0:(uY M i h e a).2=0):gF (uY M i h e a).1 H N:=by
 unfold uY at h0 ⊢
 split at h0 <;> rename_i h1
 · rw[if_pos h1]
   refine IK (CL g i ?_) (Nm g h1) (wW g.num h1);split
   · exact k
   · exact lL k _ _
 · exact absurd h0 h1
theorem JW (g:gF M H N) i {h} (k:jw h) e {d:Int} r (b:0≤d) (hd1:d<M.devs.length) (h0:(pG M i h e d r).2=0):gF (pG M i h e d r).1 H (N+1):=by
 have a:=Jd g b hd1;unfold pG at h0 ⊢
 split at h0 <;> rename_i h1
 · exact absurd h0 fZ
 · rw[if_neg h1]
   split
   · exact IL (FZ (CL g i k) d (FX (Mq a _ _ (oi _)))) _
   · exact IL (FZ (CL g i (lL k _ _)) d (FX (wm a _))) _
theorem Ks (g:gF M H N) i {h} (k:jw h) (e) (h0:(uR M i h e).2=0):gF (uR M i h e).1 H (N+1):=by
 unfold uR at h0 ⊢
 split at h0 <;> rename_i h1
 · rw[if_pos h1];exact uM (Kn g i k e _ h0) f_
 · rw[if_neg h1]
   split at h0 <;> rename_i h2
   · rw[if_pos h2]
     have a:=h2;simp[xG] at a;exact JW g i k e _ (Int.tdiv_nonneg a.2.1 f_) a.2.2.2.2 h0
   · rw[if_neg h2];exact uM (EP g i 3) f_
theorem vW (g:gF M H N) i {r} (k:jw r.1) (h0:(lZ M i r).2=0):gF (lZ M i r).1 H (N+1):=by
 unfold lZ at h0 ⊢
 split at h0 <;> rename_i h1
 · rw[if_pos h1];exact uM (EP g i 2) f_
 rw[if_neg h1];split at h0 <;> rename_i h2
 · rw[if_pos h2];exact uM (CL (EP g i 1) i k) f_
 rw[if_neg h2];split at h0 <;> rename_i h3
 · rw[if_pos h3]
   split at h0 <;> rename_i h4
   · exact absurd h0 fZ
   · rw[if_neg h4];exact uM (CL g i k) f_
 rw[if_neg h3];split at h0 <;> rename_i h5
 · rw[if_pos h5];exact Ks g i k r.2 h0
 · rw[if_neg h5];exact uM (CL g i k) f_
theorem Md (g:gF M H N) (i) (h0:(oe M i).2=0):gF (oe M i).1 H (N+1):=by
 unfold oe at h0 ⊢
 split at h0 <;> rename_i h1
 · exact absurd h0 fZ
 rw[if_neg h1];split at h0 <;> rename_i h2
 · exact absurd h0 fZ
 rw[if_neg h2];split at h0 <;> rename_i h3
 · rw[if_pos h3];exact uM (EP g i 2) f_
 · rw[if_neg h3]
   have a:=rj (by simpa using h1);exact vW g i (oI (g.fine _ (Da a.1 a.2.1)) _ _) h0
theorem Kq (g:gF M H N) (i k) (h0:(pK M i k).2=0):gF (pK M i k).1 H (N+1):=by
 unfold pK at h0 ⊢
 split at h0 <;> rename_i h1
 · exact absurd h0 fZ
 rw[if_neg h1];split at h0 <;> rename_i h2
 · rw[if_pos h2];exact uM (IK g (fun W _ a=>Mf a (Prod.ext rfl h2)) (ug g.num (Prod.ext rfl h2))) f_
 · exact absurd h0 h2
theorem Km (g:gF M H N) (k) (h0:(uQ M k).2=0):gF (uQ M k).1 H (N+1):=by
 unfold uQ at h0 ⊢
 split at h0 <;> rename_i h1
 · rw[if_pos h1];exact uM (Hv g k true) f_
 · exact absurd h0 fZ
theorem Mb (g:gF M H N) (i) (h0:(oC M i).2=0):gF (oC M i).1 H (N+1):=by
 unfold oC at h0 ⊢
 split at h0 <;> rename_i h1
 · exact absurd h0 fZ
 rw[if_neg h1];split at h0 <;> rename_i h2
 · exact absurd h0 fZ
 rw[if_neg h2];split at h0 <;> rename_i h3
 · exact absurd h0 fZ
 · rw[if_neg h3]
   have a:=rj (by simpa using h1);exact uM (CL (Hv g _ false) i (tZ (g.fine _ (Da a.1 a.2.1)) _)) f_
theorem Ko (g:gF M H N) (d n) (h0:(tJ M d n).2=0):gF (tJ M d n).1 H (N+1):=by
 unfold tJ at h0 ⊢
 split at h0 <;> rename_i h1
 · rw[if_pos h1];exact uM (FZ g d (FX (Mr (Jd g h1.1 h1.2) _ (gG _)))) f_
 · exact absurd h0 fZ
theorem sU (g:gF M H N) (c) (h0:(lW M c).2=0):gF (lW M c).1 H (N+1):=by
 unfold lW at h0 ⊢
 split at h0 <;> rename_i h1
 · rw[if_pos h1];exact Md g _ h0
 rw[if_neg h1];split at h0 <;> rename_i h2
 · rw[if_pos h2];exact Kq g _ _ h0
 rw[if_neg h2];split at h0 <;> rename_i h3
 · rw[if_pos h3];exact Km g _ h0
 rw[if_neg h3];split at h0 <;> rename_i h4
 · rw[if_pos h4];exact Mb g _ h0
 rw[if_neg h4];split at h0 <;> rename_i h5
 · rw[if_pos h5];exact Ko g _ _ h0
 · exact absurd h0 fZ
theorem EO (l):∀ {M:i8} {N:Nat},gF M H N→gF (iX M l).1 H (N+l.length):=by
 induction l with
 | nil=>intro M N g;exact g
 |
  cons c l ih=>
  intro M N g;simp only[iX,List.length_cons];split <;> rename_i h
  · exact uM (ih (sU g c h)) f_
  · exact uM (ih g) f_
end
end
section
def jg (c:vp):List Value:=[b_ c_ c.k,b_ c_ c.h,b_ c_ c.w,b_ c_ c.n]
theorem qJ M (l:List vp) k c (a:l[k]? = some c):iX M (l.take (k+1))=if (lW (iX M (l.take k)).1 c).2=0 then ((lW (iX M (l.take k)).1 c).1,(iX M (l.take k)).2+1) else iX M (l.take k):=by
 obtain⟨b,rfl⟩:=fR a;rw[fP b,Kj];simp only[iX];split
 · simp
 · simp
theorem It (l):∀ M,0≤(iX M l).2∧(iX M l).2≤l.length:=by
 induction l with
 | nil=>intro M;simp[iX]
 |
  cons c l ih=>
  intro M;simp only[iX,List.length_cons];split
  · have:=ih (lW M c).1;omega
  · have:=ih M;omega
structure ld (w:World) (b:Nat) (cs:Array Value) (M:i8):Prop where
 at_:w.heap[b]? = some (d_ cs 37 (0,0))
 nine:kw cs
 mac:gJ w (e_ cs) M
section
variable {w w':World} {b:Nat} {cs:Array Value} {M:i8}
theorem ld.below (h:ld w b cs M) (a:Up w w'):ld w' b cs M:=⟨gk a h.at_,h.nine,h.mac.below a⟩
theorem Ee {c} (a:w.heap[b]? = some (d_ c 37 (0,0))) (e:kw c) (d:kw cs) (f:gJ w (e_ cs) M):ld (w.setRow b cs) b cs M:=
 ⟨setRow_heap _ _ _ _ _ _ a,d,f.row9 a e.all⟩
theorem BK w (b:kw cs) (a:gJ w (e_ cs) M):ld ((w.alloc (d_ gq 37)).setRow w.heap.size cs) w.heap.size cs M:=
 Ee (gH w _) mj b (a.below (gr w _))
theorem yX w (cs):Up w ((w.alloc (d_ gq 37)).setRow w.heap.size cs):=below_setRow (gr w _) fL _
end
theorem vK v M H N w k h x n (a:gJ w v M) (b:gF M H N) (c:N≤100000) :
 Calls gd 17 #[v,e_ #[b_ c_ k,b_ c_ h,b_ c_ x,b_ c_ n]] w (pF w (lW M ⟨k,h,x,n⟩)):=BZ v M H N w ⟨k,h,x,n⟩ a b c
theorem AE v sv M l H N w (hm:gJ w v M) (hs:jM 4 jg w sv l) (hg:gF M H N) (hN:N+l.length≤100000) :
 Calls gd 22 #[v,sv] w fun e w'=>∃ v',e =fH (fI #[v',b_ c_ (iX M l).2])∧gJ w' v' (iX M l).1∧Up w w':=by
 obtain⟨xs,rfl,nx⟩:=oR hm;obtain⟨sa,sc,rfl,aH,aB,ay⟩:=hs;have HS:=gg ay;have HM:=gg hm;have HG:=gg hg;obtain⟨len,aa⟩:∃ n,n=l.length:=⟨_,rfl⟩;have HL:=gg aa;rw[←aa] at hN aH ⊢
 unfold maxLen at aB;obtain⟨w1,al,az,ao,am,_⟩:=lU w (d_ xs 37) (d_ gq 37);have af:=gg az;have aj:=gg ao;have T:=gg am;clear az ao am ay hm hg aa;go_in;go_upto_region 2 with(fail)
 rw[←al];clear al
 go_wp2_with (refine wpList_load_row rfl 37 _ rfl w.heap.size rfl 37 xs (0,0) _ af.o Tryz.underlying37 rfl nx.info ?_)
 refine(wY _ M H N _ (HM.o.below T.o) HG.o f_).mono ?_
 rintro e w2 ⟨p,aO,aS,aQ,aR,aP,aN,dv',aU,tv',aM,rfl,ad,_,D⟩;have I:=ad.isMac;obtain⟨y,u,q⟩:=oR I;have Z:=ad.at_;rw[u] at I;injection u with u
 rw[u] at Z;have ai:=gg Z;have ac:=gg (gk D af.o);have ax:=gg (gk D aj.o);have aw:=gg (gj T.o D);obtain⟨w3,o⟩:∃ x,x=w2.setRow w.heap.size y:=⟨_,rfl⟩;have V3:gi (ld w3 w.heap.size y M):=gg (by rw[o];exact Ee ac.o nx q I);have ag:gi (w3.heap[w.heap.size+1]? = some (d_ gq 37 (0,0))):=gg (by rw[o];exact iL f_ ax.o);have au:gi (Up w w3):=gg (by rw[o];exact below_setRow aw.o fL _);clear ad I Z u D af aj T;go_upto_region 3 with(first|(refine wpList_load_row rfl 37 _ rfl p rfl 97 y (0,0) _ ai.o Tryz.underlying37 rfl q.info ?_)|(refine wpList_store_row rfl 37 _ _ rfl w.heap.size y rfl rfl 37 xs ac.o q.info (by rw[nx.size,q.size]) q.one ?_))
 rw[←o];clear o ai ac ax aw
 go_wp2_with fail
 go_loopw [6,18] (fun n j wr=>∃ k:Nat,∃ f,k≤len∧j =b_ c_ k∧n =b_ c_ (iX M (l.take k)).2∧ld wr w.heap.size f (iX M (l.take k)).1∧wr.heap[w.heap.size+1]? = some (d_ gq 37 (0,0))∧Up w wr) (fun _ j _=>len - (intOf j).toNat)
 case atStart=>exact⟨0,y,fM,rfl,rfl,V3.o,ag.o,au.o⟩
 case round=>
  obtain⟨k,f,hk,rfl,rfl,R,hz,hb⟩:=hrel;have V:=gg R;have HX:=gg R.at_;have HZ:=gg hz;have i:=gg hb;have g:=R.nine;clear R hz hb V3 ag au;by_cases aK:k<len
  · have ab:k<l.length:=by rw[←HL.o];exact aK
    have av:¬ l=[]:=by rintro rfl;simp at ab
    obtain⟨h,E,aL,J,z⟩:=HS.o.resolve_left av;subst aL;have m:l[k]? = some l[k]:=fQ ab;have Y:=z k l[k] m 0 _ rfl;have q1:=z k l[k] m 1 _ rfl;have q2:=z k l[k] m 2 _ rfl;have q3:=z k l[k] m 3 _ rfl;have t:=gg (qJ M l k l[k] m);have GK:=gg (EO (l.take k) HG.o);have RN:=It (l.take k) M;have ae:(l.take k).length=k:=by simp;omega
    rw[ae] at RN;have aA:N+(l.take k).length≤100000:=by rw[ae];omega
    generalize l[k]=c at *
    obtain⟨O,F,G,Q⟩:=c;simp only[Nat.add_zero] at Y q1 q2 q3;have p0:wr.cell? ⟨h,E+k*4,none⟩=some (b_ c_ O):=(i.o.cell (p:=⟨h,_,none⟩) J).trans Y;have p1:wr.cell? ⟨h,E+k*4+1,none⟩=some (b_ c_ F):=(i.o.cell (p:=⟨h,_,none⟩) J).trans q1;have p2:wr.cell? ⟨h,E+k*4+2,none⟩=some (b_ c_ G):=(i.o.cell (p:=⟨h,_,none⟩) J).trans q2;have p3:wr.cell? ⟨h,E+k*4+3,none⟩=some (b_ c_ Q):=(i.o.cell (p:=⟨h,_,none⟩) J).trans q3;clear Y q1 q2 q3 z m ae av ab;generalize iX M (l.take k)=X at *
    obtain⟨w4,ah,S,K,_⟩:=pC wr (d_ #[b_ c_ O,b_ c_ F,b_ c_ G,b_ c_ Q] 28);obtain⟨t0,t1,t2,t3⟩:=kM S;have aF:=gn S;have V4:=gg (V.o.below K);have aJ:=gg V4.o.at_;have aG:=gg (gk K HZ.o);have aD:=gg (gj i.o K);clear S K;go_upto_region 6 with(fail)
    rw[←ah];clear ah p0 p1 p2 p3
    go_wp2_with (refine wpList_load_row rfl 37 _ rfl w.heap.size rfl 37 f (0,0) _ aJ.o Tryz.underlying37 rfl g.info ?_)
    refine(vK _ X.1 H (N+(l.take k).length) _ O F G Q V4.o.mac GK.o aA).mono ?_
    rintro e a ⟨v',rfl,U,P⟩;obtain⟨d,rfl,b⟩:=oR U;have W:=gg U;have V5:=gg (V4.o.below P);have ap:=gg (gk P aG.o);have aq:=gg (gj aD.o P);clear U P t0 t1 t2 t3 aF;generalize lW X.1 ⟨O,F,G,Q⟩=r at *
    obtain⟨M',er⟩:=r;simp only at W t ⊢
    go_upto_region 7 with(refine wpList_store_row rfl 37 _ _ rfl a.heap.size d rfl rfl 37 gq (gH a _) b.info (by rw[mj.size,b.size]) b.one ?_)
    obtain⟨L,B⟩:∃ x,x=(a.alloc (d_ gq 37)).setRow a.heap.size d:=⟨_,rfl⟩;have C:Up a L:=by rw[B];exact yX a d
    have U6:gi (ld L a.heap.size d M'):=gg (by rw[B];exact BK a b W.o);have V6:=gg (V5.o.below C);have ar:=gg (gk C ap.o);have ak:=gg (gj aq.o C);have aT:w.heap.size≠a.heap.size:=by have:=gn V5.o.at_;omega
    rw[←B];clear B W V5 ap aq C;by_cases h0:er=0
    · have s:=t.o.trans (if_pos h0)
      have d0:(er == 0)=true:=by simp[h0]
      have hq:c_.wrap (X.2+1)=X.2+1:=IntWalk.i64_in _ f_;have A:=gg s;have HU:=gg U6.o.at_;have HV:=gg V6.o.at_;have V7:=gg (Ee HV.o g b U6.o.mac);have aI:gi ((L.setRow w.heap.size d).heap[w.heap.size+1]? = some (d_ gq 37 (0,0))):=gg (iL f_ ar.o);have aE:gi (Up w (L.setRow w.heap.size d)):=gg (below_setRow ak.o fL _);clear s t h0
      go_wp2_with (first|(refine wpList_load_row rfl 37 _ rfl a.heap.size rfl 37 d (0,0) _ HU.o Tryz.underlying37 rfl b.info ?_)|(refine wpList_store_row rfl 37 _ _ rfl w.heap.size d rfl rfl 37 f HV.o b.info (by rw[g.size,b.size]) b.one ?_))
      go_roundw
      case rel=>exact⟨k+1,d,by omega,by go_num,by rw[A.o],by rw[A.o];exact V7.o,aI.o,aE.o⟩
      case measure=>simp[intOf];omega
    · have s:=t.o.trans (if_neg h0)
      have d0:(er == 0)=false:=by simp[h0]
      have A:=gg s;clear s t h0
      go_wp2
      go_roundw
      case rel=>exact⟨k+1,f,by omega,by go_num,by rw[A.o],by rw[A.o];exact V6.o,ar.o,ak.o⟩
      case measure=>simp[intOf];omega
  · have aC:k=len:=by omega
    subst aC;have an:gi (l.take k=l):=gg (by rw[HL.o,List.take_length]);rw[an.o];have hI:=V.o.mac;rw[an.o] at hI;have V9:=gg (Ee HZ.o mj g hI);clear hI
    go_wp2_with (first|(refine wpList_load_row rfl 37 _ rfl w.heap.size rfl 37 f (0,0) _ HX.o Tryz.underlying37 rfl g.info ?_)|(refine wpList_store_row rfl 37 _ _ rfl (w.heap.size+1) f rfl rfl 37 gq HZ.o g.info (by rw[mj.size,g.size]) g.one ?_))
    exact bodyPost_ret (v:=fI #[e_ f,b_ c_ (iX M l).2]) (im rfl _ _ (w.heap.size+1) _ f _ _ rfl V9.o.at_ rfl Tryz.underlying37 rfl g.info) rfl ⟨_,rfl,V9.o.mac,below_setRow i.o f_ _⟩
end
theorem ri c n r w (d:iy c) (a:0<n∧n≤9223372036854775807) (b:gT c n=r) :
 Calls gd 23 #[b_ c_ c,b_ c_ n] w fun e w'=>e =fH (b_ c_ r)∧w=w':=by
 subst b;have g:(n == 0)=false:=by simp;omega
 have f:=mL c n a.1;by_cases h:c<0
 · have E:=gg (Im c n h)
   go_in;go_wp2;go_ret;exact⟨gt (io E.o),rfl⟩
 · have E:=gg (Il c n h)
   go_in;go_wp2;go_ret;exact⟨gt (io E.o),rfl⟩
def rE (r:Int×Int×Int):vp:=
 if gT r.1 12=7∨gT r.1 12=8 then ⟨2,gT r.2.1 4,gT r.2.2 3,0⟩ else if gT r.1 12=9 then ⟨3,0,gT r.2.1 3,0⟩ else if gT r.1 12=10 then ⟨4,gT r.2.1 4,0,0⟩
 else if gT r.1 12=11 then ⟨5,0,gT r.2.1 3,r.2.2⟩ else ⟨1,gT r.2.1 4,0,0⟩
def uP (a:List (Int×Int×Int)):List vp:=(a.take 120).map rE
theorem Ch:(gd.info? 28).map (fun i=>(i.zero,i.size,i.bytes))=some (some (e_ #[b_ c_ 0,b_ c_ 0,b_ c_ 0,b_ c_ 0]),4,32):=by kernel_rfl
theorem Db (c):∀ u∈jg c,u.oneCell'=true:=by simp[jg,Value.oneCell']
theorem Lf v f w (hs:jM 3 c3 w v f) (ao:∀ r∈f,CZ r) :
 Calls gd 16 #[v] w fun e w'=>∃ W,e =fH W∧w'.ownsRow w.heap.size 28 4 W (uP f).length (iC jg (uP f))∧Up w w':=by
 obtain⟨sa,sc,rfl,aA,av,ar⟩:=hs;obtain⟨len,al⟩:∃ n,n=f.length:=⟨_,rfl⟩;have HL:=gg al;have HS:=gg ar;have au:=gg ao;rw[←al] at aA ⊢
 unfold maxLen at av;obtain⟨Z,hi,ad,ab,ac⟩:=info_parts Ch;clear ar ao al;go_in
 go_wp2_with fail
 go_loopw [3,4] (fun out j wr=>∃ k:Nat,k≤len∧k≤120∧j =b_ c_ k∧wr.ownsRow w.heap.size 28 4 out k (iC jg ((f.take k).map rE))∧Up w wr) (fun _ j _=>len - (intOf j).toNat)
 case atStart=>exact⟨0,fM,by omega,rfl,World.ownsRow_nil _ _ _ _,fK⟩
 case round=>
  obtain⟨k,hk,aE,rfl,ho,hb⟩:=hrel;obtain⟨oa,oc,rfl⟩:=gN ho;have S:=gg ho;have A:=gg hb;clear ho hb;by_cases aC:k<len∧k<120
  · obtain⟨aB,aF⟩:=aC
    have ah:k<f.length:=by rw[←HL.o];exact aB
    have ap:¬ f=[]:=by rintro rfl;simp at ah
    obtain⟨o,so,aD,ag,aj⟩:=HS.o.resolve_left ap;subst aD;have ak:f[k]? = some f[k]:=fQ ah;have q0:=aj k f[k] ak 0 _ rfl;have q1:=aj k f[k] ak 1 _ rfl;have q2:=aj k f[k] ak 2 _ rfl;have ay:=au.o f[k] (List.getElem_mem _);have aa:=gg (fP ah);generalize f[k]=r at *
    obtain⟨x,y,z⟩:=r;obtain⟨ox,oy,oz⟩:=ay;simp only[Nat.add_zero] at q0 q1 q2;have p0:wr.cell? ⟨o,so+k*3,none⟩=some (b_ c_ x):=(A.o.cell (p:=⟨o,_,none⟩) ag).trans q0;have L:wr.cell? ⟨o,so+k*3+1,none⟩=some (b_ c_ y):=(A.o.cell (p:=⟨o,_,none⟩) ag).trans q1;have I:wr.cell? ⟨o,so+k*3+2,none⟩=some (b_ c_ z):=(A.o.cell (p:=⟨o,_,none⟩) ag).trans q2;have J:o<wr.heap.size:=fN ag A.o.size;clear q0 q1 q2 aj ak ap ah;obtain⟨K,hK⟩:∃ K,K=gT x 12:=⟨_,rfl⟩;have Y:=gg hK;clear hK;go_upto_region 7 with(go_at_call 23;refine(ri _ _ _ _ (by assumption) f_ rfl).mono ?_;rintro e w' ⟨rfl,rfl⟩)
    rw[←Y.o];by_cases t:K=7∨K=8
    · rcases t with t|t
      · have d7:(K == 7)=true:=by simp[t]
        go_upto_region 8 with(go_at_call 23;refine(ri _ _ _ _ (by assumption) f_ rfl).mono ?_;rintro e w' ⟨rfl,rfl⟩)
        obtain⟨s,q⟩:∃ v,v=wr.alloc (d_ #[b_ c_ 1,b_ c_ (gT y 4),b_ c_ 0,b_ c_ 0] 28):=⟨_,rfl⟩;have U:s.heap[wr.heap.size]? = some (d_ #[b_ c_ 1,b_ c_ (gT y 4),b_ c_ 0,b_ c_ 0] 28 (0,0)):=by rw[q];exact gH wr _
        have m:Up wr s:=by rw[q];exact gr wr _
        rw[←q];clear q;have V:o<s.heap.size:=fN J m.size;have T:=(m.cell (p:=⟨o,_,none⟩) J).trans L;have P:=(m.cell (p:=⟨o,_,none⟩) J).trans I;have s1:=fun v=>gD V T v
        have s2:=fun v=>gD V P v
        have X:=gg U;have R:gi (Up wr s):=gg m;clear T P p0 L I U m;refine ov 13 ga ga ?_
        simp only[List.take_succ_cons,List.take_zero,List.drop_succ_cons,List.drop_zero];repeat(go_big_quiet_step ((go_at_call 23;first|(with_reducible exact oA (ri y 4 _ _ oy f_ rfl))|(with_reducible exact oA (ri z 3 _ _ oz f_ rfl))|(with_reducible exact oA (ri y 3 _ _ oy f_ rfl)))))
        refine wpQuiet_nil ?_
        rintro N ⟨⟨an,c⟩,rfl⟩;have b:=gk c X.o;have M:Up wr N:=gj R.o c;obtain⟨c0,c1,c2,c3⟩:=kM b;have f0:=gC b 0;have f1:=gC b 1;have f2:=gC b 2;have f3:=gC b 3;have af:=gn b;have Q:=gg b;have O:=gg M;clear s1 s2 b M c X R;go_upto_region 15 with(fail)
        clear c0 c1 c2 c3 f0 f1 f2 f3;obtain⟨a,d⟩:∃ v,v=(((N.setCell ⟨wr.heap.size,0,none⟩ (b_ c_ 2)).setCell ⟨wr.heap.size,1,none⟩ (b_ c_ (gT y 4))).setCell ⟨wr.heap.size,2,none⟩ (b_ c_ (gT z 3))).setCell ⟨wr.heap.size,3,none⟩ (b_ c_ 0):=⟨_,rfl⟩;have b:a.heap[wr.heap.size]? = some (d_ #[b_ c_ 2,b_ c_ (gT y 4),b_ c_ (gT z 3),b_ c_ 0] 28 (0,0)):=by rw[d];exact jb (jb (jb (jb Q.o 0 _) 1 _) 2 _) 3 _
        have c:Up wr a:=by rw[d];exact gO (gO (gO (gO O.o fL _) fL _) fL _) fL _
        have G:gi (rE (x,y,z)=⟨2,(gT y 4),(gT z 3),0⟩):=gg (by unfold rE;simp only[←Y.o];simp[t]);rw[←d];clear d d7;obtain⟨t0,t1,t2,t3⟩:=kM b;have ae:=gn b;have h:=gg (gy (gy S.o c) (gr a (d_ #[b_ c_ 2,b_ c_ (gT y 4),b_ c_ (gT z 3),b_ c_ 0] 28)))
        have F:gi (∀ j u,(jg ⟨2,(gT y 4),(gT z 3),0⟩)[j]? = some u→(a.alloc (d_ #[b_ c_ 2,b_ c_ (gT y 4),b_ c_ (gT z 3),b_ c_ 0] 28)).cell? ((⟨a.heap.size,0,none⟩:Addr).add j)=some u):=gg (fun j u E=>by
         rw[kx,Nat.zero_add];exact gv (gH a _) (by simpa[jg] using E))
        have i:gi (Up w (a.alloc (d_ #[b_ c_ 2,b_ c_ (gT y 4),b_ c_ (gT z 3),b_ c_ 0] 28))):=gg (gj (gj A.o c) (gr a _));have l:w.heap.size≤(a.alloc (d_ #[b_ c_ 2,b_ c_ (gT y 4),b_ c_ (gT z 3),b_ c_ 0] 28)).heap.size:=i.o.size;have C:k+1≤maxLen:=by unfold maxLen;omega
        have H:(k+1)*32≤140737488355328:=by omega
        clear b c Q O af
        go_wp2_with (at_builtin;refine wpList_append_own _ rfl _ _ 47 rfl w.heap.size 28 Z (e_ #[b_ c_ 0,b_ c_ 0,b_ c_ 0,b_ c_ 0]) 4 32 Tryz.underlying47 hi ad ab ac rfl fZ _ _ _ rfl h.o ⟨a.heap.size,0,none⟩ 1 1 (jg ⟨2,(gT y 4),(gT z 3),0⟩) rfl rfl F.o (Db _) C H l ?_;intro W w7 D B _)
        go_roundw
        case rel=>exact⟨k+1,by omega,by omega,by go_num,by rw[aa.o,List.map_append,rz];simpa[iC,G.o] using D,i.o.grown B l (fun g e=>(h.o.lt g e).1)⟩
        case measure=>simp[intOf];omega
      · have d7:(K == 7)=false:=by simp[t]
        have d8:(K == 8)=true:=by simp[t]
        go_upto_region 8 with(go_at_call 23;refine(ri _ _ _ _ (by assumption) f_ rfl).mono ?_;rintro e w' ⟨rfl,rfl⟩)
        obtain⟨s,q⟩:∃ v,v=wr.alloc (d_ #[b_ c_ 1,b_ c_ (gT y 4),b_ c_ 0,b_ c_ 0] 28):=⟨_,rfl⟩;have U:s.heap[wr.heap.size]? = some (d_ #[b_ c_ 1,b_ c_ (gT y 4),b_ c_ 0,b_ c_ 0] 28 (0,0)):=by rw[q];exact gH wr _
        have m:Up wr s:=by rw[q];exact gr wr _
        rw[←q];clear q;have V:o<s.heap.size:=fN J m.size;have T:=(m.cell (p:=⟨o,_,none⟩) J).trans L;have P:=(m.cell (p:=⟨o,_,none⟩) J).trans I;have s1:=fun v=>gD V T v
        have s2:=fun v=>gD V P v
        have X:=gg U;have R:gi (Up wr s):=gg m;clear T P p0 L I U m;refine ov 13 ga ga ?_
        simp only[List.take_succ_cons,List.take_zero,List.drop_succ_cons,List.drop_zero];repeat(go_big_quiet_step ((go_at_call 23;first|(with_reducible exact oA (ri y 4 _ _ oy f_ rfl))|(with_reducible exact oA (ri z 3 _ _ oz f_ rfl))|(with_reducible exact oA (ri y 3 _ _ oy f_ rfl)))))
        refine wpQuiet_nil ?_
        rintro N ⟨⟨an,c⟩,rfl⟩;have b:=gk c X.o;have M:Up wr N:=gj R.o c;obtain⟨c0,c1,c2,c3⟩:=kM b;have f0:=gC b 0;have f1:=gC b 1;have f2:=gC b 2;have f3:=gC b 3;have af:=gn b;have Q:=gg b;have O:=gg M;clear s1 s2 b M c X R;go_upto_region 15 with(fail)
        clear c0 c1 c2 c3 f0 f1 f2 f3;obtain⟨a,d⟩:∃ v,v=(((N.setCell ⟨wr.heap.size,0,none⟩ (b_ c_ 2)).setCell ⟨wr.heap.size,1,none⟩ (b_ c_ (gT y 4))).setCell ⟨wr.heap.size,2,none⟩ (b_ c_ (gT z 3))).setCell ⟨wr.heap.size,3,none⟩ (b_ c_ 0):=⟨_,rfl⟩;have b:a.heap[wr.heap.size]? = some (d_ #[b_ c_ 2,b_ c_ (gT y 4),b_ c_ (gT z 3),b_ c_ 0] 28 (0,0)):=by rw[d];exact jb (jb (jb (jb Q.o 0 _) 1 _) 2 _) 3 _
        have c:Up wr a:=by rw[d];exact gO (gO (gO (gO O.o fL _) fL _) fL _) fL _
        have G:gi (rE (x,y,z)=⟨2,(gT y 4),(gT z 3),0⟩):=gg (by unfold rE;simp only[←Y.o];simp[t]);rw[←d];clear d d7 d8;obtain⟨t0,t1,t2,t3⟩:=kM b;have ae:=gn b;have h:=gg (gy (gy S.o c) (gr a (d_ #[b_ c_ 2,b_ c_ (gT y 4),b_ c_ (gT z 3),b_ c_ 0] 28)))
        have F:gi (∀ j u,(jg ⟨2,(gT y 4),(gT z 3),0⟩)[j]? = some u→(a.alloc (d_ #[b_ c_ 2,b_ c_ (gT y 4),b_ c_ (gT z 3),b_ c_ 0] 28)).cell? ((⟨a.heap.size,0,none⟩:Addr).add j)=some u):=gg (fun j u E=>by
         rw[kx,Nat.zero_add];exact gv (gH a _) (by simpa[jg] using E))
        have i:gi (Up w (a.alloc (d_ #[b_ c_ 2,b_ c_ (gT y 4),b_ c_ (gT z 3),b_ c_ 0] 28))):=gg (gj (gj A.o c) (gr a _));have l:w.heap.size≤(a.alloc (d_ #[b_ c_ 2,b_ c_ (gT y 4),b_ c_ (gT z 3),b_ c_ 0] 28)).heap.size:=i.o.size;have C:k+1≤maxLen:=by unfold maxLen;omega
        have H:(k+1)*32≤140737488355328:=by omega
        clear b c Q O af
        go_wp2_with (at_builtin;refine wpList_append_own _ rfl _ _ 47 rfl w.heap.size 28 Z (e_ #[b_ c_ 0,b_ c_ 0,b_ c_ 0,b_ c_ 0]) 4 32 Tryz.underlying47 hi ad ab ac rfl fZ _ _ _ rfl h.o ⟨a.heap.size,0,none⟩ 1 1 (jg ⟨2,(gT y 4),(gT z 3),0⟩) rfl rfl F.o (Db _) C H l ?_;intro W w7 D B _)
        go_roundw
        case rel=>exact⟨k+1,by omega,by omega,by go_num,by rw[aa.o,List.map_append,rz];simpa[iC,G.o] using D,i.o.grown B l (fun g e=>(h.o.lt g e).1)⟩
        case measure=>simp[intOf];omega
    have n7:(K == 7)=false:=by simp;omega
    have n8:(K == 8)=false:=by simp;omega
    by_cases k9:K=9
    · have d9:(K == 9)=true:=by simp[k9]
      go_upto_region 15 with(go_at_call 23;refine(ri _ _ _ _ (by assumption) f_ rfl).mono ?_;rintro e w' ⟨rfl,rfl⟩)
      obtain⟨a,d⟩:∃ v,v=wr.alloc (d_ #[b_ c_ 3,b_ c_ 0,b_ c_ (gT y 3),b_ c_ 0] 28):=⟨_,rfl⟩;have b:a.heap[wr.heap.size]? = some (d_ #[b_ c_ 3,b_ c_ 0,b_ c_ (gT y 3),b_ c_ 0] 28 (0,0)):=by rw[d];exact gH wr _
      have c:Up wr a:=by rw[d];exact gr wr _
      have G:gi (rE (x,y,z)=⟨3,0,(gT y 3),0⟩):=gg (by unfold rE;simp only[←Y.o];simp[k9]);rw[←d];clear d n7 n8 d9 t;obtain⟨t0,t1,t2,t3⟩:=kM b;have ae:=gn b;have h:=gg (gy (gy S.o c) (gr a (d_ #[b_ c_ 3,b_ c_ 0,b_ c_ (gT y 3),b_ c_ 0] 28)))
      have F:gi (∀ j u,(jg ⟨3,0,(gT y 3),0⟩)[j]? = some u→(a.alloc (d_ #[b_ c_ 3,b_ c_ 0,b_ c_ (gT y 3),b_ c_ 0] 28)).cell? ((⟨a.heap.size,0,none⟩:Addr).add j)=some u):=gg (fun j u E=>by
       rw[kx,Nat.zero_add];exact gv (gH a _) (by simpa[jg] using E))
      have i:gi (Up w (a.alloc (d_ #[b_ c_ 3,b_ c_ 0,b_ c_ (gT y 3),b_ c_ 0] 28))):=gg (gj (gj A.o c) (gr a _));have l:w.heap.size≤(a.alloc (d_ #[b_ c_ 3,b_ c_ 0,b_ c_ (gT y 3),b_ c_ 0] 28)).heap.size:=i.o.size;have C:k+1≤maxLen:=by unfold maxLen;omega
      have H:(k+1)*32≤140737488355328:=by omega
      clear b c p0 L I
      go_wp2_with (at_builtin;refine wpList_append_own _ rfl _ _ 47 rfl w.heap.size 28 Z (e_ #[b_ c_ 0,b_ c_ 0,b_ c_ 0,b_ c_ 0]) 4 32 Tryz.underlying47 hi ad ab ac rfl fZ _ _ _ rfl h.o ⟨a.heap.size,0,none⟩ 1 1 (jg ⟨3,0,(gT y 3),0⟩) rfl rfl F.o (Db _) C H l ?_;intro W w7 D B _)
      go_roundw
      case rel=>exact⟨k+1,by omega,by omega,by go_num,by rw[aa.o,List.map_append,rz];simpa[iC,G.o] using D,i.o.grown B l (fun g e=>(h.o.lt g e).1)⟩
      case measure=>simp[intOf];omega
    have n9:(K == 9)=false:=by simp;omega
    by_cases ai:K=10
    · have ax:(K == 10)=true:=by simp[ai]
      go_upto_region 15 with(go_at_call 23;refine(ri _ _ _ _ (by assumption) f_ rfl).mono ?_;rintro e w' ⟨rfl,rfl⟩)
      obtain⟨a,d⟩:∃ v,v=wr.alloc (d_ #[b_ c_ 4,b_ c_ (gT y 4),b_ c_ 0,b_ c_ 0] 28):=⟨_,rfl⟩;have b:a.heap[wr.heap.size]? = some (d_ #[b_ c_ 4,b_ c_ (gT y 4),b_ c_ 0,b_ c_ 0] 28 (0,0)):=by rw[d];exact gH wr _
      have c:Up wr a:=by rw[d];exact gr wr _
      have G:gi (rE (x,y,z)=⟨4,(gT y 4),0,0⟩):=gg (by unfold rE;simp only[←Y.o];simp[ai]);rw[←d];clear d n7 n8 n9 ax t k9;obtain⟨t0,t1,t2,t3⟩:=kM b;have ae:=gn b;have h:=gg (gy (gy S.o c) (gr a (d_ #[b_ c_ 4,b_ c_ (gT y 4),b_ c_ 0,b_ c_ 0] 28)))
      have F:gi (∀ j u,(jg ⟨4,(gT y 4),0,0⟩)[j]? = some u→(a.alloc (d_ #[b_ c_ 4,b_ c_ (gT y 4),b_ c_ 0,b_ c_ 0] 28)).cell? ((⟨a.heap.size,0,none⟩:Addr).add j)=some u):=gg (fun j u E=>by
       rw[kx,Nat.zero_add];exact gv (gH a _) (by simpa[jg] using E))
      have i:gi (Up w (a.alloc (d_ #[b_ c_ 4,b_ c_ (gT y 4),b_ c_ 0,b_ c_ 0] 28))):=gg (gj (gj A.o c) (gr a _));have l:w.heap.size≤(a.alloc (d_ #[b_ c_ 4,b_ c_ (gT y 4),b_ c_ 0,b_ c_ 0] 28)).heap.size:=i.o.size;have C:k+1≤maxLen:=by unfold maxLen;omega
      have H:(k+1)*32≤140737488355328:=by omega
      clear b c p0 L I
      go_wp2_with (at_builtin;refine wpList_append_own _ rfl _ _ 47 rfl w.heap.size 28 Z (e_ #[b_ c_ 0,b_ c_ 0,b_ c_ 0,b_ c_ 0]) 4 32 Tryz.underlying47 hi ad ab ac rfl fZ _ _ _ rfl h.o ⟨a.heap.size,0,none⟩ 1 1 (jg ⟨4,(gT y 4),0,0⟩) rfl rfl F.o (Db _) C H l ?_;intro W w7 D B _)
      go_roundw
      case rel=>exact⟨k+1,by omega,by omega,by go_num,by rw[aa.o,List.map_append,rz];simpa[iC,G.o] using D,i.o.grown B l (fun g e=>(h.o.lt g e).1)⟩
      case measure=>simp[intOf];omega
    have aq:(K == 10)=false:=by simp;omega
    by_cases am:K=11
    · have az:(K == 11)=true:=by simp[am]
      go_upto_region 14 with(go_at_call 23;refine(ri _ _ _ _ (by assumption) f_ rfl).mono ?_;rintro e w' ⟨rfl,rfl⟩)
      obtain⟨s,q⟩:∃ v,v=wr.alloc (d_ #[b_ c_ 1,b_ c_ (gT y 4),b_ c_ 0,b_ c_ 0] 28):=⟨_,rfl⟩;have U:s.heap[wr.heap.size]? = some (d_ #[b_ c_ 1,b_ c_ (gT y 4),b_ c_ 0,b_ c_ 0] 28 (0,0)):=by rw[q];exact gH wr _
      have m:Up wr s:=by rw[q];exact gr wr _
      rw[←q];clear q;have V:o<s.heap.size:=fN J m.size;have T:=(m.cell (p:=⟨o,_,none⟩) J).trans L;have P:=(m.cell (p:=⟨o,_,none⟩) J).trans I;have s1:=fun v=>gD V T v
      have s2:=fun v=>gD V P v
      have X:=gg U;have R:gi (Up wr s):=gg m;clear T P p0 L I U m;refine ov 12 ga ga ?_
      simp only[List.take_succ_cons,List.take_zero,List.drop_succ_cons,List.drop_zero];repeat(go_big_quiet_step ((go_at_call 23;first|(with_reducible exact oA (ri y 4 _ _ oy f_ rfl))|(with_reducible exact oA (ri z 3 _ _ oz f_ rfl))|(with_reducible exact oA (ri y 3 _ _ oy f_ rfl)))))
      refine wpQuiet_nil ?_
      rintro N ⟨⟨an,c⟩,rfl⟩;have b:=gk c X.o;have M:Up wr N:=gj R.o c;obtain⟨c0,c1,c2,c3⟩:=kM b;have f0:=gC b 0;have f1:=gC b 1;have f2:=gC b 2;have f3:=gC b 3;have af:=gn b;have Q:=gg b;have O:=gg M;clear s1 s2 b M c X R;go_upto_region 15 with(fail)
      clear c0 c1 c2 c3 f0 f1 f2 f3;obtain⟨a,d⟩:∃ v,v=(((N.setCell ⟨wr.heap.size,0,none⟩ (b_ c_ 5)).setCell ⟨wr.heap.size,1,none⟩ (b_ c_ 0)).setCell ⟨wr.heap.size,2,none⟩ (b_ c_ (gT y 3))).setCell ⟨wr.heap.size,3,none⟩ (b_ c_ z):=⟨_,rfl⟩;have b:a.heap[wr.heap.size]? = some (d_ #[b_ c_ 5,b_ c_ 0,b_ c_ (gT y 3),b_ c_ z] 28 (0,0)):=by rw[d];exact jb (jb (jb (jb Q.o 0 _) 1 _) 2 _) 3 _
      have c:Up wr a:=by rw[d];exact gO (gO (gO (gO O.o fL _) fL _) fL _) fL _
      have G:gi (rE (x,y,z)=⟨5,0,(gT y 3),z⟩):=gg (by unfold rE;simp only[←Y.o];simp[am]);rw[←d];clear d n7 n8 n9 aq az t k9 ai;obtain⟨t0,t1,t2,t3⟩:=kM b;have ae:=gn b;have h:=gg (gy (gy S.o c) (gr a (d_ #[b_ c_ 5,b_ c_ 0,b_ c_ (gT y 3),b_ c_ z] 28)))
      have F:gi (∀ j u,(jg ⟨5,0,(gT y 3),z⟩)[j]? = some u→(a.alloc (d_ #[b_ c_ 5,b_ c_ 0,b_ c_ (gT y 3),b_ c_ z] 28)).cell? ((⟨a.heap.size,0,none⟩:Addr).add j)=some u):=gg (fun j u E=>by
       rw[kx,Nat.zero_add];exact gv (gH a _) (by simpa[jg] using E))
      have i:gi (Up w (a.alloc (d_ #[b_ c_ 5,b_ c_ 0,b_ c_ (gT y 3),b_ c_ z] 28))):=gg (gj (gj A.o c) (gr a _));have l:w.heap.size≤(a.alloc (d_ #[b_ c_ 5,b_ c_ 0,b_ c_ (gT y 3),b_ c_ z] 28)).heap.size:=i.o.size;have C:k+1≤maxLen:=by unfold maxLen;omega
      have H:(k+1)*32≤140737488355328:=by omega
      clear b c Q O af
      go_wp2_with (at_builtin;refine wpList_append_own _ rfl _ _ 47 rfl w.heap.size 28 Z (e_ #[b_ c_ 0,b_ c_ 0,b_ c_ 0,b_ c_ 0]) 4 32 Tryz.underlying47 hi ad ab ac rfl fZ _ _ _ rfl h.o ⟨a.heap.size,0,none⟩ 1 1 (jg ⟨5,0,(gT y 3),z⟩) rfl rfl F.o (Db _) C H l ?_;intro W w7 D B _)
      go_roundw
      case rel=>exact⟨k+1,by omega,by omega,by go_num,by rw[aa.o,List.map_append,rz];simpa[iC,G.o] using D,i.o.grown B l (fun g e=>(h.o.lt g e).1)⟩
      case measure=>simp[intOf];omega
    have aw:(K == 11)=false:=by simp;omega
    go_upto_region 15 with(go_at_call 23;refine(ri _ _ _ _ (by assumption) f_ rfl).mono ?_;rintro e w' ⟨rfl,rfl⟩)
    obtain⟨a,d⟩:∃ v,v=wr.alloc (d_ #[b_ c_ 1,b_ c_ (gT y 4),b_ c_ 0,b_ c_ 0] 28):=⟨_,rfl⟩;have b:a.heap[wr.heap.size]? = some (d_ #[b_ c_ 1,b_ c_ (gT y 4),b_ c_ 0,b_ c_ 0] 28 (0,0)):=by rw[d];exact gH wr _
    have c:Up wr a:=by rw[d];exact gr wr _
    have G:gi (rE (x,y,z)=⟨1,(gT y 4),0,0⟩):=gg (by unfold rE;simp only[←Y.o];simp[show ¬ (K=7∨K=8) from t,k9,ai,am]);rw[←d];clear d n7 n8 n9 aq aw;obtain⟨t0,t1,t2,t3⟩:=kM b;have ae:=gn b;have h:=gg (gy (gy S.o c) (gr a (d_ #[b_ c_ 1,b_ c_ (gT y 4),b_ c_ 0,b_ c_ 0] 28)))
    have F:gi (∀ j u,(jg ⟨1,(gT y 4),0,0⟩)[j]? = some u→(a.alloc (d_ #[b_ c_ 1,b_ c_ (gT y 4),b_ c_ 0,b_ c_ 0] 28)).cell? ((⟨a.heap.size,0,none⟩:Addr).add j)=some u):=gg (fun j u E=>by
     rw[kx,Nat.zero_add];exact gv (gH a _) (by simpa[jg] using E))
    have i:gi (Up w (a.alloc (d_ #[b_ c_ 1,b_ c_ (gT y 4),b_ c_ 0,b_ c_ 0] 28))):=gg (gj (gj A.o c) (gr a _));have l:w.heap.size≤(a.alloc (d_ #[b_ c_ 1,b_ c_ (gT y 4),b_ c_ 0,b_ c_ 0] 28)).heap.size:=i.o.size;have C:k+1≤maxLen:=by unfold maxLen;omega
    have H:(k+1)*32≤140737488355328:=by omega
    clear b c p0 L I
    go_wp2_with (at_builtin;refine wpList_append_own _ rfl _ _ 47 rfl w.heap.size 28 Z (e_ #[b_ c_ 0,b_ c_ 0,b_ c_ 0,b_ c_ 0]) 4 32 Tryz.underlying47 hi ad ab ac rfl fZ _ _ _ rfl h.o ⟨a.heap.size,0,none⟩ 1 1 (jg ⟨1,(gT y 4),0,0⟩) rfl rfl F.o (Db _) C H l ?_;intro W w7 D B _)
    go_roundw
    case rel=>exact⟨k+1,by omega,by omega,by go_num,by rw[aa.o,List.map_append,rz];simpa[iC,G.o] using D,i.o.grown B l (fun g e=>(h.o.lt g e).1)⟩
    case measure=>simp[intOf];omega
  · have hst:k=(uP f).length∧(f.take k).map rE=uP f:=by
     have hl:=HL.o;unfold uP;by_cases h1:len≤120
     · have:k=len:=by omega
       rw[List.take_of_length_le f_,List.take_of_length_le f_];exact⟨by simp;omega,rfl⟩
     · have:k=120:=by omega
       subst this;exact⟨by simp;omega,rfl⟩
    have HT:=gg hst;clear hst;by_cases h1:k<len
    · have h2:k=120:=by omega
      subst h2
      go_wp2
      go_ret;exact⟨_,rfl,by rw[←HT.o.1,←HT.o.2];exact S.o,A.o⟩
    · go_wp2
      go_ret;exact⟨_,rfl,by rw[←HT.o.1,←HT.o.2];exact S.o,A.o⟩
end
