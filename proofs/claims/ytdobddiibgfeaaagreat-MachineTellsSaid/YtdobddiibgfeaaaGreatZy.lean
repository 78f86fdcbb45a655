/- What the walks of this statement lean on: shown. -/
import Derived.Test.YtdobddiibgfeaaaGreatZx
set_option linter.all false
set_option maxRecDepth 100000
set_option maxHeartbeats 16000000
namespace Go.Proofs.YtdobddiibgfeaaaGreat
open Value renaming slice→a_,int→b_,agg→e_,pointer→fG,tuple→fI,bool→fJ
open IntKind renaming i64→c_
open Obj renaming cells→d_
open Ending renaming returned→fH
open Go.Proofs.Tryz renaming prog→gd
open Go.RowKit
def BI (Q:Int) (i:Nat):Int:=1+(Q+i).tmod 3
def A5 (Q n:Int) (i:Nat):Ln:=⟨(Q+i).tmod n,1+(Q+2*i).tmod 7,false⟩
def yR (k:Int):List Int:=(List.range (gT k 4).toNat).map (BI ((gT k 100).tdiv 4))
def yQ (n l:Int):List Ln:=(List.range (gT l 4).toNat).map (A5 ((gT l 100).tdiv 4) n)
def vd (h:Int):Nat:=(1+gT h 4).toNat
def Dl (a:List (Int×Int×Int×Int)) (h k l:Int):i8:=sK (vd h) (pP a) 4 (yR k) (yQ (vd h) l)
theorem Gd (h):1≤vd h∧vd h≤4:=by
 have:=mL h 4 f_;unfold vd;omega
theorem Kk (h):((vd h:Nat):Int)=1+gT h 4:=by
 have:=mL h 4 f_;unfold vd;omega
theorem Ez (c):0≤(gT c 100).tdiv 4∧(gT c 100).tdiv 4<25:=by
 have:=mL c 100 f_;rw[Int.tdiv_eq_ediv_of_nonneg this.1];omega
theorem Hu {Q} (hQ:0≤Q) (i):1≤BI Q i∧BI Q i≤3:=by
 unfold BI;rw[Int.tmod_eq_emod_of_nonneg f_];omega
theorem Hs {Q} (hQ:0≤Q) {n} (a:0<n) (i):(0≤(A5 Q n i).h∧(A5 Q n i).h<n)∧1≤(A5 Q n i).p∧(A5 Q n i).p≤7:=by
 unfold A5;simp only;rw[Int.tmod_eq_emod_of_nonneg f_,Int.tmod_eq_emod_of_nonneg f_];exact⟨⟨Int.emod_nonneg _ f_,Int.emod_lt_of_pos _ a⟩,by omega,by omega⟩
theorem G6 (k):(yR k).length≤3:=by
 have:=mL k 4 f_;simp[yR];omega
theorem G5 (n l):(yQ n l).length≤3:=by
 have:=mL l 4 f_;simp[yQ];omega
theorem Hh (k):(yR k).any jY=false:=by
 rw[List.any_eq_false];intro x a;obtain⟨i,_,rfl⟩:=List.mem_map.1 a;have:=Hu (Ez k).1 i;simp[jY,this]
theorem KX (n:Nat) (b:0<n) (l):(yQ n l).any (jK n)=false:=by
 rw[List.any_eq_false];intro x a;obtain⟨i,_,rfl⟩:=List.mem_map.1 a;have:=Hs (Ez l).1 (n:=(n:Int)) f_ i;simp[jK];omega
theorem M9 (a):(pP a).length≤36:=by
 have:=K8 (Dp a);have h2:(Dp a).length=(rp a).length+1:=by simp[Dp]
 have:=FQ a;unfold pP;omega
theorem G7 {n a mem b e} (g:1≤n∧n≤4) (o:a.length≤65536) (i:∀ z∈a,0≤z∧z<4294967296) (m:mem≤4096) (d:b.length≤8) (hl:e.length≤8) (l:b.any jY=false):gF (sK n a mem b e) n 0 where
 words:=by show a.length≤_;omega
 word:=fun z f=>by have:=i z f;unfold iy;omega
 few:=g
 harts:=by simp[sK]
 fine:=fun h c=>by obtain⟨_,rfl⟩:=List.mem_replicate.1 c;exact Mw
 num:=⟨fun z c=>by obtain⟨_,rfl⟩:=List.mem_replicate.1 c;decide,fun l c x d=>by obtain⟨_,rfl⟩:=List.mem_replicate.1 c;cases d⟩
 ends:=by simp[sK]
 mem:=⟨mem,by omega,vX n mem⟩
 devs:=by simpa[sK] using d
 dev:=fun s j=>by
  obtain⟨k,d,rfl⟩:=List.mem_map.1 j;refine zP k ?_
  have:=List.any_eq_false.1 l k d
  simpa[jY] using this
 lines:=by simpa[sK] using hl
 trace:=by simp[sK]
theorem Me a (h k l):gF (Dl a h k l) (vd h) 0:=
 G7 (Gd h) (by have:=M9 a;omega) (H0 _) fZ (by have:=G6 k;omega) (by have:=G5 (vd h) l;omega) (Hh k)
theorem Ck:(gd.info? 64).map (fun i=>(i.zero,i.size,i.bytes))=some (some (e_ #[b_ c_ 0,b_ c_ 0,fJ false]),3,24):=by kernel_rfl
theorem IA {α:Type} (f:Nat→α) (j):(List.range (j+1)).map f=(List.range j).map f ++ [f j]:=by rw[List.range_succ,List.map_append];rfl
theorem Lv v C S c d w (hs:jM 4 c4 w v C) (aS:∀ r∈C,C6 r) (ih:iy S) (ik:iy c) (il:iy d) :
 Calls gd 15 #[v,b_ c_ S,b_ c_ c,b_ c_ d] w fun e w'=>∃ v',e =fH v'∧gJ w' v' (Dl C S c d)∧Up w w':=by
 obtain⟨sa,sc,rfl,a9,aK,be⟩:=hs;have HS:gi (jM 4 c4 w (a_ sa C.length sc) C):=gg ⟨sa,sc,rfl,a9,aK,be⟩;have bi:=gg aS;obtain⟨len,aB⟩:∃ n,n=C.length:=⟨_,rfl⟩;have bG:=gg aB;rw[←aB];clear be a9 aK aS aB;have bH:=mL S 4 f_;obtain⟨n,hn⟩:∃ m:Nat,m=vd S:=⟨_,rfl⟩;have bB:1≤n∧n≤4:=by rw[hn];exact Gd S
 have aV:1+gT S 4=(n:Int):=by rw[hn];exact(Kk S).symm
 have bj:gi (Dl C S c d=sK n (pP C) 4 (yR c) (yQ n d)):=gg (by rw[hn];rfl);clear hn;obtain⟨PH,aw⟩:∃ v,gT S 4=v:=⟨_,rfl⟩;rw[aw] at aV;have bq:=gg aw;clear aw;have e1:c_.wrap (1+PH)=(n:Int):=by rw[aV];exact IntWalk.i64_in _ f_
 have bK:=mL c 4 f_;have bL:=mL d 4 f_;obtain⟨nk,ap⟩:∃ m:Nat,gT c 4=m:=⟨(gT c 4).toNat,by omega⟩;obtain⟨nl,ao⟩:∃ m:Nat,gT d 4=m:=⟨(gT d 4).toNat,by omega⟩;have qK:=Ez c;have qL:=Ez d;have aL:=mL c 100 f_;have a7:=mL d 100 f_;have ak:gi (yR c=(List.range nk).map (BI ((gT c 100).tdiv 4))):=gg (by unfold yR;rw[ap];rfl);have al:gi (yQ n d=(List.range nl).map (A5 ((gT d 100).tdiv 4) n)):=gg (by unfold yQ;rw[ao];rfl);rw[ap] at bK;rw[ao] at bL;have bb:=gg ap;have aW:=gg ao;obtain⟨K1,aD⟩:∃ v,gT c 100=v:=⟨_,rfl⟩;obtain⟨L1,aE⟩:∃ v,gT d 100=v:=⟨_,rfl⟩;have bm:=gg aD;have bn:=gg aE;rw[aD] at qK aL ak;rw[aE] at qL a7 al;clear ap ao aD aE;have e2:c_.wrap (K1.tdiv 4)=K1.tdiv 4:=IntWalk.i64_in _ f_;have e3:c_.wrap (L1.tdiv 4)=L1.tdiv 4:=IntWalk.i64_in _ f_;obtain⟨Y,aF⟩:∃ v,K1.tdiv 4=v:=⟨_,rfl⟩;obtain⟨X,aA⟩:∃ v,L1.tdiv 4=v:=⟨_,rfl⟩;have dK:c_.wrap (K1.tdiv 4)=Y:=e2.trans aF;have dL:c_.wrap (L1.tdiv 4)=X:=e3.trans aA;rw[aF] at qK ak;rw[aA] at qL al;clear e2 e3 aF aA;obtain⟨i1,bF,br,bt,bv⟩:=info_parts yT;obtain⟨i2,bp,bg,bw,bs⟩:=info_parts Ck;obtain⟨w1,aN,aX,a2,_⟩:=pC w (d_ gq 37);have aT:=gg aX;have a0:=gg a2;clear aX a2 aL a7 bH;go_in;go_upto_region 1 with(fail)
 rw[←aN];clear aN
 go_wp2_with (go_at_call 23;((with_reducible refine(sF S 4 PH _ ih f_ bq).mono ?_);rintro e w' ⟨rfl,rfl⟩))
 go_loopw [10,11] (fun kv i wr=>∃ (j:Nat) (ka:Option Addr) (kc:Nat),j≤nk∧i =b_ c_ j∧kv =a_ ka j kc∧wr.ownsRow w.heap.size 3 1 (a_ ka j kc) j (gz ((List.range j).map (BI Y)))∧wr.heap[w.heap.size]? = some (d_ gq 37 (0,0))∧Up w wr) (fun _ i _=>nk - (intOf i).toNat)
 case atStart=>exact⟨0,none,0,fM,rfl,rfl,World.ownsRow_nil _ _ _ _,aT.o,a0.o⟩
 case round=>
  obtain⟨j,ka,kc,hj,rfl,rfl,ho,hx,hb⟩:=hrel;have HO:=gg ho;have HX:=gg hx;have HB:=gg hb;clear ho hx hb aT a0;by_cases bM:j<nk
  · have bx:=Hu qK.1 j
    have e4:c_.wrap (Y+j)=Y+j:=IntWalk.i64_in _ f_;obtain⟨k,bE⟩:∃ v,(Y+(j:Int)).tmod 3=v:=⟨_,rfl⟩;have HE:gi (BI Y j=1+k):=gg (by rw[←bE];rfl);rw[HE.o] at bx;have e6:c_.wrap k=k:=IntWalk.i64_in _ f_;have e7:c_.wrap (1+k)=1+k:=IntWalk.i64_in _ f_;have az:=gg (gy HO.o (gr wr (d_ #[b_ c_ (1+k)] 3)));have aC:=gg (gk (gr wr (d_ #[b_ c_ (1+k)] 3)) HX.o);have aU:=gg (gj HB.o (gr wr (d_ #[b_ c_ (1+k)] 3)))
    have HC:gi (∀ j u,(gz [1+k])[j]? = some u→(wr.alloc (d_ #[b_ c_ (1+k)] 3)).cell? ((⟨wr.heap.size,0,none⟩:Addr).add j)=some u):=gg (fun j u hj=>by
     rw[kx,Nat.zero_add];exact gv (gH wr _) (by simpa[gz] using hj))
    have ah:w.heap.size≤(wr.alloc (d_ #[b_ c_ (1+k)] 3)).heap.size:=aU.o.size;have au:j+1≤maxLen:=by unfold maxLen;omega
    have aI:(j+1)*8≤140737488355328:=by omega
    have aG:=gS az.o aC.o fZ
    go_wp2_with (first|(go_at_call 23;first|((with_reducible refine(sF c 4 nk _ ik f_ bb).mono ?_);rintro e w' ⟨rfl,rfl⟩)|((with_reducible refine(sF c 100 K1 _ ik f_ bm).mono ?_);rintro e w' ⟨rfl,rfl⟩))|(at_builtin;refine wpList_append_own _ rfl _ _ 24 rfl w.heap.size 3 i1 (b_ c_ 0) 1 8 Tryz.underlying24 bF br bt bv rfl fZ _ _ _ rfl az.o ⟨wr.heap.size,0,none⟩ 1 1 (gz [1+k]) rfl rfl HC.o (by simp[gz,Value.oneCell']) au aI ah ?_;intro v' w8 Z ag _;obtain⟨xt,yt,rfl⟩:=gN Z;have av:=gg Z;have ad:=gg ag;clear Z ag))
    go_roundw
    case rel=>exact⟨j+1,xt,yt,by omega,by go_num,rfl,by rw[IA,HE.o];simpa[gz] using av.o,(ad.o.block w.heap.size (gn aC.o) (fun e=>aG e.symm)).trans aC.o,aU.o.grown ad.o ah (fun g e=>(az.o.lt g e).1)⟩
    case measure=>simp[intOf];omega
  · have bC:j=nk:=by omega
    subst bC;obtain⟨w2,bd⟩:∃ x,x=wr:=⟨_,rfl⟩;rw[←bd] at HO HX HB ⊢
    clear bd
    go_wp2_with (go_at_call 23;((with_reducible refine(sF c 4 j _ ik f_ bb).mono ?_);rintro e w' ⟨rfl,rfl⟩))
    have bI:((n:Int) == 0)=false:=by simp;omega
    go_loopw [12,13] (fun lv i wr=>∃ (m:Nat) (la:Option Addr) (lc:Nat),m≤nl∧i =b_ c_ m∧lv =a_ la m lc∧wr.ownsRow w.heap.size 64 3 (a_ la m lc) m (iC j_ ((List.range m).map (A5 X n)))∧wr.ownsRow w.heap.size 3 1 (a_ ka j kc) j (gz ((List.range j).map (BI Y)))∧wr.heap[w.heap.size]? = some (d_ gq 37 (0,0))∧Up w wr) (fun _ i _=>nl - (intOf i).toNat)
    case atStart=>exact⟨0,none,0,fM,rfl,rfl,World.ownsRow_nil _ _ _ _,HO.o,HX.o,HB.o⟩
    case round=>
     obtain⟨m,la,lc,hm,rfl,rfl,hl,ho,hx,hb⟩:=hrel;have ai:=gg hl;have aj:=gg ho;have ab:=gg hx;have aa:=gg hb;clear hl ho hx hb HO HX HB;by_cases bO:m<nl
     · have aR:=Hs qL.1 (n:=(n:Int)) f_ m
       have e4:c_.wrap (X+m)=X+m:=IntWalk.i64_in _ f_;have bN:c_.wrap (2*(m:Int))=2*(m:Int):=IntWalk.i64_in _ f_;have bJ:c_.wrap (X+2*(m:Int))=X+2*(m:Int):=IntWalk.i64_in _ f_;obtain⟨W,bk⟩:∃ v,(X+(m:Int)).tmod n=v:=⟨_,rfl⟩;obtain⟨z,bh⟩:∃ v,(X+2*(m:Int)).tmod 7=v:=⟨_,rfl⟩;have HE:gi (A5 X n m=⟨W,1+z,false⟩):=gg (by rw[←bk,←bh];rfl);rw[HE.o] at aR;simp only at aR;have e5:c_.wrap W=W:=IntWalk.i64_in _ f_;have e6:c_.wrap z=z:=IntWalk.i64_in _ f_;have e7:c_.wrap (1+z)=1+z:=IntWalk.i64_in _ f_;obtain⟨w3,ae⟩:∃ x,x=wr:=⟨_,rfl⟩;rw[←ae] at ai aj ab aa ⊢
       clear ae;go_upto_region 11 with(go_at_call 23;((with_reducible refine(sF d 4 nl _ il f_ aW).mono ?_);rintro e w' ⟨rfl,rfl⟩))
       refine fY (fun w'=>Up w3 w') 18 [true,true,true,true,true,true,true,true,true,true,true,true,true,true,true,true,true] (fun a b h hu=>gj h hu) fK ?a3 ?h3 ?ht3
       case h3=>
        intro w0 _;simp only[jd];repeat(go_big_quiet_step ((go_at_call 23;with_reducible exact oA (sF d 100 L1 _ il f_ bn))))
        refine wpQuiet_nil ?_
        rfl
       case ht3=>
        change kD _ _ _ _ _ _ 1 _ _ _;refine jQ (i:=17) ga fZ rfl ?_
        intro w4 bz ar
        go_wp2_with fail
        refine⟨gj ar (gr _ _),?_⟩;refine lR ga ?_
        intro f aH _;have af:=gj ar (gj (gr w4 (d_ #[b_ c_ W,b_ c_ (1+z),fJ false] 64)) aH);have aZ:f.heap[w4.heap.size]? = some (d_ #[b_ c_ W,b_ c_ (1+z),fJ false] 64 (0,0)):=gk aH (gH w4 _);have aq:=gg (gy ai.o af);have bf:=gg (gy aj.o af);have ay:=gg (gk af ab.o);have ac:=gg (gj aa.o af)
        have HC:gi (∀ j u,(j_ ⟨W,1+z,false⟩)[j]? = some u→f.cell? ((⟨w4.heap.size,0,none⟩:Addr).add j)=some u):=gg (fun j u hj=>by
         rw[kx,Nat.zero_add];exact gv aZ (by simpa[j_] using hj))
        have ah:w.heap.size≤f.heap.size:=ac.o.size;have au:m+1≤maxLen:=by unfold maxLen;omega
        have aI:(m+1)*24≤140737488355328:=by omega
        have aG:=gS aq.o ay.o fZ;clear aH af aZ ar bz ai aj ab aa
        try simp only[List.drop_succ_cons,List.drop_zero]
        go_wp2_with (at_builtin;refine wpList_append_own _ rfl _ _ 25 rfl w.heap.size 64 i2 (e_ #[b_ c_ 0,b_ c_ 0,fJ false]) 3 24 Tryz.underlying25 bp bg bw bs rfl fZ _ _ _ rfl aq.o ⟨w4.heap.size,0,none⟩ 1 1 (j_ ⟨W,1+z,false⟩) rfl rfl HC.o (Dk _) au aI ah ?_;intro v' w8 Z ag _;obtain⟨xt,yt,rfl⟩:=gN Z;have av:=gg Z;have ad:=gg ag;clear Z ag)
        go_roundw
        case rel=>exact⟨m+1,xt,yt,by omega,by go_num,rfl,by rw[IA,HE.o,rz];simpa[iC] using av.o,nC bf.o ad.o (fun g e=>ku aq.o bf.o fZ e),(ad.o.block w.heap.size (gn ay.o) (fun e=>aG e.symm)).trans ay.o,ac.o.grown ad.o ah (fun g e=>(aq.o.lt g e).1)⟩
        case measure=>simp[intOf];omega
     · have bo:m=nl:=by omega
       subst bo
       have ba:gi (gl wr 1 (yR c).length (a_ ka j kc) (gz (yR c))):=gg (by
        have:=gl.own aj.o (by simp[gz,Value.oneCell']);rw[ak.o];simpa using this)
       have a6:gi (gl wr 3 (yQ n d).length (a_ la m lc) (iC j_ (yQ n d))):=gg (by
        have:=gl.own ai.o (DW fun x _=>Dk x);rw[al.o];simpa using this)
       have k8:=G6 c;have l8:=G5 n d;have bl:=gg (Hh c);have bA:=gg (KX n f_ d);have a4:gi (jM 4 c4 wr (a_ sa len sc) C):=gg (by rw[bG.o];exact HS.o.below aa.o);obtain⟨w3,ae⟩:∃ x,x=wr:=⟨_,rfl⟩;rw[←ae] at ba a6 a4 ab aa ⊢
       clear ae ak al ai aj HS;go_upto_region 12 with(go_at_call 23;((with_reducible refine(sF d 4 m _ il f_ aW).mono ?_);rintro e w' ⟨rfl,rfl⟩))
       go_upto_region 13 with(first|(go_at_call 12;((with_reducible refine(nJ _ C _ a4.o bi.o).mono ?_);rintro e w4 ⟨v4,rfl,bc,a5⟩;have bD:=gg bc;have ax:=gg a5;clear bc a5))|(go_at_call 11;((with_reducible refine(GD n _ _ _ (pP C) 4 (yR c) (yQ n d) _ bD.o (ba.o.below ax.o).e (a6.o.below ax.o).e bB f_ f_ bl.o bA.o).mono ?_);rintro e f ⟨v5,rfl,aJ,aQ⟩;have a8:=gg aJ;have ac:=gg (gj ax.o aQ);obtain⟨s,O,l,o,D,t,A,y,N,P,M,F,R,H,T,J,Q,U,K,E,V,G,B,L,I,q,p,rfl⟩:=GQ aJ;clear aJ aQ))|(refine wpList_store_row rfl 37 _ _ rfl f.heap.size #[a_ s O l,a_ o D t,a_ A y N,a_ P M F,a_ R H T,a_ J Q U,a_ K E V,a_ G B L,a_ I q p] rfl rfl 37 gq (gH f _) je rfl (by simp[Value.oneCell']) ?_))
       have am:Up f ((f.alloc (d_ gq 37)).setRow f.heap.size #[a_ s O l,a_ o D t,a_ A y N,a_ P M F,a_ R H T,a_ J Q U,a_ K E V,a_ G B L,a_ I q p]):=below_setRow (gr f _) fL _;have a1:gi (((f.alloc (d_ gq 37)).setRow f.heap.size #[a_ s O l,a_ o D t,a_ A y N,a_ P M F,a_ R H T,a_ J Q U,a_ K E V,a_ G B L,a_ I q p]).heap[f.heap.size]? = some (d_ #[a_ s O l,a_ o D t,a_ A y N,a_ P M F,a_ R H T,a_ J Q U,a_ K E V,a_ G B L,a_ I q p] 37 (0,0))):=gg (setRow_heap _ _ _ _ _ _ (gH f _));have aP:=gg (a8.o.below am);have an:=gg (gk am (gk ac.o ab.o));have aM:=gg (gj (gj aa.o ac.o) am);clear am;obtain⟨w6,aY⟩:∃ x,x=(f.alloc (d_ gq 37)).setRow f.heap.size #[a_ s O l,a_ o D t,a_ A y N,a_ P M F,a_ R H T,a_ J Q U,a_ K E V,a_ G B L,a_ I q p]:=⟨_,rfl⟩;rw[←aY] at a1 aP an aM ⊢
       clear aY a8 ac ab aa;have bu:=gg (aP.o.row9 (cs':=#[a_ s O l,a_ o D t,a_ A y N,a_ P M F,a_ R H T,a_ J Q U,a_ K E V,a_ G B L,a_ I q p]) an.o (fun i v h=>⟨none,0,0,Gp h⟩));have aO:gi ((w6.setRow w.heap.size #[a_ s O l,a_ o D t,a_ A y N,a_ P M F,a_ R H T,a_ J Q U,a_ K E V,a_ G B L,a_ I q p]).heap[w.heap.size]? = some (d_ #[a_ s O l,a_ o D t,a_ A y N,a_ P M F,a_ R H T,a_ J Q U,a_ K E V,a_ G B L,a_ I q p] 37 (0,0))):=gg (setRow_heap _ _ _ _ _ _ an.o);obtain⟨r0,r1,r2,r3,r4,r5,r6,r7,r8⟩:=gU aO.o;have R0:=gg r0;have W:=gg r1;have z:=gg r2;have k:=gg r3;have R4:=gg r4;have R5:=gg r5;have R6:=gg r6;have R7:=gg r7;have R8:=gg r8;clear r0 r1 r2 r3 r4 r5 r6 r7 r8 aO;generalize f.heap.size=b5 at *
       go_wp2_with (first|(refine wpList_load_row rfl 37 _ rfl b5 rfl 37 #[a_ s O l,a_ o D t,a_ A y N,a_ P M F,a_ R H T,a_ J Q U,a_ K E V,a_ G B L,a_ I q p] (0,0) _ a1.o Tryz.underlying37 rfl je ?_)|(refine wpList_store_row rfl 37 _ _ rfl w.heap.size #[a_ s O l,a_ o D t,a_ A y N,a_ P M F,a_ R H T,a_ J Q U,a_ K E V,a_ G B L,a_ I q p] rfl rfl 37 gq an.o je rfl (by simp[Value.oneCell']) ?_))
       exact bodyPost_ret (v:=e_ #[a_ s O l,a_ o D t,a_ A y N,a_ P M F,a_ R H T,a_ J Q U,a_ K E V,a_ G B L,a_ I q p]) (by simp[results,Tryz.results15,go_sem,R0.o,W.o,z.o,k.o,R4.o,R5.o,R6.o,R7.o,R8.o]) rfl ⟨_,rfl,by rw[bj.o];exact bu.o,below_setRow aM.o fL _⟩
section
section
variable {w:World} {M:i8}
theorem IZ {v a cs' b} (h:gJ w v M) (d:w.heap[b]? = some (d_ a 37 (0,0))) (c:kw a):gJ (w.setRow b cs') v M:=h.row9 d c.all
end
theorem IR {α:Type} {k B e n:Nat} {f w v} {l:List α} (h:w.ownsRow B e k v n (iC f l)) (s:n=l.length) (b:∀ x∈l,(f x).length=k):jM k f w v l:=by
 subst s;have h0:=h;obtain⟨h1,h2⟩:=h;rcases h2 with⟨rfl,h2⟩|⟨g,c,C,rfl,z,m,q,p,A,ht⟩
 · exact⟨none,0,by rw[h2],by omega,by unfold maxLen;omega,.inl (fT h2)⟩
 · refine⟨some ⟨g,0,none⟩,c,rfl,q,p,.inr ⟨g,0,rfl,gn m,fun i r a j u d=>?_⟩⟩
   have t:i<l.length:=(fR a).1
   have o:j<k:=by
    have:=(fR d).1;rw[b r (List.mem_of_getElem? a)] at this;exact this
   have y:i*k+j<l.length*k:=by
    have:(i+1)*k≤l.length*k:=Nat.mul_le_mul_right k t;rw[Nat.succ_mul] at this;omega
   rw[Nat.zero_add];exact(h0.cellAt (i*k+j) y).trans ((lI b a o).trans d)
theorem jM.take {α:Type} {k f w a n c} {l:List α} (h:jM k f w (a_ a n c) l) {m} (g:m≤n):jM k f w (a_ a m c) (l.take m):=by
 obtain⟨a',t,e,h1,h2,h3⟩:=h;injection e with e1 e2 e3
 subst e1 e2 e3;refine⟨_,_,by rw[List.length_take,Nat.min_eq_left g],by rw[List.length_take];omega,h2,?_⟩;rcases h3 with rfl|⟨b,o,rfl,q,p⟩
 · exact .inl gb
 · refine .inr ⟨b,o,rfl,q,fun i r d j u s=>p i r ?_ j u s⟩
   rw[List.getElem?_take] at d;split at d
   · exact d
   · cases d
end
theorem o_:(gd.info? 28).map (·.size)=some 4:=by kernel_rfl
theorem sH {w b cs M} (h:ld w b cs M):(loadVar 37 ⟨b,0,none⟩).run gd w = .ok (e_ cs) w:=run_loadVar_row w b _ _ cs (0,0) _ h.at_ Tryz.underlying37 rfl h.nine.info
def oY:i8:=sK 1 [268436151,5414947] 0 [1] [⟨0,1,false⟩]
def vt:List vp:=[⟨1,0,0,0⟩,⟨1,0,0,0⟩,⟨1,0,0,0⟩,⟨1,0,0,0⟩,⟨3,0,0,0⟩]
theorem Bd:gi (kq ⟨1,5,0,0,65536⟩=268436151)∧gi (kA ⟨1,5,0,0,65536⟩=0):=⟨gg ga,gg ga⟩
theorem Be:gi (kq ⟨12,0,5,5,0⟩=5414947)∧gi (kA ⟨12,0,5,5,0⟩=0):=⟨gg ga,gg ga⟩
theorem BX:(iX oY vt).2=4:=by kernel_rfl
theorem Dx:(iX oY vt).1.trace=[⟨0,0,0,true,268435456⟩]:=by kernel_rfl
theorem Bf:(iX oY vt).1.ends=[2]:=by kernel_rfl
theorem Dt:(iX oY vt).1.lines=[⟨0,1,true⟩]:=by kernel_rfl
theorem Ds:oU (iX oY vt).1 0 = -1:=by kernel_rfl
theorem Dv:(lW (iX oY vt).1 ⟨1,0,0,0⟩).2=100:=by kernel_rfl
theorem Dw:(lW oY ⟨4,0,0,0⟩).2=101:=by kernel_rfl
theorem Du:decide (oY=(iX oY vt).1)=false:=decide_eq_false fun h=>by
 have:=congrArg i8.ends h;rw[Bf] at this;exact absurd this fZ
theorem Jk:gF oY 1 0:=G7 fZ fZ fZ fZ fZ fZ rfl
theorem Ab {P} {F:Nat} {args w M} (h:Calls P F args w fun e w'=>∃ a,e =fH (fI #[a,b_ c_ 0])∧gJ w' a M∧Up w w') :
 Calls P F args w fun e w'=>∃ cs,e =fH (fI #[e_ cs,b_ c_ 0])∧kw cs∧gi (gJ w' (e_ cs) M)∧gi (Up w w'):=h.mono fun e w' ⟨a,he,b,d⟩=>by
 obtain⟨cs,rfl,c⟩:=oR b;exact⟨cs,he,c,gg b,gg d⟩
theorem oZ {w v M H N} k h x n (a:gJ w v M) (b:gi (gF M H N)) (c:N≤100000) :
 Calls gd 17 #[v,e_ #[b_ c_ k,b_ c_ h,b_ c_ x,b_ c_ n]] w fun e w'=>∃ cs,e =fH (fI #[e_ cs,b_ c_ (lW M ⟨k,h,x,n⟩).2])∧kw cs∧gi (gJ w' (e_ cs) (lW M ⟨k,h,x,n⟩).1)∧gi (Up w w'):=(vK v M H N w k h x n a b.o c).mono fun e w' ⟨g,he,a,f⟩=>by
 obtain⟨cs,rfl,d⟩:=oR a;exact⟨cs,he,d,gg a,gg f⟩
theorem Ha {w v b M l H N} (a:gJ w v M) (h:jM 4 jg w b l) (c:gi (gF M H N)) (d:N+l.length≤100000) :
 Calls gd 22 #[v,b] w fun e w'=>∃ cs,e =fH (fI #[e_ cs,b_ c_ (iX M l).2])∧kw cs∧gi (gJ w' (e_ cs) (iX M l).1)∧gi (Up w w'):=(AE v b M l H N w a h c.o d).mono fun e w' ⟨i,he,a,g⟩=>by
 obtain⟨cs,rfl,f⟩:=oR a;exact⟨cs,he,f,gg a,gg g⟩
theorem Gg {P} {F:Nat} {args w n m M} (e:n=m) (h:Calls P F args w fun e w'=>∃ cs,e =fH (fI #[e_ cs,b_ c_ n])∧kw cs∧gi (gJ w' (e_ cs) M)∧gi (Up w w')) :
 Calls P F args w fun e w'=>∃ cs,e =fH (fI #[e_ cs,b_ c_ m])∧kw cs∧gi (gJ w' (e_ cs) M)∧gi (Up w w'):=by rw[←e];exact h
theorem ze (w):Calls gd 10 #[] w fun e w'=>e =fH (fJ true)∧Up w w':=by
 go_in;go_upto_region 3 with(go_at_call 25;first|((with_reducible refine(Gl 1 5 0 0 65536 268436151 0 _ Bd.1 Bd.2).mono ?_);rintro e w1 ⟨rfl,aq⟩;have B1:=gg aq;clear aq)|((with_reducible refine(Gl 12 0 5 5 0 5414947 0 _ Be.1 Be.2).mono ?_);rintro e w2 ⟨rfl,af⟩;have B2:=gg (gj B1.o af);clear af))
 obtain⟨f,ae,aA,ak,ap,ag,aP⟩:=Eh w2 (d_ #[b_ c_ 268436151,b_ c_ 5414947] 3) (d_ #[b_ c_ 1] 3) (d_ #[b_ c_ 0,b_ c_ 1,fJ false] 64);have r1:gl f 1 2 (a_ (some ⟨w2.heap.size,0,none⟩) 2 2) (gz [268436151,5414947]):=gl.own (Dd (B:=0) aA f_ rfl fZ) (by simp[gz,Value.oneCell']);have r2:gl f 1 1 (a_ (some ⟨w2.heap.size+1,0,none⟩) 1 1) (gz [1]):=gl.own (Dd (B:=0) ak f_ rfl fZ) (by simp[gz,Value.oneCell']);have r3:gl f 3 1 (a_ (some ⟨w2.heap.size+2,0,none⟩) 1 1) (iC j_ [⟨0,1,false⟩]):=gl.own (Dd (B:=0) ap f_ rfl fZ) (by simp[iC,j_,Value.oneCell'])
 have HN:gi (Calls gd 11 #[b_ c_ 1,e_ #[a_ (some ⟨w2.heap.size,0,none⟩) 2 2,b_ c_ 0,a_ none 0 0],a_ (some ⟨w2.heap.size+1,0,none⟩) 1 1,a_ (some ⟨w2.heap.size+2,0,none⟩) 1 1] f fun e w'=>∃ cs,e =fH (fI #[e_ cs,b_ c_ 0])∧kw cs∧gi (gJ w' (e_ cs) oY)∧gi (Up f w')):=gg
  (Ab (GD 1 _ _ _ [268436151,5414947] 0 [1] [⟨0,1,false⟩] f ⟨⟨_,_,rfl,r1⟩,by decide,by decide,by decide⟩ r2.e r3.e fZ fZ fZ rfl rfl))
 have B3:=gg (gj B2.o ag);clear r1 r2 r3 aA ak ap ag aP B1 B2;go_upto_region 4 with(first|(go_at_call 11;rw[←ae];((with_reducible refine HN.o.mono ?_);rintro e c ⟨c4,rfl,h,m4,b4⟩))|(refine wpList_store_row rfl 37 _ _ rfl (c.heap.size) c4 rfl rfl 37 gq (gH c _) h.info (by rw[mj.size,h.size]) h.one ?_))
 obtain⟨a,H⟩:∃ x,x=(c.alloc (d_ gq 37)).setRow c.heap.size c4:=⟨_,rfl⟩;have V5:gi (ld a c.heap.size c4 oY):=gg (by rw[H];exact BK c h m4.o);have B5:gi (Up w a):=gg (by rw[H];exact gj (gj B3.o b4.o) (yX c c4));rw[←H];clear H ae HN B3 b4 m4;generalize c.heap.size=b5 at *
 go_upto_region 5 with(refine wpList_store_row rfl 28 _ _ rfl a.heap.size #[b_ c_ 1,b_ c_ 0,b_ c_ 0,b_ c_ 0] rfl rfl 28 #[b_ c_ 0,b_ c_ 0,b_ c_ 0,b_ c_ 0] (gH a _) o_ rfl (by simp[Value.oneCell']) ?_)
 obtain⟨F,C⟩:∃ x,x=(a.alloc (d_ #[b_ c_ 0,b_ c_ 0,b_ c_ 0,b_ c_ 0] 28)).setRow a.heap.size #[b_ c_ 1,b_ c_ 0,b_ c_ 0,b_ c_ 0]:=⟨_,rfl⟩;have aa:Up a F:=by rw[C];exact below_setRow (gr a _) fL _
 have I:gi (F.heap[a.heap.size]? = some (d_ #[b_ c_ 1,b_ c_ 0,b_ c_ 0,b_ c_ 0] 28 (0,0))):=gg (by rw[C];exact setRow_heap _ _ _ _ _ _ (gH a _));have W:=gg (V5.o.below aa);have B6:=gg (gj B5.o aa);rw[←C];clear C aa V5 B5;generalize a.heap.size=b6 at *
 obtain⟨R,Z,t2,U⟩:=kM I.o;obtain⟨S,ao,am,D,_⟩:=pC F (d_ #[b_ c_ 1,b_ c_ 0,b_ c_ 0,b_ c_ 0,b_ c_ 1,b_ c_ 0,b_ c_ 0,b_ c_ 0,b_ c_ 1,b_ c_ 0,b_ c_ 0,b_ c_ 0,b_ c_ 1,b_ c_ 0,b_ c_ 0,b_ c_ 0,b_ c_ 3,b_ c_ 0,b_ c_ 0,b_ c_ 0] 28);have al:jM 4 jg S (a_ (some ⟨F.heap.size,0,none⟩) 5 5) vt:=IR (Dd (B:=0) (xs:=iC jg vt) (n:=5) (k:=4) am f_ rfl fZ) rfl (fun x _=>rfl);have V7:=gg (W.o.below D);have X7:=gg (gk D I.o);have B7:=gg (gj B6.o D);have p:=gg Jk;have HR:=gg (Gg BX (Ha V7.o.mac al p fZ));have A6:=gg W.o.at_;have aN:=gn I.o;clear al am D B6;go_upto_region 6 with(first|(refine wpList_load_row rfl 37 _ rfl (b5) rfl 37 c4 (0,0) _ A6.o Tryz.underlying37 rfl h.info ?_)|(go_at_call 22;rw[←ao];((with_reducible refine HR.o.mono ?_);rintro e b ⟨l,rfl,s,K,b8⟩))|(refine wpList_store_row rfl 37 _ _ rfl (b.heap.size) l rfl rfl 37 gq (gH b _) s.info (by rw[mj.size,s.size]) s.one ?_))
 obtain⟨t,u⟩:∃ x,x=(b.alloc (d_ gq 37)).setRow b.heap.size l:=⟨_,rfl⟩;obtain⟨N,P⟩:∃ x,x=(iX oY vt).1:=⟨_,rfl⟩;have g:=gg P;rw[←P] at K;have v:Up S t:=by rw[u];exact gj b8.o (yX b l)
 have G:gi (ld t b.heap.size l N):=gg (by rw[u];exact BK b s K.o);have U9:=gg (V7.o.below v);have X9:=gg (gk v X7.o);have B9:=gg (gj B7.o v);rw[←u];clear u ao HR V7 X7 B7 b8 K v P W I A6 R Z t2 U aN;generalize b.heap.size=b9 at *
 obtain⟨R,Z,t2,U⟩:=kM X9.o;have y:gi (gF N 1 5):=gg (by rw[g.o];exact EO vt Jk);have A9:=gg G.o.at_;have HD:=gg (Gg (m:=100) (by rw[g.o];exact Dv) (oZ 1 0 0 0 G.o.mac y fZ));go_upto_region 7 with(first|(refine wpList_load_row rfl 37 _ rfl (b9) rfl 37 l (0,0) _ A9.o Tryz.underlying37 rfl s.info ?_)|(go_at_call 17;((with_reducible refine HD.o.mono ?_);rintro e j ⟨Y,rfl,X,_,ax⟩))|(refine wpList_store_row rfl 37 _ _ rfl (j.heap.size) Y rfl rfl 37 gq (gH j _) X.info (by rw[mj.size,X.size]) X.one ?_))
 obtain⟨V,ac⟩:∃ x,x=(j.alloc (d_ gq 37)).setRow j.heap.size Y:=⟨_,rfl⟩;have z:Up t V:=by rw[ac];exact gj ax.o (yX j Y)
 have aj:=gg (G.o.below z);have J:=gg (U9.o.below z);have au:=gg (gj B9.o z);rw[←ac];clear ac z G U9 X9 B9 ax R Z t2 U HD A9;have az:=gg J.o.at_;have HE:=gg (Gg Dw (oZ 4 0 0 0 J.o.mac p fZ));go_upto_region 8 with(first|(refine wpList_load_row rfl 37 _ rfl (b5) rfl 37 c4 (0,0) _ az.o Tryz.underlying37 rfl h.info ?_)|(go_at_call 17;((with_reducible refine HE.o.mono ?_);rintro e q ⟨ab,rfl,T,_,av⟩))|(refine wpList_store_row rfl 37 _ _ rfl (q.heap.size) ab rfl rfl 37 gq (gH q _) T.info (by rw[mj.size,T.size]) T.one ?_))
 obtain⟨d,ad⟩:∃ x,x=(q.alloc (d_ gq 37)).setRow q.heap.size ab:=⟨_,rfl⟩;have A:Up V d:=by rw[ad];exact gj av.o (yX q ab)
 have r:=gg (aj.o.below A);have aI:=gg (J.o.below A);have aE:=gg (gj au.o A);rw[←ad];clear ad A aj J au av HE az;obtain⟨cs,O,rm⟩:=D6 r.o.mac;injection O with O
 subst O;obtain⟨x0,a6,aR,x1,aX,aU,x2,aV,a5,x3,a4,a0,x4,a1,bf,x5,a7,bb,x6,aZ,bc,x7,be,a3,x8,aT,aS,qs,rfl,r1,r2,r3,r4,r5,Q,r7⟩:=rm.shape;clear r1 r2 r4 r5;have e3:N.ends=[2]:=g.o▸Bf;have e6:N.lines=[⟨0,1,true⟩]:=g.o▸Dt;have e7:N.trace=[⟨0,0,0,true,268435456⟩]:=g.o▸Dx;rw[e3] at r3;rw[e6] at Q;rw[e7] at r7;have ah:gl d 1 1 _ _:=r3;have an:gl d 3 1 _ _:=Q;have ai:gl d 5 1 _ _:=r7;obtain⟨g3,o3,k3,v3,l3,_,_,q3⟩:=ah.some fZ;obtain⟨g6,o6,k6,v6,l6,_,_,q6⟩:=an.some fZ;obtain⟨g7,o7,k7,v7,l7,_,_,i⟩:=ai.some fZ;injection v3 with v30 v31 v32;injection v6 with v60 v61 v62;injection v7 with v70 v71 v72
 subst v30 v31 v32 v60 v61 v62 v70 v71 v72;have aH:=q3 0 _ rfl;have aQ:=q6 2 _ rfl;have aJ:=i 0 _ rfl;have bd:=i 1 _ rfl;have aW:=i 2 _ rfl;have a8:=i 3 _ rfl;have aY:=i 4 _ rfl;simp only[Nat.add_zero] at aH aJ;obtain⟨_,_,m2,_,_,_,_,m7,K⟩:=gU r.o.at_;clear q3 q6 i r3 Q r7 ah an ai rm e3 e6 e7
 have HF:gi (Calls gd 20 #[e_ _,b_ c_ 0] d fun e w'=>e =fH (b_ c_ (-1))∧Up d w'):=gg (by
  have:=Hw _ d N 0 r.o.mac y.o.regs y.o.lines;rw[g.o,Ds] at this;exact this)
 have LV:=gg (sH r.o);have ba:decide (oY=N)=false:=by rw[g.o];exact Du
 have a2:decide (oY=oY)=true:=by simp
 try simp only[List.append_eq,List.cons_append,List.nil_append]
 go_wp2_with (first|(go_at_call 20;((with_reducible refine HF.o.mono ?_);rintro e aC ⟨rfl,L⟩;have aM:=gg (r.o.below L);have M:=gg (aI.o.below L);have aK:=gg (gj aE.o L);have LU:=gg (sH M.o);have HS:=gg (ES _ _ oY oY aC M.o.mac M.o.mac p.o.regs p.o.regs);clear L))|(go_at_call 19;((with_reducible refine HS.o.mono ?_);rintro e aO ⟨rfl,E⟩;have aw:=gg (aM.o.below E);have ar:=gg (M.o.below E);have aF:=gg (gj aK.o E);have aB:=gg (sH ar.o);have aL:=gg (sH aw.o);have aG:=gg (ES _ _ oY N aO ar.o.mac aw.o.mac p.o.regs y.o.regs);clear E))|(go_at_call 19;((with_reducible refine aG.o.mono ?_);rintro e a9 ⟨rfl,ay⟩;have aD:=gg (gj aF.o ay);clear ay))|((with_reducible refine yL (o:=⟨_,.load _ _,_,_,_,_⟩) ?_ 37 _ rfl (b9) ?_ (e_ _) LV.o ?_);rotate_left;exact rfl;rotate_left;exact rfl)|((with_reducible refine yL (o:=⟨_,.load _ _,_,_,_,_⟩) ?_ 37 _ rfl (b5) ?_ (e_ _) LU.o ?_);rotate_left;exact rfl;rotate_left;exact rfl)|((with_reducible refine yL (o:=⟨_,.load _ _,_,_,_,_⟩) ?_ 37 _ rfl (b5) ?_ (e_ _) aB.o ?_);rotate_left;exact rfl;rotate_left;exact rfl)|((with_reducible refine yL (o:=⟨_,.load _ _,_,_,_,_⟩) ?_ 37 _ rfl (b9) ?_ (e_ _) aL.o ?_);rotate_left;exact rfl;rotate_left;exact rfl))
 go_ret;exact⟨gt (iO (by first|rfl|simp)),aD.o⟩
section
def tG:List (List Bool):=
 [false,true].flatMap fun c=>[false,true].flatMap fun m=>[false,true].flatMap fun x=>[false,true].flatMap fun y=>[false,true].flatMap fun a=>[false,true].flatMap fun s=>[false,true].flatMap fun z=>
  if (c || !m) && ((m || !x) && ((m || !y) && ((!s || (x && a)) && (!z || (s && y))))) then [[c,m,x,y,a,s,z]] else []
def GC (r:Nat):List (List Bool):=tG.map (List.replicate r true ++ ·)
def Do (t:List Bool) (i:Nat):Bool:=
 i == 0 || i == 4 || (i == 1 && t.getD 0 false) || (i == 2 && t.getD 1 false) || (i == 3 && t.getD 1 false) || (i == 5 && (t.getD 0 false && (t.getD 2 false && t.getD 4 false))) || (i == 6 && (t.getD 3 false && t.getD 5 false))
def In (r:Nat) (a:List Bool) (i:Nat):Bool:=decide (r≤i) && Do (a.drop r) (i - r)
theorem G9 {r a} (h:a∈GC r):a.drop r∈tG:=by
 obtain⟨t,ht,rfl⟩:=List.mem_map.1 h;rw[List.drop_append_of_le_length gb]
 simpa using ht
theorem H_:∀ t∈tG,t.length=7:=by
 have:(tG.all fun t=>t.length == 7)=true:=by kernel_rfl
 intro t h
 simpa using List.all_eq_true.1 this t h
theorem Ia:∀ t∈tG,(t.getD 1 false=true→t.getD 0 false=true)∧(t.getD 2 false=true→t.getD 1 false=true)∧(t.getD 3 false=true→t.getD 1 false=true)∧(t.getD 5 false=true→t.getD 2 false=true∧t.getD 4 false=true)∧(t.getD 6 false=true→t.getD 5 false=true∧t.getD 3 false=true):=by
 have:(tG.all fun t=>(!t.getD 1 false || t.getD 0 false) && ((!t.getD 2 false || t.getD 1 false) && ((!t.getD 3 false || t.getD 1 false) && ((!t.getD 5 false || (t.getD 2 false && t.getD 4 false)) && (!t.getD 6 false || (t.getD 5 false && t.getD 3 false))))))=true:=by kernel_rfl
 intro t h;have:=List.all_eq_true.1 this t h;simp only[Bool.and_eq_true,Bool.or_eq_true,Bool.not_eq_true'] at this;obtain⟨a,b,c,d,e⟩:=this;refine⟨fun h=>?_,fun h=>?_,fun h=>?_,fun h=>?_,fun h=>?_⟩
 · rcases a with a|a
   · rw[a] at h;cases h
   · exact a
 · rcases b with a|a
   · rw[a] at h;cases h
   · exact a
 · rcases c with a|a
   · rw[a] at h;cases h
   · exact a
 · rcases d with a|a
   · rw[a] at h;cases h
   · exact a
 · rcases e with a|a
   · rw[a] at h;cases h
   · exact a
theorem GF {a:List Bool} {r i} (h:a[r+i]? = some false):(a.drop r)[i]? = some false:=by rw[List.getElem?_drop];exact h
theorem Gw (a:List Bool) (r i):(a.set (r+i) true).drop r=(a.drop r).set i true:=by
 apply List.ext_getElem?;intro j;rw[List.getElem?_drop,List.getElem?_set,List.getElem?_set];by_cases h:i=j
 · subst h
   simp[List.getElem?_drop];by_cases hl:r+i<a.length
   · simp[hl,show i<a.length - r by omega]
   · simp[hl,show ¬ i<a.length - r by omega]
 · simp[h,List.getElem?_drop]
structure iI (W:World) (M:i8) (n:Int) (t:List Bool) (cs:Array Value) (uc um u0 u1 ua uz:Value) (w:World):Prop where
 bel:Up W w
 fc:t.getD 0 false=true→uc = fI #[e_ cs,b_ c_ n]∧kw cs∧gJ w (e_ cs) M
 fm:t.getD 1 false=true→um = fI #[e_ cs,b_ c_ n]
 f0:t.getD 2 false=true→u0 =e_ cs
 f1:t.getD 3 false=true→u1 =b_ c_ n
 fa:t.getD 4 false=true → ∃ b,ua = fG (some ⟨b,0,none⟩)∧W.heap.size≤b∧w.heap[b]? = some (d_ (if t.getD 5 false=true then cs else gq) 37 (0,0))
 fz:t.getD 6 false=true→uz =b_ c_ n
section
variable {W:World} {M:i8} {n:Int} {t:List Bool} {cs:Array Value} {uc um u0 u1 ua uz:Value} {w w1:World}
theorem iI.up (h:iI W M n t cs uc um u0 u1 ua uz w) (a:Up w w1):iI W M n t cs uc um u0 u1 ua uz w1:=
 ⟨gj h.bel a,fun x=>⟨(h.fc x).1,(h.fc x).2.1,(h.fc x).2.2.below a⟩,h.fm,h.f0,h.f1,fun x=>by
  obtain⟨b,e,h1,h2⟩:=h.fa x;exact⟨b,e,h1,gk a h2⟩,h.fz⟩
theorem iI.offc (ht:t∈tG) (f:t[0]? = some false):t.getD 1 false=false∧t.getD 2 false=false∧t.getD 3 false=false∧t.getD 5 false=false∧t.getD 6 false=false:=by
 obtain⟨g,l,j,d,k⟩:=Ia t ht;have h:=yK f
 have a:t.getD 1 false=false:=by
  cases e:t.getD 1 false
  · rfl
  · have:=g e;rw[h] at this;cases this
 have b:t.getD 2 false=false:=by
  cases e:t.getD 2 false
  · rfl
  · have:=l e;rw[a] at this;cases this
 have i:t.getD 3 false=false:=by
  cases e:t.getD 3 false
  · rfl
  · have:=j e;rw[a] at this;cases this
 have c:t.getD 5 false=false:=by
  cases e:t.getD 5 false
  · rfl
  · have:=(d e).1;rw[b] at this;cases this
 refine⟨a,b,i,c,?_⟩;cases e:t.getD 6 false
 · rfl
 · have:=(k e).1;rw[c] at this;cases this
theorem iI.putc (h:iI W M n t cs uc um u0 u1 ua uz w) (ht:t∈tG) (j:t[0]? = some false) {c} (g:kw c) (m:gJ w1 (e_ c) M) (a:Up w w1):iI W M n (t.set 0 true) c (fI #[e_ c,b_ c_ n]) um u0 u1 ua uz w1:=by
 obtain⟨i,k,l,d,f⟩:=iI.offc ht j;refine⟨gj h.bel a,fun _=>⟨rfl,g,m⟩,fun x=>?_,fun x=>?_,fun x=>?_,fun x=>?_,fun x=>?_⟩
 · rw[iB _ 0 1 fZ,i] at x;cases x
 · rw[iB _ 0 2 fZ,k] at x;cases x
 · rw[iB _ 0 3 fZ,l] at x;cases x
 · obtain⟨b,e,h1,h2⟩:=h.fa (by rwa [iB _ 0 4 fZ] at x)
   refine⟨b,e,h1,?_⟩;rw[iB _ 0 5 fZ,d,if_neg fZ];rw[d,if_neg fZ] at h2;exact gk a h2
 · rw[iB _ 0 6 fZ,f] at x;cases x
theorem iI.putm (h:iI W M n t cs uc um u0 u1 ua uz w):iI W M n (t.set 1 true) cs uc (fI #[e_ cs,b_ c_ n]) u0 u1 ua uz w:=
 ⟨h.bel,fun x=>h.fc (by rwa [iB _ 1 0 fZ] at x),fun _=>rfl,fun x=>h.f0 (by rwa [iB _ 1 2 fZ] at x),fun x=>h.f1 (by rwa [iB _ 1 3 fZ] at x),fun x=>by
  rw[iB _ 1 5 fZ];exact h.fa (by rwa [iB _ 1 4 fZ] at x),fun x=>h.fz (by rwa [iB _ 1 6 fZ] at x)⟩
theorem iI.put0 (h:iI W M n t cs uc um u0 u1 ua uz w):iI W M n (t.set 2 true) cs uc um (e_ cs) u1 ua uz w:=
 ⟨h.bel,fun x=>h.fc (by rwa [iB _ 2 0 fZ] at x),fun x=>h.fm (by rwa [iB _ 2 1 fZ] at x),fun _=>rfl,fun x=>h.f1 (by rwa [iB _ 2 3 fZ] at x),fun x=>by
  rw[iB _ 2 5 fZ];exact h.fa (by rwa [iB _ 2 4 fZ] at x),fun x=>h.fz (by rwa [iB _ 2 6 fZ] at x)⟩
theorem iI.put1 (h:iI W M n t cs uc um u0 u1 ua uz w):iI W M n (t.set 3 true) cs uc um u0 (b_ c_ n) ua uz w:=
 ⟨h.bel,fun x=>h.fc (by rwa [iB _ 3 0 fZ] at x),fun x=>h.fm (by rwa [iB _ 3 1 fZ] at x),fun x=>h.f0 (by rwa [iB _ 3 2 fZ] at x),fun _=>rfl,fun x=>by
  rw[iB _ 3 5 fZ];exact h.fa (by rwa [iB _ 3 4 fZ] at x),fun x=>h.fz (by rwa [iB _ 3 6 fZ] at x)⟩
theorem iI.puta (h:iI W M n t cs uc um u0 u1 ua uz w) (ht:t∈tG) (b:t[4]? = some false):iI W M n (t.set 4 true) cs uc um u0 u1 (fG (some ⟨w.heap.size,0,none⟩)) uz (w.alloc (d_ gq 37)):=by
 have a:=gr w (d_ gq 37)
 have c:t.getD 5 false=false:=by
  cases e:t.getD 5 false
  · rfl
  · have:=((Ia t ht).2.2.2.1 e).2;rw[yK b] at this;cases this
 refine⟨gj h.bel a,fun x=>?_,fun x=>h.fm (by rwa [iB _ 4 1 fZ] at x),fun x=>h.f0 (by rwa [iB _ 4 2 fZ] at x),fun x=>h.f1 (by rwa [iB _ 4 3 fZ] at x),fun _=>⟨_,rfl,h.bel.size,?_⟩,fun x=>h.fz (by rwa [iB _ 4 6 fZ] at x)⟩
 · obtain⟨h1,h2,h3⟩:=h.fc (by rwa [iB _ 4 0 fZ] at x)
   exact⟨h1,h2,h3.below a⟩
 · rw[iB _ 4 5 fZ,c,if_neg fZ];exact gH w _
theorem iI.puts (h:iI W M n t cs uc um u0 u1 ua uz w) (ht:t∈tG) {b} (a:w.heap[b]? = some (d_ gq 37 (0,0))) (d:ua = fG (some ⟨b,0,none⟩)) (c:W.heap.size≤b):iI W M n (t.set 5 true) cs uc um u0 u1 ua uz (w.setRow b cs):=by
 refine⟨below_setRow h.bel c _,fun x=>?_,fun x=>h.fm (by rwa [iB _ 5 1 fZ] at x),fun x=>h.f0 (by rwa [iB _ 5 2 fZ] at x),fun x=>h.f1 (by rwa [iB _ 5 3 fZ] at x),fun _=>⟨b,d,c,?_⟩,fun x=>h.fz (by rwa [iB _ 5 6 fZ] at x)⟩
 · obtain⟨h1,h2,h3⟩:=h.fc (by rwa [iB _ 5 0 fZ] at x)
   exact⟨h1,h2,IZ h3 a mj⟩
 · rw[if_pos ((FP t 5).2 (by have:=H_ t ht;omega))]
   exact setRow_heap _ _ _ _ _ _ a
theorem iI.putz (h:iI W M n t cs uc um u0 u1 ua uz w):iI W M n (t.set 6 true) cs uc um u0 u1 ua (b_ c_ n) w:=
 ⟨h.bel,fun x=>h.fc (by rwa [iB _ 6 0 fZ] at x),fun x=>h.fm (by rwa [iB _ 6 1 fZ] at x),fun x=>h.f0 (by rwa [iB _ 6 2 fZ] at x),fun x=>h.f1 (by rwa [iB _ 6 3 fZ] at x),fun x=>by
  rw[iB _ 6 5 fZ];exact h.fa (by rwa [iB _ 6 4 fZ] at x),fun _=>rfl⟩
theorem iI.start (h:Up W w) (ht:t=List.replicate 7 false):iI W M n t cs uc um u0 u1 ua uz w:=by
 subst ht;exact⟨h,fun x=>absurd x fZ,fun x=>absurd x fZ,fun x=>absurd x fZ,fun x=>absurd x fZ,fun x=>absurd x fZ,fun x=>absurd x fZ⟩
theorem iI.done (h:iI W M n t cs uc um u0 u1 ua uz w) (ht:t∈tG) (d:t.all id=true):∃ b,uc = fI #[e_ cs,b_ c_ n]∧um = fI #[e_ cs,b_ c_ n]∧u0 =e_ cs∧u1 =b_ c_ n∧ua = fG (some ⟨b,0,none⟩)∧uz =b_ c_ n∧ld w b cs M∧W.heap.size≤b:=by
 have hl:=H_ t ht;have T:=fun (i:Nat) (f:i<7)=>Gi d (i:=i) f_
 obtain⟨h1,h2,h3⟩:=h.fc (T 0 fZ);obtain⟨b,e,c,a⟩:=h.fa (T 4 fZ);rw[if_pos (T 5 fZ)] at a;exact⟨b,h1,h.fm (T 1 fZ),h.f0 (T 2 fZ),h.f1 (T 3 fZ),e,h.fz (T 6 fZ),⟨a,h2,h3⟩,c⟩
end
theorem Gx {a:List Bool} r (h:a.all id=true):(a.drop r).all id=true:=by
 rw[List.all_eq_true] at h ⊢
 exact fun x b=>h x (List.mem_of_mem_drop b)
theorem Lu {w v a b d c} (k:jM 4 c4 w v a) (l:gi (∀ r∈a,C6 r)) (i:iy b) (m:iy d) (g:iy c) :
 Calls gd 15 #[v,b_ c_ b,b_ c_ d,b_ c_ c] w fun e w'=>∃ cs,e =fH (e_ cs)∧kw cs∧gi (gJ w' (e_ cs) (Dl a b d c))∧gi (Up w w'):=(Lv v a b d c w k l.o i m g).mono fun e w' ⟨n,he,f,j⟩=>by
 obtain⟨cs,rfl,h⟩:=oR f;exact⟨cs,he,h,gg f,gg j⟩
theorem Ld {w v b} (g:jM 3 c3 w v b) (h:gi (∀ r∈b,CZ r)) :
 Calls gd 16 #[v] w fun e w'=>∃ a c,e =fH (a_ a (uP b).length c)∧gi (jM 4 jg w' (a_ a (uP b).length c) (uP b))∧gi (Up w w'):=(Lf v b w g h.o).mono fun e w' ⟨i,he,d,f⟩=>by
 obtain⟨a,c,rfl⟩:=gN d;exact⟨a,c,he,gg (IR d rfl (fun x _=>rfl)),gg f⟩
theorem Kf (a):(uP a).length≤120:=by simp[uP];omega
end
