/- What the walks of this statement lean on: shown. -/
import Derived.Test.YtdobddiibgfeaaaGreatZv
set_option linter.all false
set_option maxRecDepth 100000
set_option maxHeartbeats 16000000
namespace Go.Proofs.YtdobddiibgfeaaaGreat
open Value renaming slice→a_,int→b_,agg→e_,pointer→fG,tuple→fI,bool→fJ
open IntKind renaming i64→c_
open Obj renaming cells→d_
open Ending renaming returned→fH
open Go.Proofs.Tryz renaming prog→gd
open Go.RowKit
def jD (x:ju):List Value:=[b_ c_ x.op,b_ c_ x.d,b_ c_ x.a,b_ c_ x.b,b_ c_ x.n]
theorem IF (c):∀ u∈jD c,u.oneCell'=true:=by simp[jD,Value.oneCell']
theorem IG (c):(jD c).length=5:=rfl
def CW:List ju:=[⟨1,5,0,0,131072⟩,⟨1,6,0,0,65536⟩,⟨41,7,0,0,3860⟩,⟨13,9,0,0,32⟩,⟨40,0,9,0,773⟩]
def pR (d a w r n j:Int) (x:ju):List ju:=
 [⟨
  13,d,a,0,n⟩,⟨11,d,5,0,w⟩,⟨12,0,5,a,w⟩,⟨12,0,5,d,w⟩,⟨11,d,6,0,r⟩,⟨12,0,6,a,r⟩,⟨39,0,0,0,255⟩,⟨46,d,5,0,0⟩,⟨47,d,5,a,0⟩,⟨49,d,5,a,0⟩,⟨48,d,5,a,0⟩,
  ⟨6,0,d,a,j⟩,⟨40,d,a,0,768⟩,⟨40,d,a,0,1984⟩,⟨44,0,0,0,0⟩,⟨45,0,0,0,0⟩,⟨22,d,d,a,0⟩,⟨39,0,0,0,255⟩,⟨43,0,0,0,0⟩,x]
def rV (r:Int×Int×Int×Int):ju:=
 (pR (7+gT r.2.1 6) (7+gT r.2.2.1 6) (4*gT r.2.2.2 5) (4*gT r.2.2.2 5+256*gT r.2.2.1 3) (gT r.2.2.2 20 - 5) (8 - 4*gT r.2.2.2 6) (t_ ⟨r.2.2.2,7+gT r.2.1 6,7+gT r.2.2.1 6,r.2.1,r.2.2.1⟩)).getD (gT r.1 20).toNat m5
def rp (a:List (Int×Int×Int×Int)):List ju:=CW ++ (a.take 30).map rV
def Dp (a:List (Int×Int×Int×Int)):List ju:=rp a ++ [⟨3,0,0,0,-4*(((rp a).length:Int) - 5)⟩]
def rC (l:List ju):List Int:=(l.filter k_).map kq
def pP (a:List (Int×Int×Int×Int)):List Int:=rC (Dp a)
theorem FQ (a):(rp a).length=5+min 30 a.length:=by simp[rp,CW];omega
theorem K8 (l):(rC l).length≤l.length:=by unfold rC;rw[List.length_map];exact List.length_filter_le _ _
theorem H0 (l):∀ z∈rC l,0≤z∧z<4294967296:=by
 intro z b;obtain⟨x,a,rfl⟩:=List.mem_map.1 b;have c:=(List.mem_filter.1 a).2;unfold kq;rw[if_pos c];have:rO x<4294967296:=Ey _;omega
theorem K7 l (x):rC (l ++ [x])=if k_ x=true then rC l ++ [kq x] else rC l:=by
 unfold rC;rw[List.filter_append];cases h:k_ x <;> simp[h]
theorem Cj:(gd.info? 72).map (fun i=>(i.zero,i.size,i.bytes))=some (some (e_ #[b_ c_ 0,b_ c_ 0,b_ c_ 0,b_ c_ 0,b_ c_ 0]),5,40):=by kernel_rfl
theorem wl:(gd.info? 43).map (·.size)=some 3:=by kernel_rfl
theorem sF c n r w (a:iy c) (b:0<n∧n≤9223372036854775807) (d:gi (gT c n=r)) :
 Calls gd 23 #[b_ c_ c,b_ c_ n] w fun e w'=>e =fH (b_ c_ r)∧w=w':=ri c n r w a b d.o
theorem zI op d a b n y w (h:F8 ⟨op,d,a,b,n⟩) (c:gi (t_ ⟨op,d,a,b,n⟩=y)) :
 Calls gd 35 #[e_ #[b_ c_ op,b_ c_ d,b_ c_ a,b_ c_ b,b_ c_ n]] w fun e w'=>e =fH (e_ #[b_ c_ y.op,b_ c_ y.d,b_ c_ y.a,b_ c_ y.b,b_ c_ y.n])∧Up w w':=by
 rw[←c.o];exact zH ⟨op,d,a,b,n⟩ w h
theorem Gl op d a b n v e (w) (c:gi (kq ⟨op,d,a,b,n⟩=v)) (he:gi (kA ⟨op,d,a,b,n⟩=e)) :
 Calls gd 25 #[e_ #[b_ c_ op,b_ c_ d,b_ c_ a,b_ c_ b,b_ c_ n]] w fun x w'=>x =fH (fI #[b_ c_ v,b_ c_ e])∧Up w w':=by
 rw[←c.o,←he.o];exact Hb ⟨op,d,a,b,n⟩ w
theorem Nc d a w r n j y {W:World} {b} (h:W.heap[b]? = some (d_ (iC jD (pR d a w r n j y)).toArray 72 (0,0))) (k) (x) (e:(pR d a w r n j y)[k]? = some x) :
 ∀ (i:Nat) (u:Value),(jD x)[i]? = some u→W.cell? ⟨b,k*5+i,none⟩=some u:=by
 intro i u c;have f:i<5:=by have:=(fR c).1;simpa[jD] using this
 exact gv h (by rw[List.getElem?_toArray,lI (fun y _=>IG y) e f];exact c)
theorem nJ v c w (hs:jM 4 c4 w v c) (b1:∀ r∈c,C6 r) :
 Calls gd 12 #[v] w fun e w'=>∃ v',e =fH v'∧kE w' v' (pP c) 4∧Up w w':=by
 obtain⟨sa,sc,rfl,co,cd,bO⟩:=hs;obtain⟨len,a2⟩:∃ n,n=c.length:=⟨_,rfl⟩;have HL:=gg a2;have HS:=gg bO;have aT:=gg b1;rw[←a2] at co ⊢
 unfold maxLen at cd;obtain⟨i0,hi,bs,bC,bq⟩:=info_parts Cj;clear bO b1 a2;obtain⟨w1,aV,bu,bH,bz,_⟩:=lU w (d_ #[a_ none 0 0,b_ c_ 0,a_ none 0 0] 43) (d_ (iC jD CW).toArray 72);have aY:=gg bu;have a8:=gg bz;have aX:gi (w1.ownsRow w.heap.size 72 5 (a_ (some ⟨w.heap.size+1,0,none⟩) 5 5) 5 (iC jD CW)):=gg (Dd bH f_ rfl fZ);rw[show (iC jD CW).toArray = #[b_ c_ 1,b_ c_ 5,b_ c_ 0,b_ c_ 0,b_ c_ 131072,b_ c_ 1,b_ c_ 6,b_ c_ 0,b_ c_ 0,b_ c_ 65536,b_ c_ 41,b_ c_ 7,b_ c_ 0,b_ c_ 0,b_ c_ 3860,b_ c_ 13,b_ c_ 9,b_ c_ 0,b_ c_ 0,b_ c_ 32,b_ c_ 40,b_ c_ 0,b_ c_ 9,b_ c_ 0,b_ c_ 773] from rfl] at aV;clear bu bH bz;go_in;go_upto_region 2 with(fail)
 rw[←aV];clear aV
 go_upto_block 0 with fail
 go_cut [3] (fun lv wx=>∃ (N:Option Addr) (P:Nat),lv =a_ N (rp c).length P∧wx.ownsRow w.heap.size 72 5 (a_ N (rp c).length P) (rp c).length (iC jD (rp c))∧wx.heap[w.heap.size]? = some (d_ #[a_ none 0 0,b_ c_ 0,a_ none 0 0] 43 (0,0))∧Up w wx)
 case first=>
  go_wp2_with fail
  go_loopw [3,4] (fun lv j wr=>∃ (k:Nat) (N:Option Addr) (P:Nat),k≤len∧k≤30∧j =b_ c_ k∧lv =a_ N (5+k) P∧wr.ownsRow w.heap.size 72 5 (a_ N (5+k) P) (5+k) (iC jD (CW ++ (c.take k).map rV))∧wr.heap[w.heap.size]? = some (d_ #[a_ none 0 0,b_ c_ 0,a_ none 0 0] 43 (0,0))∧Up w wr) (fun _ j _=>len - (intOf j).toNat)
  case atStart=>exact⟨0,_,_,fM,by omega,rfl,rfl,aX.o,aY.o,a8.o⟩
  case round=>
   obtain⟨k,N,P,hk,cO,rfl,rfl,U,S,T⟩:=hrel;have q:=gg U;have I:=gg S;have o:=gg T;clear U S T aX aY a8;by_cases aZ:k<len∧k<30
   · obtain⟨ci,cP⟩:=aZ
     have aL:k<c.length:=by rw[←HL.o];exact ci
     have bL:¬ c=[]:=by rintro rfl;simp at aL
     obtain⟨s,so,cB,aw,aC⟩:=HS.o.resolve_left bL;subst cB;have W:c[k]? = some c[k]:=fQ aL;have q0:=aC k c[k] W 0 _ rfl;have q1:=aC k c[k] W 1 _ rfl;have q2:=aC k c[k] W 2 _ rfl;have q3:=aC k c[k] W 3 _ rfl;have cE:=aT.o c[k] (List.getElem_mem _);have an:=gg (fP aL);generalize c[k]=r at *
     obtain⟨x,y,z,t⟩:=r;obtain⟨ox,oy,oz,ot⟩:=cE;simp only[Nat.add_zero] at q0 q1 q2 q3;have p0:wr.cell? ⟨s,so+k*4,none⟩=some (b_ c_ x):=(o.o.cell (p:=⟨s,_,none⟩) aw).trans q0;have p1:wr.cell? ⟨s,so+k*4+1,none⟩=some (b_ c_ y):=(o.o.cell (p:=⟨s,_,none⟩) aw).trans q1;have p2:wr.cell? ⟨s,so+k*4+2,none⟩=some (b_ c_ z):=(o.o.cell (p:=⟨s,_,none⟩) aw).trans q2;have p3:wr.cell? ⟨s,so+k*4+3,none⟩=some (b_ c_ t):=(o.o.cell (p:=⟨s,_,none⟩) aw).trans q3;have aa:s<wr.heap.size:=fN aw o.o.size;clear q0 q1 q2 q3 aC W bL aL;have bk:gi (rV (x,y,z,t)=(pR (7+gT y 6) (7+gT z 6) (4*gT t 5) (4*gT t 5+256*gT z 3) (gT t 20 - 5) (8 - 4*gT t 6) (t_ ⟨t,7+gT y 6,7+gT z 6,y,z⟩)).getD (gT x 20).toNat m5):=gg rfl;have bD:=mL y 6 f_;have bA:=mL z 6 f_;have bW:=mL t 5 f_;have bR:=mL z 3 f_;have bP:=mL t 20 f_;have bJ:=mL t 6 f_;have bK:=mL x 20 f_;obtain⟨D,hD⟩:∃ v,gT y 6=v:=⟨_,rfl⟩;obtain⟨A,hA⟩:∃ v,gT z 6=v:=⟨_,rfl⟩;obtain⟨F,aN⟩:∃ v,gT t 5=v:=⟨_,rfl⟩;obtain⟨R,aH⟩:∃ v,gT z 3=v:=⟨_,rfl⟩;obtain⟨ah,aF⟩:∃ v,gT t 20=v:=⟨_,rfl⟩;obtain⟨M,aO⟩:∃ v,gT t 6=v:=⟨_,rfl⟩;obtain⟨KK,aQ⟩:∃ v,gT x 20=v:=⟨_,rfl⟩;rw[hD] at bD;rw[hA] at bA;rw[aN] at bW;rw[aH] at bR;rw[aF] at bP;rw[aO] at bJ;rw[aQ] at bK;obtain⟨Y,hY⟩:∃ v,t_ ⟨t,7+D,7+A,y,z⟩=v:=⟨_,rfl⟩;have bZ:gi (rV (x,y,z,t)=(pR (7+D) (7+A) (4*F) (4*F+256*R) (ah - 5) (8 - 4*M) Y).getD KK.toNat m5):=gg (by rw[bk.o,hD,hA,aN,aH,aF,aO,aQ,hY]);have HD:=gg hD;have HA:=gg hA;have bx:=gg aN;have cq:=gg aH;have cx:=gg aF;have cu:=gg aO;have ce:=gg aQ;have HY:=gg hY;clear bk hD hA aN aH aF aO aQ hY;have e1:c_.wrap (7+D)=7+D:=IntWalk.i64_in _ f_;have e2:c_.wrap (7+A)=7+A:=IntWalk.i64_in _ f_;have e3:c_.wrap (4*F)=4*F:=IntWalk.i64_in _ f_;have e4:c_.wrap (256*R)=256*R:=IntWalk.i64_in _ f_;have e5:c_.wrap (4*F+256*R)=4*F+256*R:=IntWalk.i64_in _ f_;have e6:c_.wrap (ah - 5)=ah - 5:=IntWalk.i64_in _ f_;have e7:c_.wrap (4*M)=4*M:=IntWalk.i64_in _ f_;have e8:c_.wrap (8 - 4*M)=8 - 4*M:=IntWalk.i64_in _ f_;go_upto_region 8 with(go_at_call 23;first|((with_reducible refine(sF y 6 D _ oy f_ HD).mono ?_);rintro e w' ⟨rfl,rfl⟩)|((with_reducible refine(sF z 6 A _ oz f_ HA).mono ?_);rintro e w' ⟨rfl,rfl⟩)|((with_reducible refine(sF t 5 F _ ot f_ bx).mono ?_);rintro e w' ⟨rfl,rfl⟩))
     have s1:=fun v=>gD aa p1 v
     have s2:=fun v=>gD aa p2 v
     have s3:=fun v=>gD aa p3 v
     have b2:=gg p0;have bd:=gg p1;have bT:=gg p2;have b3:=gg p3;have bt:F8 ⟨t,7+D,7+A,y,z⟩:=⟨ot,(show iy (7+D) by unfold iy;omega),(show iy (7+A) by unfold iy;omega),oy,oz⟩;have cg:=gg bt;clear p0 p1 p2 p3 bt;have cm:=gg (Below.refl wr.heap.size wr);refine kK ga ga ?_
     repeat(go_big_quiet_step ((go_at_call 23;first|(with_reducible exact oA (sF t 5 F _ ot f_ bx))|(with_reducible exact oA (sF z 3 R _ oz f_ cq)))))
     refine wpQuiet_nil ?_
     rintro w4 ⟨⟨cL,Q⟩,rfl⟩;have b5:=gg (gy q.o Q);have cb:=gg (gk Q I.o);have bo:=gg (gj o.o Q);have ay:=fN aa Q.size;have P0:=gg ((Q.cell (p:=⟨s,_,none⟩) aa).trans b2.o);have P1:=gg ((Q.cell (p:=⟨s,_,none⟩) aa).trans bd.o);have P2:=gg ((Q.cell (p:=⟨s,_,none⟩) aa).trans bT.o);have P3:=gg ((Q.cell (p:=⟨s,_,none⟩) aa).trans b3.o);clear s1 s2 s3 Q q I o b2 bd bT b3 cm;have s1:=fun v=>gD ay P1.o v
     have s2:=fun v=>gD ay P2.o v
     have s3:=fun v=>gD ay P3.o v
     go_upto_region 9 with(fail)
     try simp only[List.append_eq,List.cons_append,List.nil_append]
     refine ov 81 ga ga ?_
     simp only[List.take_succ_cons,List.take_zero,List.drop_succ_cons,List.drop_zero];repeat(go_big_quiet_step (first|((go_at_call 23;first|(with_reducible exact oA (sF t 20 ah _ ot f_ cx))|(with_reducible exact oA (sF t 6 M _ ot f_ cu))))|((go_at_call 35;with_reducible exact oS (zI t (7+D) (7+A) y z Y _ cg.o HY)))))
     refine wpQuiet_nil ?_
     rintro H ⟨⟨cJ,aj⟩,rfl⟩;have bQ:=gg (gy b5.o aj);have b4:=gg (gk aj cb.o);have bF:=gg (gj bo.o aj);have Q0:=gg ((aj.cell (p:=⟨s,_,none⟩) ay).trans P0.o);have cj:=fN ay aj.size;clear s1 s2 s3 aj b5 cb bo P0 P1 P2 P3 e1 e2 e3 e4 e5 e6 e7 e8;go_upto_region 10 with(fail)
     change Code.wp _ _ _ _ (H.alloc (d_ (iC jD (pR (7+D) (7+A) (4*F) (4*F+256*R) (ah - 5) (8 - 4*M) Y)).toArray 72));obtain⟨w6,bv,a0,aK,_⟩:=pC H (d_ (iC jD (pR (7+D) (7+A) (4*F) (4*F+256*R) (ah - 5) (8 - 4*M) Y)).toArray 72);rw[←bv];clear bv;have af:=gg (gy bQ.o aK);have ad:=gg (gk aK b4.o);have ai:=gg (gj bF.o aK);have p0:=(aK.cell (p:=⟨s,_,none⟩) cj).trans Q0.o;obtain⟨kn,rfl⟩:∃ m:Nat,KK=m:=⟨KK.toNat,by omega⟩;have cy:kn<20:=by omega
     have b6:(pR (7+D) (7+A) (4*F) (4*F+256*R) (ah - 5) (8 - 4*M) Y)[kn]? = some (rV (x,y,z,t)):=by
      rw[bZ.o,Int.toNat_natCast,List.getD_eq_getElem?_getD,fQ (by exact cy)];rfl
     have ac:=Nc _ _ _ _ _ _ _ a0 kn _ b6;have cz:=gg a0;clear a0 b6 bZ bQ b4 bF Q0;generalize H.heap.size=nb at *
     obtain⟨X,hX⟩:∃ v,v=rV (x,y,z,t):=⟨_,rfl⟩;rw[←hX] at ac;have cr:=gg hX;clear hX;obtain⟨op,d,a,b,G⟩:=X;have c0:=ac 0 _ rfl;have c1:=ac 1 _ rfl;have c2:=ac 2 _ rfl;have c3:=ac 3 _ rfl;have c4:=ac 4 _ rfl;simp only[Nat.add_zero] at c0 c1 c2 c3 c4;clear ac cz;have ab:=gg (gy af.o (gr w6 (d_ (jD ⟨op,d,a,b,G⟩).toArray 72)))
     have HC:gi (∀ j u,(jD ⟨op,d,a,b,G⟩)[j]? = some u→(w6.alloc (d_ (jD ⟨op,d,a,b,G⟩).toArray 72)).cell? ((⟨w6.heap.size,0,none⟩:Addr).add j)=some u):=gg (fun j u hj=>by
      rw[kx,Nat.zero_add];exact gv (gH w6 _) (by simpa[jD] using hj))
     have ax:=gg (gj ai.o (gr w6 (d_ (jD ⟨op,d,a,b,G⟩).toArray 72)));have ae:=gg (gk (gr w6 (d_ (jD ⟨op,d,a,b,G⟩).toArray 72)) ad.o);have O:w.heap.size≤(w6.alloc (d_ (jD ⟨op,d,a,b,G⟩).toArray 72)).heap.size:=ax.o.size;have ao:5+k+1≤maxLen:=by unfold maxLen;omega
     have av:(5+k+1)*40≤140737488355328:=by omega
     have bc:=gS ab.o ae.o fZ;clear af ad ai
     go_wp2_with (first|(go_at_call 23;((with_reducible refine(sF x 20 kn _ ox f_ ce).mono ?_);rintro e w' ⟨rfl,rfl⟩))|(at_builtin;refine wpList_append_own _ rfl _ _ 86 rfl w.heap.size 72 i0 (e_ #[b_ c_ 0,b_ c_ 0,b_ c_ 0,b_ c_ 0,b_ c_ 0]) 5 40 Tryz.underlying86 hi bs bC bq rfl fZ _ _ _ rfl ab.o ⟨w6.heap.size,0,none⟩ 1 1 (jD ⟨op,d,a,b,G⟩) rfl rfl HC.o (IF _) ao av O ?_;intro v' w8 a1 b0 _;obtain⟨xt,yt,rfl⟩:=gN a1;have aE:=gg a1;have bM:=gg b0;clear a1 b0))
     go_roundw
     case rel=>exact⟨k+1,xt,yt,by omega,by omega,by go_num,rfl,by rw[an.o,List.map_append,←List.append_assoc,rz,Nat.add_assoc 5 k 1 |>.symm];simpa[iC,←cr.o] using aE.o,(bM.o.block w.heap.size (gn ae.o) (fun e=>bc e.symm)).trans ae.o,ax.o.grown bM.o O (fun g e=>(ab.o.lt g e).1)⟩
     case measure=>simp[intOf];omega
   · have hst:k=min 30 len:=by omega
     have be:gi (rp c=CW ++ (c.take k).map rV):=gg (by
      unfold rp;congr 2;rw[hst,←List.take_take,show c.take len=c from by rw[HL.o,List.take_length]])
     rw[←be.o] at q;have bb:gi ((rp c).length=5+k):=gg (by rw[FQ,hst,HL.o]);rw[←bb.o] at q;clear be aT HS hst;by_cases h1:k<len
     · have h2:k=30:=by omega
       subst h2
       go_wp2
       go_meet
       case rel=>exact⟨N,P,by rw[bb.o],q.o,I.o,o.o⟩
     · go_wp2
       go_meet
       case rel=>exact⟨N,P,by rw[bb.o],q.o,I.o,o.o⟩
 case rest=>
 as_aux_lemma=>
  obtain⟨N,P,rfl,U,S,T⟩:=hcut;have q:=gg U;have I:=gg S;have o:=gg T;have ar:gi (Dp c=rp c ++ [⟨3,0,0,0,-4*(((rp c).length:Int) - 5)⟩]):=gg rfl;have bw:5≤(rp c).length∧(rp c).length≤35:=by rw[FQ];omega
  obtain⟨L,hL⟩:∃ v,v=rp c:=⟨_,rfl⟩;obtain⟨l,aU⟩:∃ v,v=Dp c:=⟨_,rfl⟩;have ch:gi (pP c=rC l):=gg (by rw[aU];rfl);rw[←hL] at q bw;rw[←aU,←hL] at ar;rw[←hL];obtain⟨n,hn⟩:∃ v,v=L.length:=⟨_,rfl⟩;have HN:=gg hn;rw[←hn] at q ar bw ⊢
  clear U S T hL aU hn aX aY a8 HS aT;have e1:c_.wrap ((n:Int) - 5)=(n:Int) - 5:=IntWalk.i64_in _ f_;have e2:c_.wrap (-4*((n:Int) - 5)) = -4*((n:Int) - 5):=IntWalk.i64_in _ f_;obtain⟨Z,aJ⟩:∃ v,v = -4*((n:Int) - 5):=⟨_,rfl⟩;rw[←aJ] at e2 ar;have cQ:=gg aJ;have cl:c_.wrap (-4*((n:Int) - 5))=Z:=by rw[aJ];exact IntWalk.i64_in _ f_
  clear aJ e2;obtain⟨H,b9⟩:∃ x,x=wc:=⟨_,rfl⟩;rw[←b9] at q I o ⊢
  clear b9;have af:=gg (gy q.o (gr H (d_ (jD ⟨3,0,0,0,Z⟩).toArray 72)))
  have HC:gi (∀ j u,(jD ⟨3,0,0,0,Z⟩)[j]? = some u→(H.alloc (d_ (jD ⟨3,0,0,0,Z⟩).toArray 72)).cell? ((⟨H.heap.size,0,none⟩:Addr).add j)=some u):=gg (fun j u hj=>by
   rw[kx,Nat.zero_add];exact gv (gH H _) (by simpa[jD] using hj))
  have ai:=gg (gj o.o (gr H (d_ (jD ⟨3,0,0,0,Z⟩).toArray 72)));have ad:=gg (gk (gr H (d_ (jD ⟨3,0,0,0,Z⟩).toArray 72)) I.o);have O:w.heap.size≤(H.alloc (d_ (jD ⟨3,0,0,0,Z⟩).toArray 72)).heap.size:=ai.o.size;have ao:n+1≤maxLen:=by unfold maxLen;omega
  have av:(n+1)*40≤140737488355328:=by omega
  have bV:=gS af.o ad.o fZ;go_upto_region 12 with(at_builtin;refine wpList_append_own _ rfl _ _ 86 rfl w.heap.size 72 i0 (e_ #[b_ c_ 0,b_ c_ 0,b_ c_ 0,b_ c_ 0,b_ c_ 0]) 5 40 Tryz.underlying86 hi bs bC bq rfl fZ _ _ _ rfl af.o ⟨H.heap.size,0,none⟩ 1 1 (jD ⟨3,0,0,0,Z⟩) rfl rfl HC.o (IF _) ao av O ?_;intro v' w7 bl b7 _;have ab:=gg bl;have a6:=gg b7;clear bl b7)
  have ae:=gg ((a6.o.block w.heap.size (gn ad.o) (fun e=>bV e.symm)).trans ad.o);have ax:gi (Up w w7):=gg (ai.o.grown a6.o O (fun g e=>(af.o.lt g e).1));obtain⟨g,gc,cM,cG,cp,cA⟩:=uO ab.o f_;subst cG;have bE:gi (w7.ownsRow w.heap.size 72 5 (a_ (some ⟨g,0,none⟩) (n+1) gc) (n+1) (iC jD l)):=gg (by have:=ab.o;rw[ar.o,rz];simpa[iC] using this);have bI:l.length=n+1:=by rw[ar.o,List.length_append,←HN.o];rfl
  have bf:=gg bI;clear cp cA bI ab a6 ad af HC ai q I o bV O ao av e1 cl ar HN;obtain⟨w8,bN,bn,aP,_⟩:=pC w7 (d_ #[a_ none 0 0,b_ c_ 0,a_ none 0 0] 43);have bi:=gg bn;have aE:=gg (gy bE.o aP);have bp:=gg (gk aP ae.o);have ca:=gg (gj ax.o aP);have cI:w.heap.size<w7.heap.size:=gn ae.o;clear bn aP bE ae ax;obtain⟨i1,cF,cs,cC,ck⟩:=info_parts yT;go_upto_region 13 with(fail)
  rw[←bN];clear bN;generalize w7.heap.size=bm at *
  go_wp2_with fail
  go_loopw [11] (fun i wr=>∃ (j:Nat) (B:Option Addr) (f C:Nat),j≤n+1∧f≤j∧i =b_ c_ j∧(rC (l.take j)).length=f∧wr.ownsRow w.heap.size 3 1 (a_ B f C) f (gz (rC (l.take j)))∧wr.heap[bm]? = some (d_ #[a_ B f C,b_ c_ 0,a_ none 0 0] 43 (0,0))∧wr.ownsRow w.heap.size 72 5 (a_ (some ⟨g,0,none⟩) (n+1) gc) (n+1) (iC jD l)∧wr.heap[w.heap.size]? = some (d_ #[a_ none 0 0,b_ c_ 0,a_ none 0 0] 43 (0,0))∧Up w wr) (fun i _=>n+1 - (intOf i).toNat)
  case atStart=>exact⟨0,none,0,0,fM,fL,rfl,rfl,World.ownsRow_nil _ _ _ _,bi.o,aE.o,bp.o,ca.o⟩
  case round=>
   obtain⟨j,B,f,C,hj,cK,rfl,bU,bY,hm,U,S,T⟩:=hrel;have aR:=gg bY;have HM:=gg hm;have q:=gg U;have I:=gg S;have o:=gg T;have aA:=gg bU;clear bY hm U S T bU bi aE bp ca;by_cases aZ:j<n+1
   · have a7:j<l.length:=by rw[bf.o];exact aZ
     have W:l[j]? = some l[j]:=fQ a7
     have au:∀ i u,i<5→(jD l[j])[i]? = some u→wr.cell? ⟨g,j*5+i,none⟩=some u:=fun i u h5 hu=>
      (q.o.cellAt (j*5+i) f_).trans ((lI (fun y _=>IG y) W h5).trans hu)
     have an:=gg (fP a7);have aG:=gg (K7 (l.take j) l[j]);generalize l[j]=X at *
     obtain⟨op,d,a,b,G⟩:=X;have c0:=au 0 _ fZ rfl;have c1:=au 1 _ fZ rfl;have c2:=au 2 _ fZ rfl;have c3:=au 3 _ fZ rfl;have c4:=au 4 _ fZ rfl;simp only[Nat.add_zero] at c0 c1 c2 c3 c4;clear au W a7;obtain⟨V,hV⟩:∃ v,kq ⟨op,d,a,b,G⟩=v:=⟨_,rfl⟩;obtain⟨E,hE⟩:∃ v,kA ⟨op,d,a,b,G⟩=v:=⟨_,rfl⟩;have HV:=gg hV;have HE:=gg hE;have aM:gi (k_ ⟨op,d,a,b,G⟩=(E == 0)):=gg (by rw[←hE];cases h:k_ ⟨op,d,a,b,G⟩ <;> simp[kA,h]);clear hV hE;go_upto_region 17 with((go_at_call 25;(with_reducible refine(Gl op d a b G V E _ HV HE).mono ?_);rintro e J ⟨rfl,aq⟩))
     have am:=gg (gy aR.o aq);have ak:=gg (gk aq HM.o);have aW:=gg (gy q.o aq);have ag:=gg (gk aq I.o);have az:=gg (gj o.o aq);clear aq c0 c1 c2 c3 c4 aR HM q I o;cases bX:(E == 0)
     · have aB:gi (rC (l.take (j+1))=rC (l.take j)):=gg (by rw[an.o,aG.o,aM.o,bX];rfl)
       clear aG an aM
       go_wp2
       go_roundw
       case rel=>exact⟨j+1,B,f,C,by omega,by omega,by go_num,by rw[aB.o];exact aA.o,by rw[aB.o];exact am.o,ak.o,aW.o,ag.o,az.o⟩
       case measure=>simp[intOf];omega
     · have aB:gi (rC (l.take (j+1))=rC (l.take j) ++ [V]):=gg (by rw[an.o,aG.o,aM.o,bX,if_pos rfl,HV.o])
       clear aG an aM;obtain⟨bS,cw,bh,al,_⟩:=pC J (d_ #[b_ c_ V] 3);have aD:=gg (gy am.o al);have aS:=gg (gk al ak.o);have bB:=gg (gy aW.o al);have a3:=gg (gk al ag.o);have bg:=gg (gj az.o al)
       have HC:gi (∀ j u,(gz [V])[j]? = some u→bS.cell? ((⟨J.heap.size,0,none⟩:Addr).add j)=some u):=gg (fun j u hj=>by
        rw[kx,Nat.zero_add];exact gv bh (by simpa[gz] using hj))
       have O:w.heap.size≤bS.heap.size:=bg.o.size;have ao:f+1≤maxLen:=by unfold maxLen;omega
       have av:(f+1)*8≤140737488355328:=by omega
       obtain⟨c0,c1,c2⟩:=iv ak.o;have bc:=gS aD.o aS.o fZ;have cv:=gS aD.o a3.o fZ;have cN:=gn ak.o;clear bh al am aW ag az
       go_wp2_with (first|(rw[←cw];at_builtin;refine wpList_append_own _ rfl _ _ 24 rfl w.heap.size 3 i1 (b_ c_ 0) 1 8 Tryz.underlying24 cF cs cC ck rfl fZ _ _ _ rfl aD.o ⟨J.heap.size,0,none⟩ 1 1 (gz [V]) rfl rfl HC.o (by simp[gz,Value.oneCell']) ao av O ?_;intro v' br a4 a9 _;obtain⟨xt,yt,rfl⟩:=gN a4;have bG:=gg a4;have a5:=gg a9;have aI:=(a9.block bm (gn aS.o) (fun e=>bc e.symm)).trans aS.o;have ba:=gg aI;obtain⟨d0,d1,d2⟩:=iv aI;have f0:=gC aI 0;clear a4 a9 aI))
       go_roundw
       case rel=>
        have K:=nF br bm 0 (a_ xt (f+1) yt);have b8:=nC bB.o a5.o (fun g' e=>ku aD.o bB.o fZ e);have cH:=(a5.o.block w.heap.size (gn a3.o) (fun e=>cv e.symm)).trans a3.o;have cf:Up w br:=bg.o.grown a5.o O (fun g' e=>(aD.o.lt g' e).1);refine⟨j+1,xt,f+1,yt,by omega,by omega,by go_num,by rw[aB.o];simp[aA.o],?_,jb ba.o 0 _,iG b8 K (gS b8 ba.o fZ),(iY f_).trans cH,gO cf f_ _⟩;rw[aB.o];exact iG (by simpa[gz] using bG.o) K (gS bG.o ba.o fZ)
       case measure=>simp[intOf];omega
   · have cD:j=n+1:=by omega
     subst cD;have HF:gi (rC (l.take (n+1))=pP c):=gg (by rw[ch.o,←bf.o,List.take_length]);have ct:bm≠w.heap.size:=by omega
     have cn:w.heap.size≤bm:=by omega
     obtain⟨J,ap⟩:∃ x,x=wr.setCell ⟨bm,1,none⟩ (b_ c_ 4):=⟨_,rfl⟩;have ak:gi (J.heap[bm]? = some (d_ #[a_ B f C,b_ c_ 4,a_ none 0 0] 43 (0,0))):=gg (by rw[ap];exact jb HM.o 1 _);have ag:gi (J.heap[w.heap.size]? = some (d_ #[a_ none 0 0,b_ c_ 0,a_ none 0 0] 43 (0,0))):=gg (by rw[ap];exact(iY (Ne.symm ct)).trans I.o);have am:gi (J.ownsRow w.heap.size 3 1 (a_ B f C) f (gz (pP c))):=gg (by rw[ap,←HF.o];exact iG aR.o (nF wr bm 1 _) (gS aR.o HM.o fZ));have az:gi (Up w J):=gg (by rw[ap];exact gO o.o cn _);obtain⟨c0,c1,c2⟩:=iv HM.o;have f1:=gC HM.o 1;go_upto_region 20 with(fail)
     rw[←ap];clear ap c0 c1 c2 f1;have cc:gi ((J.setRow w.heap.size #[a_ B f C,b_ c_ 4,a_ none 0 0]).ownsRow w.heap.size 3 1 (a_ B f C) f (gz (pP c))):=gg (iG am.o (BL J w.heap.size _) (gS am.o ag.o fZ));have bj:gi ((J.setRow w.heap.size #[a_ B f C,b_ c_ 4,a_ none 0 0]).heap[w.heap.size]? = some (d_ #[a_ B f C,b_ c_ 4,a_ none 0 0] 43 (0,0))):=gg (setRow_heap _ _ _ _ _ _ ag.o);obtain⟨r0,r1,r2⟩:=iv bj.o;have R0:=gg r0;have R1:=gg r1;have R2:=gg r2;clear r0 r1 r2 bj
     go_wp2_with (first|(refine wpList_load_row rfl 43 _ rfl bm rfl 43 #[a_ B f C,b_ c_ 4,a_ none 0 0] (0,0) _ ak.o Tryz.underlying43 rfl wl ?_)|(refine wpList_store_row rfl 43 _ _ rfl w.heap.size #[a_ B f C,b_ c_ 4,a_ none 0 0] rfl rfl 43 #[a_ none 0 0,b_ c_ 0,a_ none 0 0] ag.o wl rfl (by simp[Value.oneCell']) ?_))
     exact bodyPost_ret (v:=e_ #[a_ B f C,b_ c_ 4,a_ none 0 0]) (by simp[results,Tryz.results12,go_sem,R0.o,R1.o,R2.o]) rfl ⟨_,rfl,⟨⟨B,C,by rw[←HF.o,aA.o];rfl,by rw[←HF.o,aA.o];have:=gl.own cc.o (by simp[gz,Value.oneCell']);rwa [←HF.o] at this⟩,H0 _,by rw[←HF.o,aA.o];omega,by decide⟩,below_setRow az.o fL _⟩
