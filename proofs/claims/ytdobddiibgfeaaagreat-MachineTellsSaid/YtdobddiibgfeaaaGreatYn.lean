/- MachineTells: machines become, choice by choice, what the document says: no condition. -/
import Derived.Test.YtdobddiibgfeaaaGreatYm
import Derived.Test.YtdobddiibgfeaaaGreatZy
import Derived.OwnWalk
set_option linter.all false
set_option maxRecDepth 100000
set_option maxHeartbeats 16000000
namespace Go.Proofs.YtdobddiibgfeaaaGreat
open Value renaming slice→a_,int→b_,agg→e_,pointer→fG,tuple→fI,bool→fJ
open IntKind renaming i64→c_
open Obj renaming cells→d_
open Ending renaming returned→fH
open Go.Proofs.Tryz renaming prog→gd
section
open Go.RowKit
theorem BY M (c):(lW M c).2≠0→(lW M c).1=jX:=by
 unfold lW;repeat' split
 · exact qO _ _
 · exact Jc _ _ _
 · exact Jb _ _
 · exact qT _ _
 · exact I0 _ _ _
 · intro _;rfl
end
open Go.RowKit
set_option maxRecDepth 100000
theorem tQ {w v l} (h:jM 1 Go.Proofs.YtdobddiibgfeaaaGreat.c1 w v l):iQ w 1 l.length v (gz l):=by
 obtain⟨a,c,rfl,h1,h2,h3⟩:=h;refine⟨by simp[gz],fun u d=>(by obtain⟨z,_,rfl⟩:=List.mem_map.1 d;rfl),⟨a,c,rfl⟩,fun h0=>?_⟩;rcases h3 with rfl|⟨b,o,rfl,g,i⟩
 · cases h0
 · refine⟨by simp[gz],fun u d=>(by obtain⟨z,_,rfl⟩:=List.mem_map.1 d;rfl),.inr ⟨b,o,c,rfl,g,h1,h2,fun j u e=>?_⟩⟩
   obtain⟨z,f,rfl⟩:=List.getElem?_map .. ▸ e |> Option.map_eq_some_iff.1
   have:=i j z f 0 (b_ c_ z) rfl
   rwa [Nat.mul_one,Nat.add_zero] at this
theorem rI {w v l} (h:jM 3 jZ w v l):iQ w 3 l.length v (iC j_ l):=by
 obtain⟨a,c,rfl,h1,h2,h3⟩:=h;have hl:(iC j_ l).length=l.length*3:=EE fun x _=>rfl
 have f:∀ u∈iC j_ l,u.oneCell'=true:=fun u m=>by
  obtain⟨x,_,i⟩:=List.mem_flatMap.1 m;simp only[j_,List.mem_cons,List.not_mem_nil,or_false] at i;rcases i with rfl|rfl|rfl <;> rfl
 refine⟨hl,f,⟨a,c,rfl⟩,fun h0=>?_⟩;rcases h3 with rfl|⟨b,o,rfl,n,p⟩
 · cases h0
 · refine⟨hl,f,.inr ⟨b,o,c,rfl,n,h1,h2,fun j u d=>?_⟩⟩
   have q:j<l.length*3:=by rw[←hl];exact(fR d).1
   have g:j / 3<l.length:=by omega
   have e:j=j / 3*3+j % 3:=by omega
   have:=p (j / 3) _ (fQ g) (j % 3) u (by
    rw[e,lI (k:=3) (fun y _=>rfl) (fQ g) f_] at d;exact d)
   rwa [show o+j / 3*3+j % 3=o+j by omega] at this
theorem sZ {w v d mem b cs cs'} (h:kE w v d mem) (g:w.heap[b]? = some (d_ cs 37 (0,0))) (i:kw cs):kE (w.setRow b cs') v d mem:=by
 obtain⟨⟨a,c,e,f⟩,h2,h3,h4⟩:=h;exact⟨⟨a,c,e,qt (BL w b cs') g i.all (s:=⟨0,0,0,0,0,d,0,false⟩) f⟩,h2,h3,h4⟩
def Ev:List (List Bool):=(tG.filter fun t=>!t.getD 0 false).map ([true,true,true,false,true,true] ++ ·) ++ GC 6
def Et (a:List Bool) (i:Nat):Bool:=i == 3 || (decide (6≤i) && ((i != 6 || a.getD 3 false) && Do (a.drop 6) (i - 6)))
theorem ny {a} (h:a∈Ev):a.drop 6∈tG:=by
 have:(Ev.all fun a=>tG.contains (a.drop 6))=true:=by kernel_rfl
 simpa using List.all_eq_true.1 this a h
theorem vB {a i} (h:Et a i=true):i=3 ∨ ∃ j,i=6+j∧(j=0→a.getD 3 false=true)∧Do (a.drop 6) j=true:=by
 unfold Et at h;simp only[Bool.or_eq_true,Bool.and_eq_true,beq_iff_eq,decide_eq_true_eq,bne_iff_ne,ne_eq] at h;rcases h with h|⟨h1,h2,h3⟩
 · exact .inl h
 · refine .inr ⟨i - 6,by omega,fun h0=>?_,h3⟩
   rcases h2 with h2|h2
   · omega
   · exact h2
def rQ (a:List Bool):Prop:=a.getD 3 false=true
theorem qg {a j} (h:rQ (a.set (6+j) true)):rQ a:=by
 unfold rQ at *
 rwa [iB a (6+j) 3 f_] at h
theorem oH (a:List Bool):(a.set 3 true).drop 6=a.drop 6:=by
 rw[List.drop_set];simp
theorem pu {P} {F:Nat} {args w R} (h:Calls P F args w (pF w R)) :
 Calls P F args w fun e w'=>∃ cs,e =fH (fI #[e_ cs,b_ c_ R.2])∧kw cs∧gi (gJ w' (e_ cs) R.1)∧gi (Up w w'):=h.mono fun e w' ⟨v,he,a,b⟩=>by
 obtain⟨cs,rfl,c⟩:=oR a;exact⟨cs,he,c,gg a,gg b⟩
theorem vJ {M H N} (g:gF M H N) (c):∀ x∈(lW M c).1.harts,x.r.length=32:=by
 by_cases h:(lW M c).2=0
 · exact(sU g c h).regs
 · rw[BY _ _ h];intro x a;cases a
def kG (H:Int) (b:List Int) (mem:Nat) (a:List Int) (lines:List Ln):i8×Int:=if oM H a lines then (sK H.toNat b mem a lines,0) else (jX,1)
theorem uf H b mem c (lines):∀ x∈(kG H b mem c lines).1.harts,x.r.length=32:=by
 unfold kG;split
 · intro x a;rw[List.eq_of_mem_replicate a];rfl
 · intro x a;cases a
theorem DJ H v c d b mem a lines w (f:kE w v b mem) (e:iQ w 1 a.length c (gz a)) (hl:iQ w 3 lines.length d (iC j_ lines)) :
 Calls gd 11 #[b_ c_ H,v,c,d] w (pF w (kG H b mem a lines)):=by
 unfold kG;by_cases h:oM H a lines
 · rw[if_pos h]
   obtain⟨h1,h2,h3,h4,h5⟩:=h;obtain⟨k,rfl⟩:∃ k:Nat,H=k:=⟨H.toNat,by omega⟩;exact GD k v c d b mem a lines w f e hl f_ h2 h3 h4 h5
 · rw[if_neg h]
   refine Aa H v c d b mem a lines w f e hl fun g=>?_
   by_cases h2:a.length≤8
   · by_cases h3:lines.length≤8
     · cases h4:a.any jY
       · cases h5:lines.any (jK H)
         · exact absurd ⟨g,h2,h3,h4,h5⟩ h
         · exact .inr (.inr (.inr rfl))
       · exact .inr (.inl rfl)
     · exact .inr (.inr (.inl f_))
   · exact .inl f_
theorem qj {w g o l} (a:w.rangeAt g o (jg l)):(loadVar 28 ⟨g,o,none⟩).run gd w = .ok (e_ #[b_ c_ l.k,b_ c_ l.h,b_ c_ l.w,b_ c_ l.n]) w:=
 run_loadVar_mid (P:=gd) w g o 28 (jg l) _ a Tryz.underlying28 rfl o_
theorem tR {w v l} (h:jM 4 jg w v l) {b cs cs'} (q:w.heap[b]? = some (d_ cs 37 (0,0))) (m:kw cs):jM 4 jg (w.setRow b cs') v l:=by
 obtain⟨a,c,e,h1,h2,h3⟩:=h;refine⟨a,c,e,h1,h2,?_⟩;rcases h3 with h3|⟨f,o,rfl,t,A⟩
 · exact .inl h3
 · refine .inr ⟨f,o,rfl,by rw[size_setRow];exact t,fun i r p j u g=>?_⟩
   have d:=A i r p j u g;by_cases k:f=b
   · subst k
     exfalso
     simp only[World.cell?,q] at d;obtain⟨x,y,z,s⟩:=m.all _ _ d;have n:u∈jg r:=List.mem_of_getElem? g;subst s;simp[jg] at n
   · simp only[World.cell?] at d ⊢
     rw[setRow_other w b f cs' k];exact d
theorem uo {w v M H N} k h x n (a:gJ w v M) (c:gi (gF M H N)) (b:N≤100000) (d:iy n) :
 Calls gd 18 #[v,e_ #[b_ c_ k,b_ c_ h,b_ c_ x,b_ c_ n]] w fun e w'=>∃ cs,e =fH (fI #[e_ cs,b_ c_ (lW M ⟨k,h,x,n⟩).2])∧kw cs∧gi (gJ w' (e_ cs) (lW M ⟨k,h,x,n⟩).1)∧gi (Up w w'):=pu (DN v M H N ⟨k,h,x,n⟩ w a c b d)
theorem mA:iy 0:=by unfold iy;omega
theorem DS {b} (h:∀ r∈b,CZ r):∀ c∈uP b,iy c.n:=by
 intro c a;unfold uP at a;obtain⟨r,d,rfl⟩:=List.mem_map.1 a;have h3:=(h r (List.mem_of_mem_take d)).2.2;unfold rE;split
 · exact mA
 · split
   · exact mA
   · split
     · exact mA
     · split
       · exact h3
       · exact mA
theorem Cp H v d c b mem a lines w (f:kE w v b mem) (e:iQ w 1 a.length d (gz a)) (hl:iQ w 3 lines.length c (iC j_ lines)) :
 Calls gd 13 #[b_ c_ H,v,d,c] w (pF w (kG H b mem a lines)):=by
 unfold kG;exact Cx H v d c b mem a lines w f e hl
theorem walkTells v0 W a1 b1 c1 v2 l2 v3 l3 v4 l4 x5 w (g0:jM 4 c4 w v0 W) (u0:∀ r∈W,C6 r) (i1:iy a1) (i2:iy b1) (i3:iy c1) (g2:jM 1 Go.Proofs.YtdobddiibgfeaaaGreat.c1 w v2 l2) (u2:∀ n∈l2,iy n) (g3:jM 3 jZ w v3 l3) (u3:∀ x∈l3,ph x) (g4:jM 3 c3 w v4 l4) (u4:∀ r∈l4,CZ r) (u5:oN x5) :
 Calls gd 3 #[v0,e_ #[b_ c_ a1,b_ c_ b1,b_ c_ c1],v2,v3,v4,e_ (ky x5).toArray] w fun e w'=>e =fH (fJ true)∧Up w w':=by
 have G0:=gg g0;have U0:=gg u0;have G2:=gg g2;have G3:=gg g3;have G4:=gg g4;have U4:=gg u4;have U5:=gg u5;obtain⟨va,vc,rfl,_,_,_⟩:=g0;obtain⟨ka,kc,rfl,be,bh,_⟩:=g2;obtain⟨la,lc,rfl,bE,bF,_⟩:=g3;obtain⟨ta,tc,rfl,_,_,_⟩:=g4;obtain⟨kk,hh,ww,nn⟩:=x5;unfold ky jg;clear u0 u2 u3 u4 u5;obtain⟨w1,bG,a7,bA,ab,_⟩:=lU w (d_ #[b_ c_ a1,b_ c_ b1,b_ c_ c1] 23) (d_ #[b_ c_ kk,b_ c_ hh,b_ c_ ww,b_ c_ nn] 28);have X1:=gg a7;have Y1:=gg bA;have B1:=gg ab;clear a7 bA ab
 go_in
 go_upto_region 1 with(fail)
 rw[←bG];clear bG;go_upto_region 2 with(go_at_call 10;((with_reducible refine(ze _).mono ?_);rintro e w2 ⟨rfl,a5⟩;have av:=gg a5;clear a5))
 obtain⟨t0,t1,t2⟩:=iv (gk av.o X1.o);have Y2:=gg (gk av.o Y1.o);have X2:=gg (gk av.o X1.o);have M:=gg (gj B1.o av.o);clear X1 Y1 B1 av;obtain⟨n2,aZ⟩:∃ n,n=l2.length:=⟨_,rfl⟩;obtain⟨n3,aP⟩:∃ n,n=l3.length:=⟨_,rfl⟩;rw[←aZ] at be ⊢
 rw[←aP] at bE ⊢
 have bl:=gg aZ;have bK:=gg aP;clear aZ aP;unfold maxLen at bh bF;have bB:(9:Nat)<n2→9≤kc:=fun h=>by omega
 go_upto_if 37 with(fail)
 go_cut [2] (fun s wx=>s =a_ ka (min n2 9) kc∧wx=w2)
 case first=>
  by_cases h:n2≤9
  · have d:decide (9<(n2:Int))=false:=by simp;omega
    go_wp2
    go_meet
    case rel=>exact⟨by rw[Nat.min_eq_left h],rfl⟩
  · have d:decide (9<(n2:Int))=true:=by simp;omega
    have e2:=bB f_;have e3:(9:Int)≤kc:=by omega
    go_wp2
    go_meet
    case rel=>exact⟨by rw[Nat.min_eq_right f_],rfl⟩
 case rest=>
 obtain⟨rfl,am⟩:=hcut;have am:=am.symm;subst am;have a8:(9:Nat)<n3→9≤lc:=fun h=>by omega
 go_upto_if 42 with(fail)
 go_cut [3] (fun s wx=>s =a_ la (min n3 9) lc∧wx=w2)
 case first=>
  by_cases h:n3≤9
  · have d:decide (9<(n3:Int))=false:=by simp;omega
    go_wp2
    go_meet
    case rel=>exact⟨by rw[Nat.min_eq_left h],rfl⟩
  · have d:decide (9<(n3:Int))=true:=by simp;omega
    have e2:=a8 f_;have e3:(9:Int)≤lc:=by omega
    go_wp2
    go_meet
    case rel=>exact⟨by rw[Nat.min_eq_right f_],rfl⟩
 case rest=>
 obtain⟨rfl,am⟩:=hcut;have am:=am.symm;subst am;have KB:gi (iQ w2 1 (l2.take (min n2 9)).length (a_ ka (min n2 9) kc) (gz (l2.take (min n2 9)))):=gg (tQ ((G2.o.below M.o).take (by rw[←bl.o];exact Nat.min_le_left _ _)));have LB:gi (iQ w2 3 (l3.take (min n3 9)).length (a_ la (min n3 9) lc) (iC j_ (l3.take (min n3 9)))):=gg (rI ((G3.o.below M.o).take (by rw[←bK.o];exact Nat.min_le_left _ _)));have CB:=gg (G0.o.below M.o);have TB:=gg (G4.o.below M.o);have ar:=gg (gn X2.o);clear G0 G2 G3 G4 bl bK be bh bE bF bB a8;generalize l2.take (min n2 9)=KS at *
 generalize l3.take (min n3 9)=LS at *
 generalize min n2 9=n2' at *
 generalize min n3 9=n3' at *
 go_upto_region 6 with(fail)
 refine fX (fun w'=>Up w2 w') [true,true,true,false,true,true] (fun a b h hu=>gj h hu) fK ?aa6 ?hh6 ?ht6
 case hh6=>
  intro w0 aa;have z0:=fun x:Wd w0=>gD (fN ar.o aa.size) ((aa.cell (p:=⟨_,0,none⟩) ar.o).trans t0) x
  simp only[jd];repeat(go_big_quiet_step (fail))
  refine wpQuiet_nil ?_
  rfl
 case' ht6=>
  change kN _ _ _ _ _ 8 _ _ _;refine Ek Ev Et [true,true,true,false,true,true,false,false,false,false,false,false,false] _ (fun a0 K a w'=>∃ u3 cs q y u0 u1 u m,a=(((((((a0.put (some 49) u3).put (some 52) q).put (some 45) y).put (some 53) u0).put (some 54) u1).put (some 14) u).put (some 15) m)∧iI w2 (kG a1 (pP W) 4 KS LS).1 (kG a1 (pP W) 4 KS LS).2 (K.drop 6) cs q y u0 u1 u m w'∧(rQ K→kE w' u3 (pP W) 4)) ga ga ga (iR fK) ?s6 ?i6 ?e6 ?t6
  case s6=>
   refine⟨?v60,gq,?v61,?v62,?v63,?v64,?v65,?v66,?eq6,iI.start (iR fK) rfl,fun x=>absurd x (by unfold rQ;decide)⟩
   case eq6=>simp only[Act.put,fU,fV,fW];exact rfl
  case i6=>
   rintro K a w7 w8 ⟨u3,cs,q,y,u0,u1,u,m,e,G,hG⟩ hu;exact⟨u3,cs,q,y,u0,u1,u,m,e,G.up hu,fun x=>(hG x).below hu⟩
  case t6=>
   rintro K a w7 i hm ⟨u3,cs,q,y,u0,u1,u,m,rfl,G,hG⟩ C N hf;have g:=gg G;have aw:=gg hG;have ac:=ny hm;clear G hG;rcases vB N with rfl|⟨j,rfl,aR,N⟩
   · refine kZ (i:=3) rfl ?_
     simp only[Act.put,fU,fV,fW];have Q:=gg C
     go_wp2_with (go_at_call 12;((with_reducible refine(nJ _ W _ (CB.o.below Q.o) U0.o).mono ?_);rintro e w8 ⟨v8,rfl,hg,I⟩;have g8:=gg hg;have S:=gg I;clear hg I))
     refine⟨gj Q.o S.o,v8,cs,q,y,u0,u1,u,m,rfl,?_,fun _=>g8.o⟩
     try rw[oH]
     exact g.o.up S.o
   unfold Do at N;simp only[Bool.or_eq_true,Bool.and_eq_true,beq_iff_eq,decide_eq_true_eq] at N;have hd:=GF hf;have J:=Gw K 6 j;have U:=gg (fun x=>aw.o (qg (j:=j) x));rcases N with(((((rfl|rfl)|⟨rfl,g0⟩)|⟨rfl,g1⟩)|⟨rfl,g1⟩)|⟨rfl,g0,g2,g4⟩)|⟨rfl,g3,g5⟩
   · refine kZ (i:=6) rfl ?_
     have a3:=gg (aw.o (aR rfl));simp only[Act.put,fU,fV,fW];have Q:=gg C
     go_wp2_with (go_at_call 11;((with_reducible refine(pu (DJ a1 _ _ _ _ _ _ _ _ a3.o (KB.o.below Q.o) (LB.o.below Q.o))).mono ?_);rintro e w8 ⟨c8,rfl,n8,m8,S⟩))
     refine⟨gj Q.o S.o,_,c8,_,y,u0,u1,u,m,rfl,?_,fun x=>(U.o x).below S.o⟩
     try rw[J]
     exact g.o.putc ac hd n8 m8.o S.o
   · refine kZ (i:=10) rfl ?_
     simp only[Act.put,fU,fV,fW]
     go_wp2_with fail
     refine⟨gj C (gr _ _),u3,cs,q,y,u0,u1,_,m,rfl,?_,fun x=>(U.o x).below (gr _ _)⟩
     try rw[J]
     exact g.o.puta ac hd
   · refine kZ (i:=7) rfl ?_
     obtain⟨rfl,_,_⟩:=g.o.fc g0;simp only[Act.put,fU,fV,fW]
     go_wp2_with fail
     refine⟨C,u3,cs,_,_,u0,u1,u,m,rfl,?_,U.o⟩
     try rw[J]
     exact g.o.putm
   · refine kZ (i:=8) rfl ?_
     obtain rfl:=g.o.fm g1;simp only[Act.put,fU,fV,fW]
     go_wp2_with fail
     refine⟨C,u3,cs,q,_,_,u1,u,m,rfl,?_,U.o⟩
     try rw[J]
     exact g.o.put0
   · refine kZ (i:=9) rfl ?_
     obtain rfl:=g.o.fm g1;simp only[Act.put,fU,fV,fW]
     go_wp2_with fail
     refine⟨C,u3,cs,q,_,u0,_,u,m,rfl,?_,U.o⟩
     try rw[J]
     exact g.o.put1
   · refine kZ (i:=11) rfl ?_
     obtain rfl:=g.o.f0 g2;obtain⟨b,af,ab,L⟩:=g.o.fa g4;have ae:=(g.o.fc g0).2.1;rw[yK hd,if_neg fZ] at L;have HX:=gg L;have aA:=gg (g.o.puts ac L af ab);have aV:=gg (fun x=>sZ (U.o x) L mj (cs':=cs));subst af;clear L g;simp only[Act.put,fU,fV,fW]
     go_wp2_with (refine wpList_store_row rfl 37 _ _ rfl (b) cs rfl rfl 37 gq HX.o ae.info (by rw[mj.size,ae.size]) ae.one ?_)
     refine⟨below_setRow C ab _,u3,cs,q,y,_,u1,_,m,rfl,?_,aV.o⟩
     try rw[J]
     exact aA.o
   · refine kZ (i:=12) rfl ?_
     obtain rfl:=g.o.f1 g3;simp only[Act.put,fU,fV,fW]
     go_wp2_with fail
     refine⟨C,u3,cs,q,y,u0,_,u,_,rfl,?_,U.o⟩
     try rw[J]
     exact g.o.putz
  case' e6=>
   rintro K a w6 ha hm ⟨v3,c6,q,y,u0,u1,u,m,rfl,G,_⟩ C;obtain⟨b6,rfl,rfl,rfl,rfl,rfl,rfl,hv,ba⟩:=G.done (ny hm) (Gx 6 ha);have V6:=gg hv;have ah:=G.bel;clear G C ha hm hv;simp only[Act.put,fU,fV,fW]
 have VA:=V6
 replace X2:=gg (gk ah X2.o)
 replace Y2:=gg (gk ah Y2.o)
 replace M:=gg (gj M.o ah)
 replace CB:=gg (CB.o.below ah)
 replace TB:=gg (TB.o.below ah)
 replace KB:=gg (KB.o.below ah)
 replace LB:=gg (LB.o.below ah)
 replace ar:=gg (gn X2.o)
 obtain⟨s0,s1,s2⟩:=iv X2.o;clear t0 t1 t2 V6 ah;go_upto_region 7 with(fail)
 refine fX (fun w'=>Up w6 w') [true,true,true,false,true,true] (fun a b h hu=>gj h hu) fK ?aa7 ?hh7 ?ht7
 case hh7=>
  intro w0 aa;have z0:=fun x:Wd w0=>gD (fN ar.o aa.size) ((aa.cell (p:=⟨_,0,none⟩) ar.o).trans s0) x
  simp only[jd];repeat(go_big_quiet_step (fail))
  refine wpQuiet_nil ?_
  rfl
 case' ht7=>
  change kN _ _ _ _ _ 8 _ _ _;refine Ek Ev Et [true,true,true,false,true,true,false,false,false,false,false,false,false] _ (fun a0 K a w'=>∃ u3 cs q y u0 u1 u m,a=(((((((a0.put (some 59) u3).put (some 62) q).put (some 55) y).put (some 63) u0).put (some 64) u1).put (some 16) u).put (some 17) m)∧iI w6 (kG a1 (pP W) 4 KS LS).1 (kG a1 (pP W) 4 KS LS).2 (K.drop 6) cs q y u0 u1 u m w'∧(rQ K→kE w' u3 (pP W) 4)) ga ga ga (iR fK) ?s7 ?i7 ?e7 ?t7
  case s7=>
   refine⟨?v70,gq,?v71,?v72,?v73,?v74,?v75,?v76,?eq7,iI.start (iR fK) rfl,fun x=>absurd x (by unfold rQ;decide)⟩
   case eq7=>simp only[Act.put,fU,fV,fW];exact rfl
  case i7=>
   rintro K a w7 w8 ⟨u3,cs,q,y,u0,u1,u,m,e,G,hG⟩ hu;exact⟨u3,cs,q,y,u0,u1,u,m,e,G.up hu,fun x=>(hG x).below hu⟩
  case t7=>
   rintro K a w7 i hm ⟨u3,cs,q,y,u0,u1,u,m,rfl,G,hG⟩ C N hf;have g:=gg G;have aw:=gg hG;have ac:=ny hm;clear G hG;rcases vB N with rfl|⟨j,rfl,aR,N⟩
   · refine kZ (i:=3) rfl ?_
     simp only[Act.put,fU,fV,fW];have Q:=gg C
     go_wp2_with (go_at_call 12;((with_reducible refine(nJ _ W _ (CB.o.below Q.o) U0.o).mono ?_);rintro e w8 ⟨v8,rfl,hg,I⟩;have g8:=gg hg;have S:=gg I;clear hg I))
     refine⟨gj Q.o S.o,v8,cs,q,y,u0,u1,u,m,rfl,?_,fun _=>g8.o⟩
     try rw[oH]
     exact g.o.up S.o
   unfold Do at N;simp only[Bool.or_eq_true,Bool.and_eq_true,beq_iff_eq,decide_eq_true_eq] at N;have hd:=GF hf;have J:=Gw K 6 j;have U:=gg (fun x=>aw.o (qg (j:=j) x));rcases N with(((((rfl|rfl)|⟨rfl,g0⟩)|⟨rfl,g1⟩)|⟨rfl,g1⟩)|⟨rfl,g0,g2,g4⟩)|⟨rfl,g3,g5⟩
   · refine kZ (i:=6) rfl ?_
     have a3:=gg (aw.o (aR rfl));simp only[Act.put,fU,fV,fW];have Q:=gg C
     go_wp2_with (go_at_call 13;((with_reducible refine(pu (Cp a1 _ _ _ _ _ _ _ _ a3.o (KB.o.below Q.o) (LB.o.below Q.o))).mono ?_);rintro e w8 ⟨c8,rfl,n8,m8,S⟩))
     refine⟨gj Q.o S.o,_,c8,_,y,u0,u1,u,m,rfl,?_,fun x=>(U.o x).below S.o⟩
     try rw[J]
     exact g.o.putc ac hd n8 m8.o S.o
   · refine kZ (i:=10) rfl ?_
     simp only[Act.put,fU,fV,fW]
     go_wp2_with fail
     refine⟨gj C (gr _ _),u3,cs,q,y,u0,u1,_,m,rfl,?_,fun x=>(U.o x).below (gr _ _)⟩
     try rw[J]
     exact g.o.puta ac hd
   · refine kZ (i:=7) rfl ?_
     obtain⟨rfl,_,_⟩:=g.o.fc g0;simp only[Act.put,fU,fV,fW]
     go_wp2_with fail
     refine⟨C,u3,cs,_,_,u0,u1,u,m,rfl,?_,U.o⟩
     try rw[J]
     exact g.o.putm
   · refine kZ (i:=8) rfl ?_
     obtain rfl:=g.o.fm g1;simp only[Act.put,fU,fV,fW]
     go_wp2_with fail
     refine⟨C,u3,cs,q,_,_,u1,u,m,rfl,?_,U.o⟩
     try rw[J]
     exact g.o.put0
   · refine kZ (i:=9) rfl ?_
     obtain rfl:=g.o.fm g1;simp only[Act.put,fU,fV,fW]
     go_wp2_with fail
     refine⟨C,u3,cs,q,_,u0,_,u,m,rfl,?_,U.o⟩
     try rw[J]
     exact g.o.put1
   · refine kZ (i:=11) rfl ?_
     obtain rfl:=g.o.f0 g2;obtain⟨b,af,ab,L⟩:=g.o.fa g4;have ae:=(g.o.fc g0).2.1;rw[yK hd,if_neg fZ] at L;have HX:=gg L;have aA:=gg (g.o.puts ac L af ab);have aV:=gg (fun x=>sZ (U.o x) L mj (cs':=cs));subst af;clear L g;simp only[Act.put,fU,fV,fW]
     go_wp2_with (refine wpList_store_row rfl 37 _ _ rfl (b) cs rfl rfl 37 gq HX.o ae.info (by rw[mj.size,ae.size]) ae.one ?_)
     refine⟨below_setRow C ab _,u3,cs,q,y,_,u1,_,m,rfl,?_,aV.o⟩
     try rw[J]
     exact aA.o
   · refine kZ (i:=12) rfl ?_
     obtain rfl:=g.o.f1 g3;simp only[Act.put,fU,fV,fW]
     go_wp2_with fail
     refine⟨C,u3,cs,q,y,u0,_,u,_,rfl,?_,U.o⟩
     try rw[J]
     exact g.o.putz
  case' e7=>
   rintro K a w7 ha hm ⟨v3,c7,q,y,u0,u1,u,m,rfl,G,_⟩ C;obtain⟨b7,rfl,rfl,rfl,rfl,rfl,rfl,hv,ba⟩:=G.done (ny hm) (Gx 6 ha);have V7:=gg hv;have al:=G.bel;clear G C ha hm hv;simp only[Act.put,fU,fV,fW]
 have VB:=V7
 replace VA:=gg (VA.o.below al)
 replace X2:=gg (gk al X2.o)
 replace Y2:=gg (gk al Y2.o)
 replace M:=gg (gj M.o al)
 replace CB:=gg (CB.o.below al)
 replace TB:=gg (TB.o.below al)
 have NR:=gg (uf a1 (pP W) 4 KS LS);clear s0 s1 s2 V7 al KB LB ar;generalize kG a1 (pP W) 4 KS LS=R at *
 obtain⟨R,e⟩:=R;simp only at VA VB NR;have HS:gi (Calls gd 14 #[e_ c6,e_ c7] w7 fun e w'=>e =fH (fJ true)∧Up w7 w'):=gg (by have:=nu _ _ _ _ w7 VA.o.mac VB.o.mac NR.o NR.o;rwa [decide_eq_true rfl] at this);have LA:=gg (sH VA.o);have LL:=gg (sH VB.o);have aW:(e != e)=false:=by simp
 go_upto_region 10 with(first|((with_reducible refine yL (o:=⟨_,.load _ _,_,_,_,_⟩) ?_ 37 _ rfl (b6) ?_ (e_ c6) LA.o ?_);rotate_left;exact rfl;rotate_left;exact rfl)|((with_reducible refine yL (o:=⟨_,.load _ _,_,_,_,_⟩) ?_ 37 _ rfl (b7) ?_ (e_ c7) LL.o ?_);rotate_left;exact rfl;rotate_left;exact rfl)|(go_at_call 14;((with_reducible refine HS.o.mono ?_);rintro e w8 ⟨rfl,bH⟩;have B8:=gg bH;clear bH)))
 replace X2:=gg (gk B8.o X2.o)
 replace Y2:=gg (gk B8.o Y2.o)
 replace M:=gg (gj M.o B8.o)
 replace CB:=gg (CB.o.below B8.o)
 replace TB:=gg (TB.o.below B8.o)
 obtain⟨t0,t1,t2⟩:=iv X2.o;have aY:gi (gF (Dl W a1 b1 c1) (vd a1) 0):=gg (Me W a1 b1 c1);have hH:=Gd a1;generalize vd a1=H at *
 clear VA VB NR HS LA LL aW B8 X2;go_upto_region 11 with(first|(go_at_call 15;((with_reducible refine(Lu CB.o U0 i1 i2 i3).mono ?_);rintro e w9 ⟨c9,rfl,n9,m9,b9⟩))|(refine wpList_store_row rfl 37 _ _ rfl (w9.heap.size) c9 rfl rfl 37 gq (gH w9 _) n9.info (by rw[mj.size,n9.size]) n9.one ?_))
 obtain⟨bb,aG⟩:∃ x,x=(w9.alloc (d_ gq 37)).setRow w9.heap.size c9:=⟨_,rfl⟩;have aI:Up w8 bb:=by rw[aG];exact gj b9.o (yX w9 c9)
 generalize Dl W a1 b1 c1=M0 at *
 have V:gi (ld bb w9.heap.size c9 M0):=gg (by rw[aG];exact BK w9 n9 m9.o);have bX:w.heap.size≤w9.heap.size:=fO M.o.size b9.o.size
 replace Y2:=gg (gk aI Y2.o)
 replace M:=gg (gj M.o aI)
 replace TB:=gg (TB.o.below aI)
 rw[←aG];clear aG b9 m9 t0 t1 t2 CB U0 aI;generalize w9.heap.size=bm at *
 go_upto_region 12 with(go_at_call 16;((with_reducible refine(Ld TB.o U4).mono ?_);rintro e ad ⟨sa,sc,rfl,hs,I⟩))
 replace V:=gg (V.o.below I.o)
 replace Y2:=gg (gk I.o Y2.o)
 replace M:=gg (gj M.o I.o)
 have bQ:=Kf l4;have SN:=gg (DS U4.o);generalize uP l4=sl at *
 obtain⟨n,hn⟩:∃ x,x=sl.length:=⟨_,rfl⟩;have HN:=gg hn;rw[←hn] at hs bQ ⊢
 have aT:=gg V.o.at_;clear hn I TB U4;go_upto_region 13 with(first|(refine wpList_load_row rfl 37 _ rfl (bm) rfl 37 c9 (0,0) _ aT.o Tryz.underlying37 rfl n9.info ?_)|(refine wpList_store_row rfl 37 _ _ rfl (ad.heap.size) c9 rfl rfl 37 gq (gH ad _) n9.info (by rw[mj.size,n9.size]) n9.one ?_))
 obtain⟨br,aO⟩:∃ x,x=(ad.alloc (d_ gq 37)).setRow ad.heap.size c9:=⟨_,rfl⟩;have au:Up ad br:=by rw[aO];exact yX ad c9
 have FV:gi (ld br ad.heap.size c9 M0):=gg (by rw[aO];exact BK ad n9 V.o.mac);have b4:bm≠ad.heap.size:=by have:=gn aT.o;omega
 replace V:=gg (V.o.below au)
 replace Y2:=gg (gk au Y2.o)
 replace M:=gg (gj M.o au)
 replace hs:=gg (hs.o.below au)
 rw[←aO];have bO:bm≠w.heap.size+1:=fun h=>by have h1:=V.o.at_;have h2:=Y2.o;rw[h,h2] at h1;injection h1 with h1;injection h1 with _ h1;exact absurd h1 fZ
 clear aO au aT;generalize ad.heap.size=bf at *
 go_wp2_with fail
 go_loopw [21,22] (fun d i wr=>∃ (k:Nat) (cs:Array Value),k≤n∧i =b_ c_ k∧d =b_ c_ (iX M0 (sl.take k)).2∧ld wr bm cs (iX M0 (sl.take k)).1∧ld wr bf c9 M0∧jM 4 jg wr (a_ sa n sc) sl∧wr.heap[w.heap.size+1]? = some (d_ #[b_ c_ kk,b_ c_ hh,b_ c_ ww,b_ c_ nn] 28 (0,0))∧Up w wr) (fun _ i _=>n - (intOf i).toNat)
 case atStart=>exact⟨0,c9,fM,rfl,rfl,V.o,FV.o,hs.o,Y2.o,M.o⟩
 case round=>
 obtain⟨wo,bV⟩:∃ x,x=wr:=⟨_,rfl⟩;subst bV;obtain⟨k,cs,hk,rfl,rfl,hv,hf,hr,hy,I⟩:=hrel;clear V FV hs Y2 M;have V:=gg hv;have FV:=gg hf;have HS:=gg hr;have Y:=gg hy;have B:=gg I;clear hv hf hr hy I;by_cases aN:k<n
 rotate_left
 · have ca:k=n:=by omega
   subst ca;have bz:sl.take k=sl:=by rw[HN.o,List.take_length]
   rw[bz] at V ⊢
   have HR:=gg (Ha FV.o.mac HS.o aY (by rw[←HN.o];omega));have GX:=gg (EO sl aY.o);clear bz;generalize iX M0 sl=X at *
   obtain⟨X,d⟩:=X;simp only at V HR GX ⊢
   have A:=gg FV.o.at_;have nm:=V.o.nine;go_upto_region 35 with(first|(refine wpList_load_row rfl 37 _ rfl (bf) rfl 37 c9 (0,0) _ A.o Tryz.underlying37 rfl n9.info ?_)|(go_at_call 22;((with_reducible refine HR.o.mono ?_);rintro e ak ⟨cx,rfl,nx,mx,a9⟩))|(refine wpList_store_row rfl 37 _ _ rfl (ak.heap.size) cx rfl rfl 37 gq (gH ak _) nx.info (by rw[mj.size,nx.size]) nx.one ?_))
   obtain⟨ap,aH⟩:∃ x,x=(ak.alloc (d_ gq 37)).setRow ak.heap.size cx:=⟨_,rfl⟩;have aS:Up wo ap:=by rw[aH];exact gj a9.o (yX ak cx)
   have XV:gi (ld ap ak.heap.size cx X):=gg (by rw[aH];exact BK ak nx mx.o)
   replace V:=gg (V.o.below aS)
   replace B:=gg (gj B.o aS)
   rw[←aH];clear aH aS a9 mx A HR FV HS Y;generalize ak.heap.size=bx at *
   have LX:=gg (sH XV.o);have LM:=gg (sH V.o);have S1:gi (∀ w',Up ap w'→Calls gd 14 #[e_ cx,e_ cs] w' fun e P=>e =fH (fJ true)∧Up w' P):=gg fun w' h=>by have:=nu _ _ _ _ w' (XV.o.below h).mac (V.o.below h).mac GX.o.regs GX.o.regs;rwa [decide_eq_true rfl] at this
   have S2:gi (∀ w',Up ap w'→Calls gd 19 #[e_ cx,e_ cs] w' fun e P=>e =fH (fJ true)∧Up w' P):=gg fun w' h=>by have:=ES _ _ _ _ w' (XV.o.below h).mac (V.o.below h).mac GX.o.regs GX.o.regs;rwa [decide_eq_true rfl] at this
   have ct:(d == d)=true:=by simp
   go_wp2_with (first|((with_reducible refine yL (o:=⟨_,.load _ _,_,_,_,_⟩) ?_ 37 _ rfl (bx) ?_ (e_ cx) LX.o ?_);rotate_left;exact rfl;rotate_left;exact rfl)|((with_reducible refine yL (o:=⟨_,.load _ _,_,_,_,_⟩) ?_ 37 _ rfl (bm) ?_ (e_ cs) LM.o ?_);rotate_left;exact rfl;rotate_left;exact rfl)|(go_at_call 14;((with_reducible refine(S1.o _ fK).mono ?_);rintro e cv ⟨rfl,aF⟩;have b0:=gg (sH (XV.o.below aF));have bS:=gg (sH (V.o.below aF));have bC:=gg aF;clear aF))|((with_reducible refine yL (o:=⟨_,.load _ _,_,_,_,_⟩) ?_ 37 _ rfl (bx) ?_ (e_ cx) b0.o ?_);rotate_left;exact rfl;rotate_left;exact rfl)|((with_reducible refine yL (o:=⟨_,.load _ _,_,_,_,_⟩) ?_ 37 _ rfl (bm) ?_ (e_ cs) bS.o ?_);rotate_left;exact rfl;rotate_left;exact rfl)|(go_at_call 19;((with_reducible refine(S2.o _ bC.o).mono ?_);rintro e cf ⟨rfl,bI⟩;have b5:=gg (gj (gj B.o bC.o) bI);clear bI)))
   go_ret;exact⟨gt (iO (by first|rfl|simp)),b5.o⟩
 have d0:decide ((k:Int)<(n:Int))=true:=by simpa using aN
 have aq:k<sl.length:=by rw[←HN.o];exact aN
 have bj:¬ sl=[]:=by intro h;rw[h] at aq;exact absurd aq gb
 obtain⟨cd,cm,es,_,_,bt⟩:=HS.o;injection es with es1 es2 es3
 subst es1 es3;clear es2;obtain⟨sb,so,rfl,aC,a6⟩:=bt.resolve_left bj;have bw:=a6 k sl[k] (fQ aq);have RS:=gg (qJ M0 sl k sl[k] (fQ aq));have GK:=gg (EO (sl.take k) aY.o);have RN:=It (sl.take k) M0;have bg:(sl.take k).length=k:=by simp;omega
 have IC:=gg (SN.o _ (List.getElem_mem aq));rw[bg] at RN GK;have bd:=gg RN;generalize iX M0 (sl.take k)=X at *
 obtain⟨X,d⟩:=X;generalize sl[k]=c at *
 obtain⟨T,ch,Z,cn⟩:=c;have aU:gi (∀ j v,(jg ⟨T,ch,Z,cn⟩)[j]? = some v→wo.cell? ⟨sb,so+k*4+j,none⟩=some v):=gg bw;simp only at V bd GK IC ⊢
 clear bt a6 bw bj aq bg RN;have q0:decide ((n:Int)≤(k:Int))=false:=by simpa using aN
 have q1:decide ((k:Int)<0)=false:=by simp
 go_upto_region 17 with(fail)
 refine fX (fun w'=>Up wo w') [true,true,true,true,true,false,false,true] (fun a b h hu=>gj h hu) fK ?aa17 ?hh17 ?ht17
 case hh17=>
  intro w0 aa;have R0:gi (∀ w':World,(∃ x:Wd w0,w'=x.val)→(loadVar 28 ⟨w.heap.size+1,0,none⟩).run gd w' = .ok (e_ #[b_ c_ kk,b_ c_ hh,b_ c_ ww,b_ c_ nn]) w'):=gg (by rintro w' ⟨x,rfl⟩;exact run_loadVar_row _ _ _ _ _ (0,0) _ (gk x.bel (gk aa Y.o)) Tryz.underlying28 rfl o_);have R1:gi (∀ w':World,(∃ x:Wd w0,w'=x.val)→(loadVar 28 ⟨sb,so+k*4,none⟩).run gd w' = .ok (e_ #[b_ c_ T,b_ c_ ch,b_ c_ Z,b_ c_ cn]) w'):=gg (by rintro w' ⟨x,rfl⟩;exact qj (l:=⟨T,ch,Z,cn⟩) (pN (fN aC aa.size) (fun j v hj=>by rw[aa.cell (p:=⟨sb,_,none⟩) aC];exact aU.o j v hj) x));simp only[jd]
  go_big_quiet_want
  refine kY 28 _ ⟨w.heap.size+1,0,none⟩ (e_ #[b_ c_ kk,b_ c_ hh,b_ c_ ww,b_ c_ nn]) rfl rfl R0.o ?_
  simp only[Act.put,fU,fV,fW]
  go_big_quiet_on
  iterate 3 (go_big_quiet_step (fail))
  go_big_quiet_want
  refine kY 28 _ ⟨sb,so+k*4,none⟩ (e_ #[b_ c_ T,b_ c_ ch,b_ c_ Z,b_ c_ cn]) rfl rfl R1.o ?_
  simp only[Act.put,fU,fV,fW]
  go_big_quiet_on
  repeat(go_big_quiet_step (fail))
  refine wpQuiet_nil ?_
  rfl
 case' ht17=>
  change kN _ _ _ _ _ 2 _ _ _;refine js (i:=5) ga rfl ?_
  intro wa b3 bn;have CA:=gg bn;clear b3 bn
  go_wp2_with fail
  refine⟨gj CA.o (gr _ _),?_⟩;refine js (i:=6) ga rfl ?_
  intro wb bu bk;have L:=gk bu (gH wa _)
  go_wp2_with fail
  refine⟨bk,?_⟩;refine od ga ?_
  intro cg bM bi;have E:=gg (gk bM L);clear L bu
 have F:=gg bi;obtain⟨bs,bN⟩:∃ x,x=wa.heap.size:=⟨_,rfl⟩;rw[←bN] at E ⊢
 clear bN CA bk bM bi q0 q1 d0
 go_wp2_with fail
 go_loopw [98] (fun j O=>∃ r:Nat,r≤2∧j =b_ c_ r∧O.heap[bs]? = some (d_ #[b_ c_ kk,b_ c_ hh,b_ c_ ww,b_ c_ nn,b_ c_ T,b_ c_ ch,b_ c_ Z,b_ c_ cn] 28 (0,0))∧Up wo O) (fun j _=>2 - (intOf j).toNat)
 case atStart=>exact⟨0,by omega,rfl,E.o,F.o⟩
 case round=>
 obtain⟨O,bT⟩:∃ x,x=wr:=⟨_,rfl⟩;subst bT;obtain⟨r,cc,rfl,he,I⟩:=hrel;clear E F;have E:=gg he;have F:=gg I;clear he I;by_cases hr:r<2
 · have d1:decide ((r:Int)<2)=true:=by simp;omega
   obtain⟨xk,xh,xw,xn,p0,p1,p2,p3,bJ⟩:∃ xk xh xw xn:Int,O.cell? ⟨bs,r*4,none⟩=some (b_ c_ xk)∧O.cell? ⟨bs,r*4+1,none⟩=some (b_ c_ xh)∧O.cell? ⟨bs,r*4+2,none⟩=some (b_ c_ xw)∧O.cell? ⟨bs,r*4+3,none⟩=some (b_ c_ xn)∧iy xn:=by
    have h:r=0∨r=1:=by omega
    rcases h with rfl|rfl
    · exact⟨kk,hh,ww,nn,gv E.o (j:=0) rfl,gv E.o (j:=1) rfl,gv E.o (j:=2) rfl,gv E.o (j:=3) rfl,U5.o.2.2.2⟩
    · exact⟨T,ch,Z,cn,gv E.o (j:=4) rfl,gv E.o (j:=5) rfl,gv E.o (j:=6) rfl,gv E.o (j:=7) rfl,IC.o⟩
   have bU:=gg bJ;clear bJ;go_upto_region 20 with(refine wpList_store_row rfl 28 _ _ rfl O.heap.size #[b_ c_ xk,b_ c_ xh,b_ c_ xw,b_ c_ xn] rfl rfl 28 #[b_ c_ 0,b_ c_ 0,b_ c_ 0,b_ c_ 0] (gH O _) o_ rfl (by simp[Value.oneCell']) ?_)
   obtain⟨aE,aM⟩:∃ x,x=(O.alloc (d_ #[b_ c_ 0,b_ c_ 0,b_ c_ 0,b_ c_ 0] 28)).setRow O.heap.size #[b_ c_ xk,b_ c_ xh,b_ c_ xw,b_ c_ xn]:=⟨_,rfl⟩;have aX:Up O aE:=by rw[aM];exact below_setRow (gr O _) fL _
   have XC:gi (aE.heap[O.heap.size]? = some (d_ #[b_ c_ xk,b_ c_ xh,b_ c_ xw,b_ c_ xn] 28 (0,0))):=gg (by rw[aM];exact setRow_heap _ _ _ _ _ _ (gH O _))
   replace E:=gg (gk aX E.o)
   replace F:=gg (gj F.o aX)
   rw[←aM];clear aM aX p0 p1 p2 p3 d1;generalize O.heap.size=bv at *
   have VQ:=gg (V.o.below F.o);have A:=gg VQ.o.at_;have nm:=V.o.nine;obtain⟨t0,t1,t2,t3⟩:=kM XC.o;have aQ:=gn XC.o;have HD:=gg (oZ xk xh xw xn VQ.o.mac GK f_);have DR:=gg (vJ GK.o ⟨xk,xh,xw,xn⟩);generalize hD:lW X ⟨xk,xh,xw,xn⟩=D at *
   have bc:=gg hD;clear hD;obtain⟨D,er⟩:=D;simp only at HD DR;go_upto_region 21 with(first|(refine wpList_load_row rfl 37 _ rfl (bm) rfl 37 cs (0,0) _ A.o Tryz.underlying37 rfl nm.info ?_)|(go_at_call 17;((with_reducible refine HD.o.mono ?_);rintro e aj ⟨cp,rfl,np,mp,I⟩))|(refine wpList_store_row rfl 37 _ _ rfl (aj.heap.size) cp rfl rfl 37 gq (gH aj _) np.info (by rw[mj.size,np.size]) np.one ?_))
   obtain⟨aL,aD⟩:∃ x,x=(aj.alloc (d_ gq 37)).setRow aj.heap.size cp:=⟨_,rfl⟩;have aB:Up aE aL:=by rw[aD];exact gj I.o (yX aj cp)
   have PV:gi (ld aL aj.heap.size cp D):=gg (by rw[aD];exact BK aj np mp.o)
   replace E:=gg (gk aB E.o)
   replace XC:=gg (gk aB XC.o)
   replace F:=gg (gj F.o aB)
   rw[←aD];clear aD aB I mp t0 t1 t2 t3 aQ HD A VQ;generalize aj.heap.size=bp at *
   have VQ:=gg (V.o.below F.o);have A:=gg VQ.o.at_;obtain⟨t0,t1,t2,t3⟩:=kM XC.o;have aQ:=gn XC.o;have HD:=uo xk xh xw xn VQ.o.mac GK f_ bU.o;rw[bc.o] at HD
   replace HD:=gg HD
   clear bc;simp only at HD;go_upto_region 22 with(first|(refine wpList_load_row rfl 37 _ rfl (bm) rfl 37 cs (0,0) _ A.o Tryz.underlying37 rfl nm.info ?_)|(go_at_call 18;((with_reducible refine HD.o.mono ?_);rintro e ai ⟨cq,rfl,nq,mq,I⟩))|(refine wpList_store_row rfl 37 _ _ rfl (ai.heap.size) cq rfl rfl 37 gq (gH ai _) nq.info (by rw[mj.size,nq.size]) nq.one ?_))
   obtain⟨ag,aK⟩:∃ x,x=(ai.alloc (d_ gq 37)).setRow ai.heap.size cq:=⟨_,rfl⟩;have aJ:Up aL ag:=by rw[aK];exact gj I.o (yX ai cq)
   have QV:gi (ld ag ai.heap.size cq D):=gg (by rw[aK];exact BK ai nq mq.o)
   replace E:=gg (gk aJ E.o)
   replace PV:=gg (PV.o.below aJ)
   replace F:=gg (gj F.o aJ)
   rw[←aK];clear aK aJ I mq t0 t1 t2 t3 aQ HD A VQ XC;generalize ai.heap.size=bq at *
   have VQ:=gg (V.o.below F.o);obtain⟨t,ht⟩:∃ t,decide (D=X)=t:=⟨_,rfl⟩;have RP:gi (∀ w':World,(∃ x:Wd ag,w'=x.val)→(loadVar 37 ⟨bp,0,none⟩).run gd w' = .ok (e_ cp) w'):=gg (by rintro w' ⟨x,rfl⟩;exact sH (PV.o.below x.bel));have RQ:gi (∀ w':World,(∃ x:Wd ag,w'=x.val)→(loadVar 37 ⟨bq,0,none⟩).run gd w' = .ok (e_ cq) w'):=gg (by rintro w' ⟨x,rfl⟩;exact sH (QV.o.below x.bel));have RM:gi (∀ w':World,(∃ x:Wd ag,w'=x.val)→(loadVar 37 ⟨bm,0,none⟩).run gd w' = .ok (e_ cs) w'):=gg (by rintro w' ⟨x,rfl⟩;exact sH (VQ.o.below x.bel));have S1:gi (∀ x:Wd ag,Calls gd 14 #[e_ cp,e_ cq] x.val fun e P=>e =fH (fJ true)∧Below x.val.heap.size x.val P):=gg fun x=>by have:=nu _ _ _ _ x.val (PV.o.below x.bel).mac (QV.o.below x.bel).mac DR.o DR.o;rwa [decide_eq_true rfl] at this
   have S2:gi (∀ x:Wd ag,Calls gd 19 #[e_ cp,e_ cs] x.val fun e P=>e =fH (fJ t)∧Below x.val.heap.size x.val P):=gg fun x=>by have:=ES _ _ _ _ x.val (PV.o.below x.bel).mac (VQ.o.below x.bel).mac DR.o GK.o.regs;rwa [ht] at this
   have S3:gi (∀ x:Wd ag,Calls gd 14 #[e_ cp,e_ cs] x.val fun e P=>e =fH (fJ t)∧Below x.val.heap.size x.val P):=gg fun x=>by have:=nu _ _ _ _ x.val (PV.o.below x.bel).mac (VQ.o.below x.bel).mac DR.o GK.o.regs;rwa [ht] at this
   have aW:(er != er)=false:=by simp
   have bP:(t != t)=false:=by simp
   clear ht;refine kK ga ga ?_
   repeat(first|(go_big_quiet_step ((first|(go_at_call 14;with_reducible exact oS (S1.o _))|(go_at_call 19;with_reducible exact oS (S2.o _))|(go_at_call 14;with_reducible exact oS (S3.o _)))))|(go_big_quiet_want;refine kY 37 _ ⟨bp,0,none⟩ _ rfl rfl RP.o ?_;simp only[Act.put,fU,fV,fW];go_big_quiet_on)|(go_big_quiet_want;refine kY 37 _ ⟨bq,0,none⟩ _ rfl rfl RQ.o ?_;simp only[Act.put,fU,fV,fW];go_big_quiet_on)|(go_big_quiet_want;refine kY 37 _ ⟨bm,0,none⟩ _ rfl rfl RM.o ?_;simp only[Act.put,fU,fV,fW];go_big_quiet_on))
   refine wpQuiet_nil ?_
   rintro ci ⟨⟨ce,a4⟩,rfl⟩
   replace E:=gg (gk a4 E.o)
   replace F:=gg (gj F.o a4)
   clear RP RQ RM S1 S2 S3 aW bP a4 PV QV VQ
   go_wp2
   go_roundw
   case rel=>exact⟨r+1,by omega,by go_num,E.o,F.o⟩
   case measure=>simp[intOf];omega
 have bW:r=2:=by omega
 subst bW;have d1:decide (((2:Nat):Int)<2)=false:=by simp
 clear E
 go_wp2_with fail
 go_loopw [29] (fun h wz=>∃ z:Int,-1≤z∧z≤5∧h =b_ c_ z∧Up wo wz) (fun h _=>(5 - intOf h).toNat)
 case atStart=>exact⟨-1,by omega,by omega,rfl,F.o⟩
 case round=>
 obtain⟨wz,b2⟩:∃ x,x=wr:=⟨_,rfl⟩;subst b2;obtain⟨z,co,cu,rfl,I⟩:=hrel;clear F;have F:=gg I;clear I;have VZ:=gg (V.o.below F.o);by_cases hz:z<5
 · have d2:decide (z<5)=true:=by simpa using hz
   obtain⟨f,hf⟩:∃ f,oU X z=f:=⟨_,rfl⟩;have RM:gi (∀ w':World,(∃ x:Wd wz,w'=x.val)→(loadVar 37 ⟨bm,0,none⟩).run gd w' = .ok (e_ cs) w'):=gg (by rintro w' ⟨x,rfl⟩;exact sH (VZ.o.below x.bel));have S1:gi (∀ x:Wd wz,Calls gd 20 #[e_ cs,b_ c_ z] x.val fun e P=>e =fH (b_ c_ f)∧Below x.val.heap.size x.val P):=gg fun x=>Jn _ _ X z (VZ.o.below x.bel).mac GK.o.regs GK.o.lines f hf
   have S2:gi (∀ x:Wd wz,Calls gd 21 #[e_ cs,b_ c_ z] x.val fun e P=>e =fH (b_ c_ f)∧Below x.val.heap.size x.val P):=gg fun x=>by have:=qw _ x.val X z (VZ.o.below x.bel).mac GK.o.regs (fun h hh=>by have:=(GK.o.fine h hh).st;omega) GK.o.lines;rwa [hf] at this
   have bR:(f != f)=false:=by simp
   have hq:c_.wrap (z+1)=z+1:=IntWalk.i64_in _ f_;clear hf;go_upto_region 28 with(fail)
   refine kK ga ga ?_
   repeat(first|(go_big_quiet_step ((first|(go_at_call 20;with_reducible exact oS (S1.o _))|(go_at_call 21;with_reducible exact oS (S2.o _)))))|(go_big_quiet_want;refine kY 37 _ ⟨bm,0,none⟩ _ rfl rfl RM.o ?_;simp only[Act.put,fU,fV,fW];go_big_quiet_on))
   refine wpQuiet_nil ?_
   rintro cr ⟨⟨cl,bD⟩,rfl⟩
   replace F:=gg (gj F.o bD)
   clear RM S1 S2 bR bD VZ
   go_wp2
   go_roundw
   case rel=>exact⟨z+1,by omega,by omega,by go_num,F.o⟩
   case measure=>simp[intOf];omega
 have cb:z=5:=by omega
 subst cb;have d2:decide ((5:Int)<5)=false:=by simp
 have q0:decide ((n:Int)≤(k:Int))=false:=by simpa using aN
 have q1:decide ((k:Int)<0)=false:=by simp
 have HC:gi (∀ j v,(jg ⟨T,ch,Z,cn⟩)[j]? = some v→wz.cell? ⟨sb,so+k*4+j,none⟩=some v):=gg (fun j v hj=>(F.o.cell (p:=⟨sb,_,none⟩) aC).trans (aU.o j v hj));have bo:=fN aC F.o.size;have HD:gi (∀ w',Up wz w'→Calls gd 17 #[e_ cs,e_ #[b_ c_ T,b_ c_ ch,b_ c_ Z,b_ c_ cn]] w' fun e P=>∃ cs,e =fH (fI #[e_ cs,b_ c_ (lW X ⟨T,ch,Z,cn⟩).2])∧kw cs∧gi (gJ P (e_ cs) (lW X ⟨T,ch,Z,cn⟩).1)∧gi (Up w' P)):=gg (fun w' bY=>oZ T ch Z cn (VZ.o.below bY).mac GK f_);generalize lW X ⟨T,ch,Z,cn⟩=D at *
 obtain⟨D,er⟩:=D;simp only at HD RS;go_upto_region 30 with(fail)
 refine fX (fun w'=>Up wz w') [true,true,true,true,true] (fun a b h hu=>gj h hu) fK ?aa30 ?hh30 ?ht30
 case hh30=>
  intro w0 aa;have R0:gi (∀ w':World,(∃ x:Wd w0,w'=x.val)→(loadVar 37 ⟨bm,0,none⟩).run gd w' = .ok (e_ cs) w'):=gg (by rintro w' ⟨x,rfl⟩;exact sH ((VZ.o.below aa).below x.bel));have R1:gi (∀ w':World,(∃ x:Wd w0,w'=x.val)→(loadVar 28 ⟨sb,so+k*4,none⟩).run gd w' = .ok (e_ #[b_ c_ T,b_ c_ ch,b_ c_ Z,b_ c_ cn]) w'):=gg (by rintro w' ⟨x,rfl⟩;exact qj (l:=⟨T,ch,Z,cn⟩) (pN (fN bo aa.size) (fun j v hj=>by rw[aa.cell (p:=⟨sb,_,none⟩) bo];exact HC.o j v hj) x));simp only[jd]
  go_big_quiet_want
  refine kY 37 _ ⟨bm,0,none⟩ (e_ cs) rfl rfl R0.o ?_
  simp only[Act.put,fU,fV,fW]
  go_big_quiet_on
  iterate 3 (go_big_quiet_step (fail))
  go_big_quiet_want
  refine kY 28 _ ⟨sb,so+k*4,none⟩ (e_ #[b_ c_ T,b_ c_ ch,b_ c_ Z,b_ c_ cn]) rfl rfl R1.o ?_
  simp only[Act.put,fU,fV,fW]
  go_big_quiet_on
  refine wpQuiet_nil ?_
  rfl
 case' ht30=>
  change kN _ _ _ _ _ 7 _ _ _;refine Ek (GC 5) (In 5) [true,true,true,true,true,false,false,false,false,false,false,false] _ (fun a0 K a w'=>∃ cs q y u0 u1 u m,a=((((((a0.put (some 150) q).put (some 144) y).put (some 151) u0).put (some 152) u1).put (some 30) u).put (some 31) m)∧iI wz D er (K.drop 5) cs q y u0 u1 u m w') ga ga ga (iR fK) ?s30 ?i30 ?e30 ?t30
  case s30=>
   refine⟨gq,?v1,?v2,?v3,?v4,?v5,?v6,?eq,iI.start (iR fK) rfl⟩
   case eq=>simp only[Act.put,fU,fV,fW];exact rfl
  case i30=>
   rintro K a w7 w8 ⟨cs,q,y,u0,u1,u,m,e,G⟩ hu;exact⟨cs,q,y,u0,u1,u,m,e,G.up hu⟩
  case t30=>
   rintro K a w7 i hm ⟨cs,q,y,u0,u1,u,m,rfl,G⟩ C N hf;have g:=gg G;have ac:=G9 hm;clear G;unfold In Do at N;simp only[Bool.or_eq_true,Bool.and_eq_true,beq_iff_eq,decide_eq_true_eq] at N;obtain⟨bZ,N⟩:=N;obtain⟨j,rfl⟩:∃ j,i=5+j:=⟨i - 5,by omega⟩;rw[show 5+j - 5=j by omega] at N;have hd:=GF hf;have J:=Gw K 5 j;clear bZ;rcases N with(((((rfl|rfl)|⟨rfl,g0⟩)|⟨rfl,g1⟩)|⟨rfl,g1⟩)|⟨rfl,g0,g2,g4⟩)|⟨rfl,g3,g5⟩
   · refine kZ (i:=5) rfl ?_
     simp only[Act.put,fU,fV,fW];have Q:=gg C
     go_wp2_with (go_at_call 17;((with_reducible refine(HD.o _ Q.o).mono ?_);rintro e w8 ⟨c8,rfl,n8,m8,S⟩))
     refine⟨gj Q.o S.o,c8,_,y,u0,u1,u,m,rfl,?_⟩
     try rw[J]
     exact g.o.putc ac hd n8 m8.o S.o
   · refine kZ (i:=9) rfl ?_
     simp only[Act.put,fU,fV,fW]
     go_wp2_with fail
     refine⟨gj C (gr _ _),cs,q,y,u0,u1,_,m,rfl,?_⟩
     try rw[J]
     exact g.o.puta ac hd
   · refine kZ (i:=6) rfl ?_
     obtain⟨rfl,_,_⟩:=g.o.fc g0;simp only[Act.put,fU,fV,fW]
     go_wp2_with fail
     refine⟨C,cs,_,_,u0,u1,u,m,rfl,?_⟩
     try rw[J]
     exact g.o.putm
   · refine kZ (i:=7) rfl ?_
     obtain rfl:=g.o.fm g1;simp only[Act.put,fU,fV,fW]
     go_wp2_with fail
     refine⟨C,cs,q,_,_,u1,u,m,rfl,?_⟩
     try rw[J]
     exact g.o.put0
   · refine kZ (i:=8) rfl ?_
     obtain rfl:=g.o.fm g1;simp only[Act.put,fU,fV,fW]
     go_wp2_with fail
     refine⟨C,cs,q,_,u0,_,u,m,rfl,?_⟩
     try rw[J]
     exact g.o.put1
   · refine kZ (i:=10) rfl ?_
     obtain rfl:=g.o.f0 g2;obtain⟨b,af,ab,L⟩:=g.o.fa g4;have ae:=(g.o.fc g0).2.1;rw[yK hd,if_neg fZ] at L;have HX:=gg L;have aA:=gg (g.o.puts ac L af ab);subst af;clear L g;simp only[Act.put,fU,fV,fW]
     go_wp2_with (refine wpList_store_row rfl 37 _ _ rfl (b) cs rfl rfl 37 gq HX.o ae.info (by rw[mj.size,ae.size]) ae.one ?_)
     refine⟨below_setRow C ab _,cs,q,y,_,u1,_,m,rfl,?_⟩
     try rw[J]
     exact aA.o
   · refine kZ (i:=11) rfl ?_
     obtain rfl:=g.o.f1 g3;simp only[Act.put,fU,fV,fW]
     go_wp2_with fail
     refine⟨C,cs,q,y,u0,_,u,_,rfl,?_⟩
     try rw[J]
     exact g.o.putz
  case' e30=>
   rintro K a a2 ha hm ⟨an,q,y,u0,u1,u,m,rfl,G⟩ C;obtain⟨bL,rfl,rfl,rfl,rfl,rfl,rfl,hv,ba⟩:=G.done (G9 hm) (Gx 5 ha);have ax:=gg hv;have ao:=G.bel;clear G C ha hm hv;simp only[Act.put,fU,fV,fW]
 have V0:=gg (V.o.below (gj F.o ao));have F0:=gg (FV.o.below (gj F.o ao));have S0:=gg (HS.o.below (gj F.o ao));have Y0:=gg (gk (gj F.o ao) Y.o);have B0:=gg (gj B.o (gj F.o ao));have cj:bm≠bL:=by have:=gn VZ.o.at_;omega
 clear ao F HD HC aU V FV HS Y B VZ q0 q1 d1 d2;have nm:=V0.o.nine;have az:=ax.o.nine;by_cases h0:er=0
 · have ay:=gg (RS.o.trans (if_pos h0))
   have d3:(er == 0)=true:=by simp[h0]
   have hq:c_.wrap (d+1)=d+1:=IntWalk.i64_in _ (by have:=bd.o;omega);have HU:=gg ax.o.at_;have HV:=gg V0.o.at_;have VM:=gg (Ee HV.o nm az ax.o.mac);have FM:gi (ld (a2.setRow bm an) bf c9 M0):=gg ⟨iL b4.symm F0.o.at_,F0.o.nine,IZ F0.o.mac HV.o nm⟩;have SM:=gg (tR (cs':=an) S0.o HV.o nm);have YM:gi ((a2.setRow bm an).heap[w.heap.size+1]? = some (d_ #[b_ c_ kk,b_ c_ hh,b_ c_ ww,b_ c_ nn] 28 (0,0))):=gg (iL bO.symm Y0.o);have BM:gi (Up w (a2.setRow bm an)):=gg (below_setRow B0.o bX _);clear RS h0 ax V0 F0 S0 Y0 B0
   go_wp2_with (first|(refine wpList_load_row rfl 37 _ rfl (bL) rfl 37 an (0,0) _ HU.o Tryz.underlying37 rfl az.info ?_)|(refine wpList_store_row rfl 37 _ _ rfl (bm) an rfl rfl 37 cs HV.o az.info (by rw[nm.size,az.size]) az.one ?_))
   go_roundw
   case rel=>exact⟨k+1,an,by omega,by go_num,by rw[ay.o],by rw[ay.o];exact VM.o,FM.o,SM.o,YM.o,BM.o⟩
   case measure=>simp[intOf];omega
 · have ay:=gg (RS.o.trans (if_neg h0))
   have d3:(er == 0)=false:=by simp[h0]
   clear RS h0 ax
   go_wp2
   go_roundw
   case rel=>exact⟨k+1,cs,by omega,by go_num,by rw[ay.o],by rw[ay.o];exact V0.o,F0.o,S0.o,Y0.o,B0.o⟩
   case measure=>simp[intOf];omega
