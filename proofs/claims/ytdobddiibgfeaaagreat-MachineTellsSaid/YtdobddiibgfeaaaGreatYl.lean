/- What the walks of this statement lean on: shown. -/
import Derived.Test.YtdobddiibgfeaaaGreatYg
set_option linter.all false
set_option maxRecDepth 100000
set_option maxHeartbeats 16000000
namespace Go.Proofs.YtdobddiibgfeaaaGreat
open Value renaming slice→a_,int→b_,agg→e_,pointer→fG,tuple→fI,bool→fJ
open IntKind renaming i64→c_
open Obj renaming cells→d_
open Ending renaming returned→fH
open Go.Proofs.Tryz renaming prog→gd
section
open Go.RowKit
theorem sN (x):(mK x).length=5:=rfl
end
open Go.RowKit
set_option maxRecDepth 100000
set_option maxHeartbeats 16000000
theorem s_:(gd.info? 59).map (·.size)=some 5:=by kernel_rfl
theorem jx {α:Type} {w k f} {xs:List α} {v} (h:gl w k xs.length v (iC f xs)) (a:∀ x∈xs,(f x).length=k) {r} (g:r<xs.length):∃ b o c,v =a_ (some ⟨b,o,none⟩) xs.length c∧b<w.heap.size∧xs.length≤maxLen∧w.rangeAt b (o+r*k) (f xs[r]):=by
 obtain⟨b,o,c,e,i,hc1,hc2,l⟩:=h.some f_;refine⟨b,o,c,e,i,fO hc1 hc2,fun j u d=>?_⟩;rw[Nat.add_assoc];refine l _ _ ((lI a (fQ g) ?_).trans d);have:=(fR d).1;rw[a _ (List.getElem_mem g)] at this;exact this
theorem ll {w xs v} (h:gl w 1 xs.length v (gz xs)) {r} (a:r<xs.length):∃ b o c,v =a_ (some ⟨b,o,none⟩) xs.length c∧b<w.heap.size∧xs.length≤maxLen∧w.cell? ⟨b,o+r,none⟩=some (b_ c_ xs[r]):=by
 obtain⟨b,o,c,e,f,hc1,hc2,d⟩:=h.some f_;exact⟨b,o,c,e,f,fO hc1 hc2,d _ _ (by simp[gz,fQ a])⟩
theorem nV v a s t r (b:oD s t=r) w (h:iZ w v s) (c:iZ w a t) :
 Calls gd 40 #[v,a] w fun e w'=>e =fH (fJ r)∧Up w w':=by subst b;exact CC v a s t w h c
theorem nu v v' M a w (h:gJ w v M) (h':gJ w v' a) (hr:∀ x∈M.harts,x.r.length=32) (bm:∀ x∈a.harts,x.r.length=32) :
 Calls gd 14 #[v,v'] w fun e w'=>e =fH (fJ (decide (M=a)))∧Up w w':=by
 obtain⟨cs,rfl,⟨x0,bR,bC,x1,bJ,cc,x2,bs,bX,x3,ba,bl,x4,bn,bi,x5,a9,be,x6,ct,b8,x7,bY,bW,x8,bw,bO,qs,rfl,r1,r2,r3,r4,⟨rn,r5,aY⟩,r6,r7⟩⟩:=D6 h;obtain⟨cs',rfl,⟨y0,cd,bS,y1,bU,bV,y2,cb,bA,y3,bk,bf,y4,bq,bc,y5,bo,bg,y6,cu,bT,y7,bM,ci,y8,bZ,bz,af,rfl,s1,s2,s3,s4,⟨sn,s5,aX⟩,s6,s7⟩⟩:=D6 h';have ch:bR=M.words.length:=by obtain⟨_,_,e⟩:=r1.shape;injection e
 have bu:cd=a.words.length:=by obtain⟨_,_,e⟩:=s1.shape;injection e
 have cj:bJ=M.harts.length:=by obtain⟨_,_,e⟩:=r2.shape;injection e
 have bD:bU=a.harts.length:=by obtain⟨_,_,e⟩:=s2.shape;injection e
 have bt:bs=M.ends.length:=by obtain⟨_,_,e⟩:=r3.shape;injection e
 have bP:cb=a.ends.length:=by obtain⟨_,_,e⟩:=s3.shape;injection e
 have bI:bY=M.lines.length:=by obtain⟨_,_,e⟩:=r6.shape;injection e
 have cl:bM=a.lines.length:=by obtain⟨_,_,e⟩:=s6.shape;injection e
 have cf:bw=M.trace.length:=by obtain⟨_,_,e⟩:=r7.shape;injection e
 have bB:bZ=a.trace.length:=by obtain⟨_,_,e⟩:=s7.shape;injection e
 subst rn sn ch bu cj bD bt bP bI cl cf bB;clear h h';obtain⟨w1,aT,aO,ae,bd,_⟩:=lU w (d_ #[a_ x0 M.words.length bC,a_ x1 M.harts.length cc,a_ x2 M.ends.length bX,a_ x3 ba bl,a_ x4 bn bi,a_ x5 a9 be,a_ x6 M.devs.length b8,a_ x7 M.lines.length bW,a_ x8 M.trace.length bO] 37) (d_ #[a_ y0 a.words.length bS,a_ y1 a.harts.length bV,a_ y2 a.ends.length bA,a_ y3 bk bf,a_ y4 bq bc,a_ y5 bo bg,a_ y6 a.devs.length bT,a_ y7 a.lines.length ci,a_ y8 a.trace.length bz] 37);obtain⟨p1,aL⟩:∃ n,n=M.words.length:=⟨_,rfl⟩;obtain⟨q1,ag⟩:∃ n,n=a.words.length:=⟨_,rfl⟩;have aF:=gg aL;have av:=gg ag;have D:=gg r1;have S1:=gg s1;obtain⟨p2,aC⟩:∃ n,n=M.harts.length:=⟨_,rfl⟩;obtain⟨q2,ah⟩:∃ n,n=a.harts.length:=⟨_,rfl⟩;have aH:=gg aC;have aA:=gg ah;have R2:=gg r2;have S2:=gg s2;obtain⟨p3,aK⟩:∃ n,n=M.ends.length:=⟨_,rfl⟩;obtain⟨q3,an⟩:∃ n,n=a.ends.length:=⟨_,rfl⟩;have aB:=gg aK;have az:=gg an;have R3:=gg r3;have S3:=gg s3;obtain⟨p5,aw⟩:∃ n,n=M.devs.length:=⟨_,rfl⟩;obtain⟨q5,aJ⟩:∃ n,n=a.devs.length:=⟨_,rfl⟩;have aj:=gg aw;have au:=gg aJ;have R5:=gg r5;have S5:=gg s5;obtain⟨p6,aD⟩:∃ n,n=M.lines.length:=⟨_,rfl⟩;obtain⟨q6,ar⟩:∃ n,n=a.lines.length:=⟨_,rfl⟩;have am:=gg aD;have ap:=gg ar;have R6:=gg r6;have S6:=gg s6;obtain⟨p7,aG⟩:∃ n,n=M.trace.length:=⟨_,rfl⟩;obtain⟨q7,aE⟩:∃ n,n=a.trace.length:=⟨_,rfl⟩;have al:=gg aG;have aq:=gg aE;have R7:=gg r7;have S7:=gg s7;have R4:=gg r4;have S4:=gg s4;have aM:=gg aY;have aQ:=gg aX;have HR:=gg hr;have bb:=gg bm;rw[←aL,←ag,←aC,←ah,←aK,←an,←aw,←aJ,←aD,←ar,←aG,←aE] at aT ⊢
 rw[←aL,←aC,←aK,←aw,←aD,←aG] at aO;rw[←ag,←ah,←an,←aJ,←ar,←aE] at ae;have aP:=gg aO;have aU:=gg ae;have B1:=gg bd;obtain⟨mq,aI⟩:∃ b,b=decide (M.mem=a.mem):=⟨_,rfl⟩;obtain⟨t,ht⟩:∃ b,b=(!mq || ((p1:Int) != q1 || ((p2:Int) != q2 || ((p3:Int) != q3 || ((p5:Int) != q5 || ((p6:Int) != q6 || (p7:Int) != q7)))))):=⟨_,rfl⟩;have cq:=gg aI;have aZ:gi (∀ w',Up w w'→Calls gd 39 #[e_ #[a_ x3 ba bl,a_ x4 bn bi,a_ x5 a9 be],e_ #[a_ y3 bk bf,a_ y4 bq bc,a_ y5 bo bg]] w' fun e bL=>e =fH (fJ mq)∧Up w' bL):=gg (fun w' hb=>by rw[aI];exact uC _ _ M.mem a.mem w' (R4.o.below hb) (S4.o.below hb));have HD:gi (decide (M=a)=(mq && (decide (M.words=a.words) && (decide (M.harts=a.harts) && (decide (M.ends=a.ends) && (decide (M.devs=a.devs) && (decide (M.lines=a.lines) && decide (M.trace=a.trace)))))))):=gg (by rw[aI,Bool.eq_iff_iff];cases M;cases a;simp only[decide_eq_true_eq,Bool.and_eq_true,i8.mk.injEq];constructor <;> rintro⟨a1,a2,a3,a4,a5,G,H⟩ <;> exact⟨by assumption,by assumption,by assumption,by assumption,by assumption,by assumption,by assumption⟩);generalize decide (M=a)=res at *
 clear r1 r2 r3 r4 r5 aY r6 r7 s1 s2 s3 s4 s5 aX s6 s7 hr bm bd aO ae aI aL ag aC ah aK an aw aJ aD ar aG aE;obtain⟨a0,a1,a2,a3,a4,a5,G,H,K⟩:=gU aP.o;obtain⟨X,c1,Y,c3,c4,c5,U,V,W⟩:=gU aU.o;clear a0 a1 a2 G H K X c1 Y U V W
 go_in
 go_upto_region 1 with(fail)
 rw[←aT];clear aT;go_upto_region 2 with(go_at_call 39;refine(aZ.o _ B1.o).mono ?_;rintro e w2 ⟨rfl,aW⟩;have ay:=gg aW;clear aW)
 have br:=gg (gk ay.o aP.o);have bh:=gg (gk ay.o aU.o);have B2:=gg (gj B1.o ay.o);clear a3 a4 a5 c3 c4 c5 aP aU B1 ay aZ;obtain⟨a0,a1,a2,a3,a4,a5,G,H,K⟩:=gU br.o;obtain⟨X,c1,Y,c3,c4,c5,U,V,W⟩:=gU bh.o;clear a3 a4 a5 c3 c4 c5
 go_cut [73] (fun s wx=>s = fJ t∧wx=w2)
 case first=>
  rcases Bool.eq_false_or_eq_true mq with O|O
  rotate_left
  · simp only[O,Bool.not_true,Bool.not_false,Bool.true_or,Bool.false_or,Bool.or_true] at ht
    go_wp2
    go_meet
    case rel=>exact⟨by first|rw[ht]|(rw[ht];simp[O]),rfl⟩
  cases b1:((p1:Int) != q1)
  rotate_left
  · simp only[O,b1,Bool.not_true,Bool.not_false,Bool.true_or,Bool.false_or,Bool.or_true] at ht
    go_wp2
    go_meet
    case rel=>exact⟨by first|rw[ht]|(rw[ht];simp[O,b1]),rfl⟩
  cases b2:((p2:Int) != q2)
  rotate_left
  · simp only[O,b1,b2,Bool.not_true,Bool.not_false,Bool.true_or,Bool.false_or,Bool.or_true] at ht
    go_wp2
    go_meet
    case rel=>exact⟨by first|rw[ht]|(rw[ht];simp[O,b1,b2]),rfl⟩
  cases b3:((p3:Int) != q3)
  rotate_left
  · simp only[O,b1,b2,b3,Bool.not_true,Bool.not_false,Bool.true_or,Bool.false_or,Bool.or_true] at ht
    go_wp2
    go_meet
    case rel=>exact⟨by first|rw[ht]|(rw[ht];simp[O,b1,b2,b3]),rfl⟩
  cases b4:((p5:Int) != q5)
  rotate_left
  · simp only[O,b1,b2,b3,b4,Bool.not_true,Bool.not_false,Bool.true_or,Bool.false_or,Bool.or_true] at ht
    go_wp2
    go_meet
    case rel=>exact⟨by first|rw[ht]|(rw[ht];simp[O,b1,b2,b3,b4]),rfl⟩
  cases b5:((p6:Int) != q6)
  rotate_left
  · simp only[O,b1,b2,b3,b4,b5,Bool.not_true,Bool.not_false,Bool.true_or,Bool.false_or,Bool.or_true] at ht
    go_wp2
    go_meet
    case rel=>exact⟨by first|rw[ht]|(rw[ht];simp[O,b1,b2,b3,b4,b5]),rfl⟩
  cases b6:((p7:Int) != q7)
  rotate_left
  · simp only[O,b1,b2,b3,b4,b5,b6,Bool.not_true,Bool.not_false,Bool.true_or,Bool.false_or,Bool.or_true] at ht
    go_wp2
    go_meet
    case rel=>exact⟨by first|rw[ht]|(rw[ht];simp[O,b1,b2,b3,b4,b5,b6]),rfl⟩
  simp only[O,b1,b2,b3,b4,b5,b6,Bool.not_true,Bool.not_false,Bool.true_or,Bool.false_or,Bool.or_true] at ht
  go_wp2
  go_meet
  case rel=>exact⟨by first|rw[ht]|(rw[ht];simp[O,b1,b2,b3,b4,b5,b6]),rfl⟩
 case rest=>
 obtain⟨rfl,aS⟩:=hcut;have aS:=aS.symm;subst aS;have A:=gg ht;clear ht a0 a1 a2 G H K X c1 Y U V W;cases ao:t
 rotate_left
 · have e:res=false:=by
    rw[HD.o];have hk:=A.o.symm.trans ao;rw[aF.o,aH.o,aB.o,aj.o,am.o,al.o,av.o,aA.o,az.o,au.o,ap.o,aq.o] at hk;cases k:(mq && (decide (M.words=a.words) && (decide (M.harts=a.harts) && (decide (M.ends=a.ends) && (decide (M.devs=a.devs) && (decide (M.lines=a.lines) && decide (M.trace=a.trace)))))))
    · rfl
    · simp only[Bool.and_eq_true,decide_eq_true_eq] at k
      obtain⟨z0,z1,z2,z3,z5,z6,z7⟩:=k;rw[z0,z1,z2,z3,z5,z6,z7] at hk;simp at hk
   subst e ao
   go_wp2
   go_ret;exact⟨gt (iO rfl),B2.o⟩
 have hk:=A.o.symm.trans ao;simp only[Bool.or_eq_false_iff,Bool.not_eq_false',bne_eq_false_iff_eq,Int.ofNat_inj] at hk;obtain⟨k0,k1,k2,k3,k5,k6,k7⟩:=hk;subst ao k0 k1 k2 k3 k5 k6 k7;simp only[Bool.true_and] at HD;clear A
 go_wp2_with fail
 go_loopw [6] (fun i wr=>∃ r:Nat,r≤p1∧i =b_ c_ r∧M.words.take r=a.words.take r∧gi (Up w2 wr)) (fun i _=>p1 - (intOf i).toNat)
 case atStart=>exact⟨0,fM,rfl,rfl,gg fK⟩
 case round=>
  obtain⟨r,hr,rfl,ht,m⟩:=hrel;have A:=gg ht;obtain⟨V0,hV⟩:∃ u,u=wr:=⟨_,rfl⟩;subst hV;have q:=gk m.o br.o;have k:=gk m.o bh.o;have z:=gg (gj B2.o m.o);obtain⟨a0,a1,a2,a3,a4,a5,G,H,K⟩:=gU q;obtain⟨X,c1,Y,c3,c4,c5,U,V,W⟩:=gU k;clear ht a1 c1 a2 Y a3 c3 a4 c4 a5 c5 G U H V K W;by_cases ak:r<p1
  · have h1:r<M.words.length:=by have:=aF.o;omega
    have h2:r<a.words.length:=by have:=av.o;omega
    obtain⟨b,o,c,e,hb,R,I⟩:=ll (D.o.below z.o) h1;rw[←aF.o] at e R;injection e with f en e3;clear en;subst f e3
    obtain⟨J,T,c',e,ab,_,F⟩:=ll (S1.o.below z.o) h2;rw[←av.o] at e;injection e with f en e3;clear en;subst f e3
    unfold maxLen at R;have Q:=gn q;have S:=gn k;have N:=fun x=>gD Q a0 x
    have L:=fun x=>gD S X x
    have ir:(r:Int)<(p1:Int):=by omega
    have ai:(0:Int)≤(r:Int):=by omega
    have y5:=fun x=>gD hb I x
    have y6:=fun x=>gD ab F x
    clear q k I F Q S X;by_cases j:M.words[r]=a.words[r]
    · have ad:(M.words[r] != a.words[r])=false:=by simp[j]
      have aa:=gg j;clear j;go_upto_region 7 with(fail)
      refine kK ga ga ?_
      repeat(first|(go_big_quiet_step (fail)))
      refine wpQuiet_nil ?_
      rintro w5 ⟨⟨ac,l⟩,rfl⟩;have B:=gg l;clear N L l a0 y5 y6
      go_wp2_with fail
      refine⟨⟨r+1,by omega,by go_num,?_,gg (gj m.o B.o)⟩,by simp[intOf];omega⟩;rw[fP h1,fP h2,A.o,aa.o]
    · have ad:(M.words[r] != a.words[r])=true:=by simp[j]
      have e:res=false:=by
       rw[HD.o];have:M.words≠a.words:=fun e=>j (by simp only[e])
       simp[this]
      clear j;subst e;go_upto_region 7 with(fail)
      refine kK ga ga ?_
      repeat(first|(go_big_quiet_step (fail)))
      refine wpQuiet_nil ?_
      rintro w5 ⟨⟨ac,l⟩,rfl⟩;have B:=gg l;clear N L l a0 y5 y6
      go_wp2
      go_ret;exact⟨gt (iO rfl),gj z.o B.o⟩
  have ce:gi (M.words=a.words):=gg (by
   have f:=A.o;rw[show r=p1 by omega] at f;have C:=aF.o;have Z:=av.o;rw[C,List.take_length,←C,Z,List.take_length] at f;exact f)
  have cr:decide ((r:Int)<(p1:Int))=false:=by simp;omega
  have ca:=gg q;have bG:=gg k;have B3:=z;clear A m q k
  go_wp2_with fail
  go_loopw [7] (fun i wr=>∃ r:Nat,r≤p2∧i =b_ c_ r∧M.harts.take r=a.harts.take r∧gi (Up V0 wr)) (fun i _=>p2 - (intOf i).toNat)
  case atStart=>exact⟨0,fM,rfl,rfl,gg fK⟩
  case round=>
   obtain⟨r,hr,rfl,ht,m⟩:=hrel;have A:=gg ht;obtain⟨V1,hV⟩:∃ u,u=wr:=⟨_,rfl⟩;subst hV;have q:=gk m.o ca.o;have k:=gk m.o bG.o;have z:=gg (gj B3.o m.o);obtain⟨a0,a1,a2,a3,a4,a5,G,H,K⟩:=gU q;obtain⟨X,c1,Y,c3,c4,c5,U,V,W⟩:=gU k;clear ht a0 X a2 Y a3 c3 a4 c4 a5 c5 G U H V K W;by_cases ak:r<p2
   · have h1:r<M.harts.length:=by have:=aH.o;omega
     have h2:r<a.harts.length:=by have:=aA.o;omega
     obtain⟨b,o,c,e,hb,R,I⟩:=jx (R2.o.below z.o) (fun y hy=>uT (HR.o y hy)) h1;rw[←aH.o] at e R;injection e with f en e3;clear en;subst f e3
     obtain⟨J,T,c',e,ab,_,F⟩:=jx (S2.o.below z.o) (fun y hy=>uT (bb.o y hy)) h2;rw[←aA.o] at e;injection e with f en e3;clear en;subst f e3
     unfold maxLen at R;have Q:=gn q;have S:=gn k;have N:=fun x=>gD Q a1 x
     have L:=fun x=>gD S c1 x
     have ir:(r:Int)<(p2:Int):=by omega
     have ai:(0:Int)≤(r:Int):=by omega
     have C:=HR.o _ (List.getElem_mem h1);have Z:=bb.o _ (List.getElem_mem h2);have E:gi (∀ w':World,(∃ x:Wd V1,w'=x.val)→(loadVar 56 ⟨b,o+r*39,none⟩).run gd w' = .ok (e_ (hA M.harts[r])) w'):=gg (by rintro w' ⟨x,rfl⟩;exact By C (pN hb I x));have D:gi (∀ w':World,(∃ x:Wd V1,w'=x.val)→(loadVar 56 ⟨J,T+r*39,none⟩).run gd w' = .ok (e_ (hA a.harts[r])) w'):=gg (by rintro w' ⟨x,rfl⟩;exact By Z (pN ab F x));clear q k I F Q S c1;by_cases j:M.harts[r]=a.harts[r]
     · have ad:=fun w=>o1 true M.harts[r] a.harts[r] C Z (by simp[j]) w
       have aa:=gg j;clear j;go_upto_region 12 with(fail)
       refine kK ga ga ?_
       repeat(first|(go_big_quiet_step (fail))|(go_big_quiet_want;refine kY 56 _ ⟨b,o+r*39,none⟩ (e_ (hA M.harts[r])) rfl rfl E.o ?_;simp only[Act.put,fU,fV,fW];go_big_quiet_on)|(go_big_quiet_want;refine kY 56 _ ⟨J,T+r*39,none⟩ (e_ (hA a.harts[r])) rfl rfl D.o ?_;simp only[Act.put,fU,fV,fW];go_big_quiet_on))
       refine wpQuiet_nil ?_
       rintro w5 ⟨⟨ac,l⟩,rfl⟩;have B:=gg l;clear N L l a1 E D
       go_wp2_with fail
       refine⟨⟨r+1,by omega,by go_num,?_,gg (gj m.o B.o)⟩,by simp[intOf];omega⟩;rw[fP h1,fP h2,A.o,aa.o]
     · have ad:=fun w=>o1 false M.harts[r] a.harts[r] C Z (by simp[j]) w
       have e:res=false:=by
        rw[HD.o];have:M.harts≠a.harts:=fun e=>j (by simp only[e])
        simp[this]
       clear j;subst e;go_upto_region 12 with(fail)
       refine kK ga ga ?_
       repeat(first|(go_big_quiet_step (fail))|(go_big_quiet_want;refine kY 56 _ ⟨b,o+r*39,none⟩ (e_ (hA M.harts[r])) rfl rfl E.o ?_;simp only[Act.put,fU,fV,fW];go_big_quiet_on)|(go_big_quiet_want;refine kY 56 _ ⟨J,T+r*39,none⟩ (e_ (hA a.harts[r])) rfl rfl D.o ?_;simp only[Act.put,fU,fV,fW];go_big_quiet_on))
       refine wpQuiet_nil ?_
       rintro w5 ⟨⟨ac,l⟩,rfl⟩;have B:=gg l;clear N L l a1 E D
       go_wp2
       go_ret;exact⟨gt (iO rfl),gj z.o B.o⟩
   have cg:gi (M.harts=a.harts):=gg (by
    have f:=A.o;rw[show r=p2 by omega] at f;have C:=aH.o;have Z:=aA.o;rw[C,List.take_length,←C,Z,List.take_length] at f;exact f)
   have hd1:decide ((r:Int)<(p2:Int))=false:=by simp;omega
   have bx:=gg q;have cm:=gg k;have B4:=z;clear A m q k
   go_wp2_with fail
   go_loopw [8] (fun i wr=>∃ r:Nat,r≤p3∧i =b_ c_ r∧M.ends.take r=a.ends.take r∧gi (Up V1 wr)) (fun i _=>p3 - (intOf i).toNat)
   case atStart=>exact⟨0,fM,rfl,rfl,gg fK⟩
   case round=>
    obtain⟨r,hr,rfl,ht,m⟩:=hrel;have A:=gg ht;obtain⟨V2,hV⟩:∃ u,u=wr:=⟨_,rfl⟩;subst hV;have q:=gk m.o bx.o;have k:=gk m.o cm.o;have z:=gg (gj B4.o m.o);obtain⟨a0,a1,a2,a3,a4,a5,G,H,K⟩:=gU q;obtain⟨X,c1,Y,c3,c4,c5,U,V,W⟩:=gU k;clear ht a0 X a1 c1 a3 c3 a4 c4 a5 c5 G U H V K W;by_cases ak:r<p3
    · have h1:r<M.ends.length:=by have:=aB.o;omega
      have h2:r<a.ends.length:=by have:=az.o;omega
      obtain⟨b,o,c,e,hb,R,I⟩:=ll (R3.o.below z.o) h1;rw[←aB.o] at e R;injection e with f en e3;clear en;subst f e3
      obtain⟨J,T,c',e,ab,_,F⟩:=ll (S3.o.below z.o) h2;rw[←az.o] at e;injection e with f en e3;clear en;subst f e3
      unfold maxLen at R;have Q:=gn q;have S:=gn k;have N:=fun x=>gD Q a2 x
      have L:=fun x=>gD S Y x
      have ir:(r:Int)<(p3:Int):=by omega
      have ai:(0:Int)≤(r:Int):=by omega
      have y5:=fun x=>gD hb I x
      have y6:=fun x=>gD ab F x
      clear q k I F Q S Y;by_cases j:M.ends[r]=a.ends[r]
      · have ad:(M.ends[r] != a.ends[r])=false:=by simp[j]
        have aa:=gg j;clear j;go_upto_region 17 with(fail)
        refine kK ga ga ?_
        repeat(first|(go_big_quiet_step (fail)))
        refine wpQuiet_nil ?_
        rintro w5 ⟨⟨ac,l⟩,rfl⟩;have B:=gg l;clear N L l a2 y5 y6
        go_wp2_with fail
        refine⟨⟨r+1,by omega,by go_num,?_,gg (gj m.o B.o)⟩,by simp[intOf];omega⟩;rw[fP h1,fP h2,A.o,aa.o]
      · have ad:(M.ends[r] != a.ends[r])=true:=by simp[j]
        have e:res=false:=by
         rw[HD.o];have:M.ends≠a.ends:=fun e=>j (by simp only[e])
         simp[this]
        clear j;subst e;go_upto_region 17 with(fail)
        refine kK ga ga ?_
        repeat(first|(go_big_quiet_step (fail)))
        refine wpQuiet_nil ?_
        rintro w5 ⟨⟨ac,l⟩,rfl⟩;have B:=gg l;clear N L l a2 y5 y6
        go_wp2
        go_ret;exact⟨gt (iO rfl),gj z.o B.o⟩
    have b9:gi (M.ends=a.ends):=gg (by
     have f:=A.o;rw[show r=p3 by omega] at f;have C:=aB.o;have Z:=az.o;rw[C,List.take_length,←C,Z,List.take_length] at f;exact f)
    have hd2:decide ((r:Int)<(p3:Int))=false:=by simp;omega
    have bK:=gg q;have ck:=gg k;have B5:=z;clear A m q k
    go_wp2_with fail
    go_loopw [9] (fun i wr=>∃ r:Nat,r≤p5∧i =b_ c_ r∧M.devs.take r=a.devs.take r∧gi (Up V2 wr)) (fun i _=>p5 - (intOf i).toNat)
    case atStart=>exact⟨0,fM,rfl,rfl,gg fK⟩
    case round=>
     obtain⟨r,hr,rfl,ht,m⟩:=hrel;have A:=gg ht;obtain⟨V3,hV⟩:∃ u,u=wr:=⟨_,rfl⟩;subst hV;have q:=gk m.o bK.o;have k:=gk m.o ck.o;have z:=gg (gj B5.o m.o);obtain⟨a0,a1,a2,a3,a4,a5,G,H,K⟩:=gU q;obtain⟨X,c1,Y,c3,c4,c5,U,V,W⟩:=gU k;clear ht a0 X a1 c1 a2 Y a3 c3 a4 c4 a5 c5 H V K W;by_cases ak:r<p5
     · have ae:(M.devs.zip qs).length=M.devs.length:=by rw[List.length_zip,aM.o.1,Nat.min_self]
       have ax:(a.devs.zip af).length=a.devs.length:=by rw[List.length_zip,aQ.o.1,Nat.min_self]
       have h1:r<(M.devs.zip qs).length:=by rw[ae];have:=aj.o;omega
       have h2:r<(a.devs.zip af).length:=by rw[ax];have:=au.o;omega
       have hR:=R5.o.below z.o;have hS:=S5.o.below z.o;rw[←ae] at hR;rw[←ax] at hS;obtain⟨b,o,c,e,hb,R,I⟩:=jx hR (fun y _=>tK y) h1;rw[ae,←aj.o] at e;injection e with f en e3;clear en;subst f e3
       obtain⟨J,T,c',e,ab,_,F⟩:=jx hS (fun y _=>tK y) h2;rw[ax,←au.o] at e;injection e with f en e3;clear en;subst f e3
       rw[ae,←aj.o] at R;have aR:r<M.devs.length:=by rw[←ae];exact h1
       have aN:r<a.devs.length:=by rw[←ax];exact h2
       have ag:r<qs.length:=by rw[aM.o.1];exact aR
       have ah:r<af.length:=by rw[aQ.o.1];exact aN
       rw[List.getElem_zip] at I F;have bj:gi (iZ V3 (e_ (gX M.devs[r] qs[r])) M.devs[r]):=gg ⟨_,rfl,((aM.o.below z.o).2 r _ _ (fQ ag) (fQ aR))⟩;have bp:gi (iZ V3 (e_ (gX a.devs[r] af[r])) a.devs[r]):=gg ⟨_,rfl,((aQ.o.below z.o).2 r _ _ (fQ ah) (fQ aN))⟩;unfold maxLen at R;have Q:=gn q;have S:=gn k;have N:=fun x=>gD Q G x
       have L:=fun x=>gD S U x
       have ir:(r:Int)<(p5:Int):=by omega
       have ai:(0:Int)≤(r:Int):=by omega
       have E:gi (∀ w':World,(∃ x:Wd V3,w'=x.val)→(loadVar 75 ⟨b,o+r*8,none⟩).run gd w' = .ok (e_ (gX M.devs[r] qs[r])) w'):=gg (by rintro w' ⟨x,rfl⟩;exact A0 (pN hb I x));have D:gi (∀ w':World,(∃ x:Wd V3,w'=x.val)→(loadVar 75 ⟨J,T+r*8,none⟩).run gd w' = .ok (e_ (gX a.devs[r] af[r])) w'):=gg (by rintro w' ⟨x,rfl⟩;exact A0 (pN ab F x));clear q k I F Q S U;by_cases j:M.devs[r]=a.devs[r]
       · have aV:gi (oD M.devs[r] a.devs[r]=true):=gg (by rw[GE];simp[j])
         have aa:=gg j;clear j;go_upto_region 22 with(fail)
         refine kK ga ga ?_
         repeat(first|(go_big_quiet_step ((go_at_call 40;refine oS (nV _ _ _ _ _ aV.o _ ?_ ?_);exact bj.o.below (Wd.bel _);exact bp.o.below (Wd.bel _))))|(go_big_quiet_want;refine kY 75 _ ⟨b,o+r*8,none⟩ (e_ (gX M.devs[r] qs[r])) rfl rfl E.o ?_;simp only[Act.put,fU,fV,fW];go_big_quiet_on)|(go_big_quiet_want;refine kY 75 _ ⟨J,T+r*8,none⟩ (e_ (gX a.devs[r] af[r])) rfl rfl D.o ?_;simp only[Act.put,fU,fV,fW];go_big_quiet_on))
         refine wpQuiet_nil ?_
         rintro w5 ⟨⟨ac,l⟩,rfl⟩;have B:=gg l;clear N L l G E D
         go_wp2_with fail
         refine⟨⟨r+1,by omega,by go_num,?_,gg (gj m.o B.o)⟩,by simp[intOf];omega⟩;rw[fP aR,fP aN,A.o,aa.o]
       · have aV:gi (oD M.devs[r] a.devs[r]=false):=gg (by rw[GE];simp[j])
         have e:res=false:=by
          rw[HD.o];have:M.devs≠a.devs:=fun e=>j (by simp only[e])
          simp[this]
         clear j;subst e;go_upto_region 22 with(fail)
         refine kK ga ga ?_
         repeat(first|(go_big_quiet_step ((go_at_call 40;refine oS (nV _ _ _ _ _ aV.o _ ?_ ?_);exact bj.o.below (Wd.bel _);exact bp.o.below (Wd.bel _))))|(go_big_quiet_want;refine kY 75 _ ⟨b,o+r*8,none⟩ (e_ (gX M.devs[r] qs[r])) rfl rfl E.o ?_;simp only[Act.put,fU,fV,fW];go_big_quiet_on)|(go_big_quiet_want;refine kY 75 _ ⟨J,T+r*8,none⟩ (e_ (gX a.devs[r] af[r])) rfl rfl D.o ?_;simp only[Act.put,fU,fV,fW];go_big_quiet_on))
         refine wpQuiet_nil ?_
         rintro w5 ⟨⟨ac,l⟩,rfl⟩;have B:=gg l;clear N L l G E D
         go_wp2
         go_ret;exact⟨gt (iO rfl),gj z.o B.o⟩
     have b7:gi (M.devs=a.devs):=gg (by
      have f:=A.o;rw[show r=p5 by omega] at f;have C:=aj.o;have Z:=au.o;rw[C,List.take_length,←C,Z,List.take_length] at f;exact f)
     have cv:decide ((r:Int)<(p5:Int))=false:=by simp;omega
     have bH:=gg q;have bv:=gg k;have B6:=z;clear A m q k
     go_wp2_with fail
     go_loopw [11] (fun i wr=>∃ r:Nat,r≤p6∧i =b_ c_ r∧M.lines.take r=a.lines.take r∧gi (Up V3 wr)) (fun i _=>p6 - (intOf i).toNat)
     case atStart=>exact⟨0,fM,rfl,rfl,gg fK⟩
     case round=>
      obtain⟨r,hr,rfl,ht,m⟩:=hrel;have A:=gg ht;obtain⟨V4,hV⟩:∃ u,u=wr:=⟨_,rfl⟩;subst hV;have q:=gk m.o bH.o;have k:=gk m.o bv.o;have z:=gg (gj B6.o m.o);obtain⟨a0,a1,a2,a3,a4,a5,G,H,K⟩:=gU q;obtain⟨X,c1,Y,c3,c4,c5,U,V,W⟩:=gU k;clear ht a0 X a1 c1 a2 Y a3 c3 a4 c4 a5 c5 G U K W;by_cases ak:r<p6
      · have h1:r<M.lines.length:=by have:=am.o;omega
        have h2:r<a.lines.length:=by have:=ap.o;omega
        obtain⟨b,o,c,e,hb,R,I⟩:=jx (R6.o.below z.o) (fun y _=>A7 y) h1;rw[←am.o] at e R;injection e with f en e3;clear en;subst f e3
        obtain⟨J,T,c',e,ab,_,F⟩:=jx (S6.o.below z.o) (fun y _=>A7 y) h2;rw[←ap.o] at e;injection e with f en e3;clear en;subst f e3
        unfold maxLen at R;have Q:=gn q;have S:=gn k;have N:=fun x=>gD Q H x
        have L:=fun x=>gD S V x
        have ir:(r:Int)<(p6:Int):=by omega
        have ai:(0:Int)≤(r:Int):=by omega
        have E:gi (∀ w':World,(∃ x:Wd V4,w'=x.val)→(loadVar 64 ⟨b,o+r*3,none⟩).run gd w' = .ok (e_ #[b_ c_ M.lines[r].h,b_ c_ M.lines[r].p,fJ M.lines[r].r]) w'):=gg (by rintro w' ⟨x,rfl⟩;exact run_loadVar_mid (P:=gd) x.val _ _ 64 _ _ (pN hb I x) Tryz.underlying64 rfl pd);have D:gi (∀ w':World,(∃ x:Wd V4,w'=x.val)→(loadVar 64 ⟨J,T+r*3,none⟩).run gd w' = .ok (e_ #[b_ c_ a.lines[r].h,b_ c_ a.lines[r].p,fJ a.lines[r].r]) w'):=gg (by rintro w' ⟨x,rfl⟩;exact run_loadVar_mid (P:=gd) x.val _ _ 64 _ _ (pN ab F x) Tryz.underlying64 rfl pd);clear q k I F Q S V;by_cases j:M.lines[r]=a.lines[r]
        · have ad:=fun w=>Fe true M.lines[r] a.lines[r] (by simp[j]) w
          have aa:=gg j;clear j;go_upto_region 28 with(fail)
          refine kK ga ga ?_
          repeat(first|(go_big_quiet_step (fail))|(go_big_quiet_want;refine kY 64 _ ⟨b,o+r*3,none⟩ (e_ #[b_ c_ M.lines[r].h,b_ c_ M.lines[r].p,fJ M.lines[r].r]) rfl rfl E.o ?_;simp only[Act.put,fU,fV,fW];go_big_quiet_on)|(go_big_quiet_want;refine kY 64 _ ⟨J,T+r*3,none⟩ (e_ #[b_ c_ a.lines[r].h,b_ c_ a.lines[r].p,fJ a.lines[r].r]) rfl rfl D.o ?_;simp only[Act.put,fU,fV,fW];go_big_quiet_on))
          refine wpQuiet_nil ?_
          rintro w5 ⟨⟨ac,l⟩,rfl⟩;have B:=gg l;clear N L l H E D
          go_wp2_with fail
          refine⟨⟨r+1,by omega,by go_num,?_,gg (gj m.o B.o)⟩,by simp[intOf];omega⟩;rw[fP h1,fP h2,A.o,aa.o]
        · have ad:=fun w=>Fe false M.lines[r] a.lines[r] (by simp[j]) w
          have e:res=false:=by
           rw[HD.o];have:M.lines≠a.lines:=fun e=>j (by simp only[e])
           simp[this]
          clear j;subst e;go_upto_region 28 with(fail)
          refine kK ga ga ?_
          repeat(first|(go_big_quiet_step (fail))|(go_big_quiet_want;refine kY 64 _ ⟨b,o+r*3,none⟩ (e_ #[b_ c_ M.lines[r].h,b_ c_ M.lines[r].p,fJ M.lines[r].r]) rfl rfl E.o ?_;simp only[Act.put,fU,fV,fW];go_big_quiet_on)|(go_big_quiet_want;refine kY 64 _ ⟨J,T+r*3,none⟩ (e_ #[b_ c_ a.lines[r].h,b_ c_ a.lines[r].p,fJ a.lines[r].r]) rfl rfl D.o ?_;simp only[Act.put,fU,fV,fW];go_big_quiet_on))
          refine wpQuiet_nil ?_
          rintro w5 ⟨⟨ac,l⟩,rfl⟩;have B:=gg l;clear N L l H E D
          go_wp2
          go_ret;exact⟨gt (iO rfl),gj z.o B.o⟩
      have bF:gi (M.lines=a.lines):=gg (by
       have f:=A.o;rw[show r=p6 by omega] at f;have C:=am.o;have Z:=ap.o;rw[C,List.take_length,←C,Z,List.take_length] at f;exact f)
      have cn:decide ((r:Int)<(p6:Int))=false:=by simp;omega
      have bE:=gg q;have bN:=gg k;have B7:=z;clear A m q k
      go_wp2_with fail
      go_loopw [12] (fun i wr=>∃ r:Nat,r≤p7∧i =b_ c_ r∧M.trace.take r=a.trace.take r∧gi (Up V4 wr)) (fun i _=>p7 - (intOf i).toNat)
      case atStart=>exact⟨0,fM,rfl,rfl,gg fK⟩
      case round=>
       obtain⟨r,hr,rfl,ht,m⟩:=hrel;have A:=gg ht;obtain⟨V5,hV⟩:∃ u,u=wr:=⟨_,rfl⟩;subst hV;have q:=gk m.o bE.o;have k:=gk m.o bN.o;have z:=gg (gj B7.o m.o);obtain⟨a0,a1,a2,a3,a4,a5,G,H,K⟩:=gU q;obtain⟨X,c1,Y,c3,c4,c5,U,V,W⟩:=gU k;clear ht a0 X a1 c1 a2 Y a3 c3 a4 c4 a5 c5 G U H V;by_cases ak:r<p7
       · have h1:r<M.trace.length:=by have:=al.o;omega
         have h2:r<a.trace.length:=by have:=aq.o;omega
         obtain⟨b,o,c,e,hb,R,I⟩:=jx (R7.o.below z.o) (fun y _=>sN y) h1;rw[←al.o] at e R;injection e with f en e3;clear en;subst f e3
         obtain⟨J,T,c',e,ab,_,F⟩:=jx (S7.o.below z.o) (fun y _=>sN y) h2;rw[←aq.o] at e;injection e with f en e3;clear en;subst f e3
         unfold maxLen at R;have Q:=gn q;have S:=gn k;have N:=fun x=>gD Q K x
         have L:=fun x=>gD S W x
         have ir:(r:Int)<(p7:Int):=by omega
         have ai:(0:Int)≤(r:Int):=by omega
         have E:gi (∀ w':World,(∃ x:Wd V5,w'=x.val)→(loadVar 59 ⟨b,o+r*5,none⟩).run gd w' = .ok (e_ #[b_ c_ M.trace[r].h,b_ c_ M.trace[r].d,b_ c_ M.trace[r].g,fJ M.trace[r].w,b_ c_ M.trace[r].n]) w'):=gg (by rintro w' ⟨x,rfl⟩;exact run_loadVar_mid (P:=gd) x.val _ _ 59 _ _ (pN hb I x) Tryz.underlying59 rfl s_);have D:gi (∀ w':World,(∃ x:Wd V5,w'=x.val)→(loadVar 59 ⟨J,T+r*5,none⟩).run gd w' = .ok (e_ #[b_ c_ a.trace[r].h,b_ c_ a.trace[r].d,b_ c_ a.trace[r].g,fJ a.trace[r].w,b_ c_ a.trace[r].n]) w'):=gg (by rintro w' ⟨x,rfl⟩;exact run_loadVar_mid (P:=gd) x.val _ _ 59 _ _ (pN ab F x) Tryz.underlying59 rfl s_);clear q k I F Q S W;by_cases j:M.trace[r]=a.trace[r]
         · have ad:=fun w=>o0 true M.trace[r] a.trace[r] (by simp[j]) w
           have aa:=gg j;clear j;go_upto_region 33 with(fail)
           refine kK ga ga ?_
           repeat(first|(go_big_quiet_step (fail))|(go_big_quiet_want;refine kY 59 _ ⟨b,o+r*5,none⟩ (e_ #[b_ c_ M.trace[r].h,b_ c_ M.trace[r].d,b_ c_ M.trace[r].g,fJ M.trace[r].w,b_ c_ M.trace[r].n]) rfl rfl E.o ?_;simp only[Act.put,fU,fV,fW];go_big_quiet_on)|(go_big_quiet_want;refine kY 59 _ ⟨J,T+r*5,none⟩ (e_ #[b_ c_ a.trace[r].h,b_ c_ a.trace[r].d,b_ c_ a.trace[r].g,fJ a.trace[r].w,b_ c_ a.trace[r].n]) rfl rfl D.o ?_;simp only[Act.put,fU,fV,fW];go_big_quiet_on))
           refine wpQuiet_nil ?_
           rintro w5 ⟨⟨ac,l⟩,rfl⟩;have B:=gg l;clear N L l K E D
           go_wp2_with fail
           refine⟨⟨r+1,by omega,by go_num,?_,gg (gj m.o B.o)⟩,by simp[intOf];omega⟩;rw[fP h1,fP h2,A.o,aa.o]
         · have ad:=fun w=>o0 false M.trace[r] a.trace[r] (by simp[j]) w
           have e:res=false:=by
            rw[HD.o];have:M.trace≠a.trace:=fun e=>j (by simp only[e])
            simp[this]
           clear j;subst e;go_upto_region 33 with(fail)
           refine kK ga ga ?_
           repeat(first|(go_big_quiet_step (fail))|(go_big_quiet_want;refine kY 59 _ ⟨b,o+r*5,none⟩ (e_ #[b_ c_ M.trace[r].h,b_ c_ M.trace[r].d,b_ c_ M.trace[r].g,fJ M.trace[r].w,b_ c_ M.trace[r].n]) rfl rfl E.o ?_;simp only[Act.put,fU,fV,fW];go_big_quiet_on)|(go_big_quiet_want;refine kY 59 _ ⟨J,T+r*5,none⟩ (e_ #[b_ c_ a.trace[r].h,b_ c_ a.trace[r].d,b_ c_ a.trace[r].g,fJ a.trace[r].w,b_ c_ a.trace[r].n]) rfl rfl D.o ?_;simp only[Act.put,fU,fV,fW];go_big_quiet_on))
           refine wpQuiet_nil ?_
           rintro w5 ⟨⟨ac,l⟩,rfl⟩;have B:=gg l;clear N L l K E D
           go_wp2
           go_ret;exact⟨gt (iO rfl),gj z.o B.o⟩
       have bQ:gi (M.trace=a.trace):=gg (by
        have f:=A.o;rw[show r=p7 by omega] at f;have C:=al.o;have Z:=aq.o;rw[C,List.take_length,←C,Z,List.take_length] at f;exact f)
       have cw:decide ((r:Int)<(p7:Int))=false:=by simp;omega
       have co:=gg q;have cp:=gg k;have B8:=z;clear A m q k;have e:res=true:=by rw[HD.o,ce.o,cg.o,b9.o,b7.o,bF.o,bQ.o];simp
       subst e
       go_wp2
       go_ret;exact⟨gt (iO rfl),z.o⟩
