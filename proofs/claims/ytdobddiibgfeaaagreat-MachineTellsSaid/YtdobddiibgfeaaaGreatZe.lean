/- What the walks of this statement lean on: shown. -/
import Derived.Test.YtdobddiibgfeaaaGreatZc
set_option linter.all false
set_option maxRecDepth 100000
set_option maxHeartbeats 16000000
namespace Go.Proofs.YtdobddiibgfeaaaGreat
open Value renaming slice→a_,int→b_,agg→e_,pointer→fG,tuple→fI,bool→fJ
open IntKind renaming i64→c_
open Obj renaming cells→d_
open Ending renaming returned→fH
open Go.Proofs.Tryz renaming prog→gd
open Go.RowKit
theorem LE word w (_:iy word) (a:word<0∨4294967296≤word) :
 Calls gd 108 #[b_ c_ word] w fun e w'=>e =fH (fI #[gK m5,b_ c_ 20])∧Up w w':=by
 have c:wrap64 (word % 4294967296)=word % 4294967296:=by unfold wrap64;omega
 have b:(word != word % 4294967296)=true:=by simp;omega
 go_in
 go_wp2_with fail
 refine bodyPost_ret (v:=fI #[gK m5,b_ c_ 20]) (by simp[results,Tryz.results108,go_sem,gK,m5]) rfl ⟨rfl,zB⟩
theorem zx (word:Nat) w (a:word<4294967296) :
 Calls gd 150 #[b_ c_ word,b_ c_ 7,b_ c_ 5] w fun e w'=>e =fH (b_ c_ (gu word 7 5:Nat))∧Up w w':=FI word 7 5 w f_ f_ a
theorem vS (word:Nat) w (a:word<4294967296) :
 Calls gd 150 #[b_ c_ word,b_ c_ 15,b_ c_ 5] w fun e w'=>e =fH (b_ c_ (gu word 15 5:Nat))∧Up w w':=FI word 15 5 w f_ f_ a
theorem vT (word:Nat) w (a:word<4294967296) :
 Calls gd 150 #[b_ c_ word,b_ c_ 20,b_ c_ 5] w fun e w'=>e =fH (b_ c_ (gu word 20 5:Nat))∧Up w w':=FI word 20 5 w f_ f_ a
theorem Nx v x w (a:v=gK x) :
 Calls gd 151 #[v] w fun e w'=>e =fH (fI #[b_ c_ (kq x),b_ c_ (kA x)])∧Up w w':=by subst a;exact Ml x w
theorem Ku (word:Nat) w (k:word<4294967296) :
 Calls gd 108 #[b_ c_ word] w fun e w'=>e =fH (fI #[gK (rM word),b_ c_ (rL word)])∧Up w w':=by
 have q0:(word:Int) % 4294967296=word:=by omega
 have q1:wrap64 (word:Int)=word:=by unfold wrap64;omega
 go_in
 go_wp2_with fail
 clear q0 q1
 go_loopw [4] (fun i wr=>∃ op:Nat,1≤op∧op≤50∧i =b_ c_ op∧(∀ o,1≤o→o<op→BO word o=false)∧wr.heap[w.heap.size]? = some (d_ #[b_ c_ 0,b_ c_ 0,b_ c_ 0,b_ c_ 0,b_ c_ 0] 72 (0,0))∧Up w wr) (fun i _=>50 - (intOf i).toNat)
 case atStart=>exact⟨1,by omega,by omega,rfl,fun o h1 h2=>by omega,gH _ _,zB⟩
 case round=>
  obtain⟨op,aA,aM,rfl,V,l,az⟩:=hrel;have P:=gg V;have HX:=gg l;have aj:w.heap.size<wr.heap.size:=gn l;have U:wr.cell? ⟨w.heap.size,0,none⟩=some (b_ c_ 0):=gv l rfl;have g0:=gC l 0;have O:wr.cell? ⟨w.heap.size,1,none⟩=some (b_ c_ 0):=gv l rfl;have g1:=gC l 1;have S:wr.cell? ⟨w.heap.size,2,none⟩=some (b_ c_ 0):=gv l rfl;have g2:=gC l 2;have k3:wr.cell? ⟨w.heap.size,3,none⟩=some (b_ c_ 0):=gv l rfl;have g3:=gC l 3;have R:wr.cell? ⟨w.heap.size,4,none⟩=some (b_ c_ 0):=gv l rfl;have g4:=gC l 4;by_cases ax:(op:Int)≤49
  · clear V l
    go_wp2_with fail
    refine(yA _ _).mono ?_
    have d:=gg (show ig op word=jh (gB op).form op word from rfl);generalize ag:gB (op:Int)=r at *
    have ay:=gg ag;clear ag;obtain⟨nm,f,lo,mi,hi⟩:=r;rintro e w1 ⟨rfl,af⟩;obtain⟨c1,f1⟩:=jR af;have z1:wr.heap.size≤w1.heap.size:=af.size;have au:w.heap.size<w1.heap.size:=by omega
    unfold nv;simp only at d
    go_wp2_with fail
    refine(yH _ _).mono ?_
    rintro e w2 ⟨rfl,Z⟩;obtain⟨c2,f2⟩:=jR Z;have z2:w1.heap.size<w2.heap.size:=by have:=Z.size;simp at this;omega
    have ao:w.heap.size<w2.heap.size:=by omega
    have aq:w.heap.size≤w2.heap.size+1:=by omega
    have aD:w.heap.size<w2.heap.size+1+1:=by omega
    have aB:w1.heap.size≤w2.heap.size+1:=by omega
    have aG:w1.heap.size<w2.heap.size+1+1:=by omega
    have aH:w.heap.size≤w2.heap.size:=by omega
    have aO:w1.heap.size≤w2.heap.size:=by omega
    have aJ:w.heap.size≤w1.heap.size:=by omega
    by_cases W:f=82
    case' pos=>
     subst W;rw[show jt 82=⟨true,true,true,0,0,0⟩ from rfl];unfold oh
     go_wp2_with fail
     refine(vj 82 word _ k).mono ?_
     rw[show kP (gA 82 0)=0 from rfl];have n:=u_ word (gA 82 0) (vh 82 0);have c:=gg (show jh 82 op word=⟨op,((gu word 7 5:Nat):Int),((gu word 15 5:Nat):Int),((gu word 20 5:Nat):Int),jS (0) (jB word (gA 82 0)) 0⟩ from rfl);generalize jB word (gA 82 0)=a at *
     have h:gi (ig op word=⟨op,((gu word 7 5:Nat):Int),((gu word 15 5:Nat):Int),((gu word 20 5:Nat):Int),(a:Int)⟩):=by
      rw[d.o,c.o];have:jS (0) a 0=(a:Int):=by unfold jS;rw[if_neg];simp
      rw[this];exact rfl
     obtain⟨j,b⟩:∃ y,y=(⟨op,((gu word 7 5:Nat):Int),((gu word 15 5:Nat):Int),((gu word 20 5:Nat):Int),(a:Int)⟩:ju):=⟨_,rfl⟩;have g:=gg b;clear b
    case' neg=>
     by_cases A:f=73
     case' pos=>
      subst A;rw[show jt 73=⟨true,true,false,-2048,2047,0⟩ from rfl];unfold oh
      go_wp2_with fail
      refine(vj 73 word _ k).mono ?_
      rw[show kP (gA 73 0)=12 from rfl];have n:=u_ word (gA 73 0) (vh 73 0);have c:=gg (show jh 73 op word=⟨op,((gu word 7 5:Nat):Int),((gu word 15 5:Nat):Int),0,jS (-2048) (jB word (gA 73 0)) 12⟩ from rfl);generalize jB word (gA 73 0)=a at *
      have N:(0:Int)≤(a:Int):=by omega
      have K:(a:Int)<4294967296:=by omega
      cases m:((a:Int) / 2048 != 0)
      case' false=>
       have h:gi (ig op word=⟨op,((gu word 7 5:Nat):Int),((gu word 15 5:Nat):Int),0,(a:Int)⟩):=by
        rw[d.o,c.o];have:jS (-2048) a 12=(a:Int):=by unfold jS;rw[if_neg];simp at m ⊢;omega
        rw[this];exact rfl
       obtain⟨j,b⟩:∃ y,y=(⟨op,((gu word 7 5:Nat):Int),((gu word 15 5:Nat):Int),0,(a:Int)⟩:ju):=⟨_,rfl⟩;have g:=gg b;clear b
      case' true=>
       have h:gi (ig op word=⟨op,((gu word 7 5:Nat):Int),((gu word 15 5:Nat):Int),0,(a:Int) - 4096⟩):=by
        rw[d.o,c.o];have:jS (-2048) a 12=(a:Int) - 4096:=by unfold jS;rw[if_pos];rfl;simp at m ⊢;omega
        rw[this];exact rfl
       obtain⟨j,b⟩:∃ y,y=(⟨op,((gu word 7 5:Nat):Int),((gu word 15 5:Nat):Int),0,(a:Int) - 4096⟩:ju):=⟨_,rfl⟩;have g:=gg b;clear b
     case' neg=>
      by_cases G:f=72
      case' pos=>
       subst G;rw[show jt 72=⟨true,true,false,0,31,0⟩ from rfl];unfold oh
       go_wp2_with fail
       refine(vj 72 word _ k).mono ?_
       rw[show kP (gA 72 0)=5 from rfl];have n:=u_ word (gA 72 0) (vh 72 0);have c:=gg (show jh 72 op word=⟨op,((gu word 7 5:Nat):Int),((gu word 15 5:Nat):Int),0,jS (0) (jB word (gA 72 0)) 5⟩ from rfl);generalize jB word (gA 72 0)=a at *
       have h:gi (ig op word=⟨op,((gu word 7 5:Nat):Int),((gu word 15 5:Nat):Int),0,(a:Int)⟩):=by
        rw[d.o,c.o];have:jS (0) a 5=(a:Int):=by unfold jS;rw[if_neg];simp
        rw[this];exact rfl
       obtain⟨j,b⟩:∃ y,y=(⟨op,((gu word 7 5:Nat):Int),((gu word 15 5:Nat):Int),0,(a:Int)⟩:ju):=⟨_,rfl⟩;have g:=gg b;clear b
      case' neg=>
       by_cases t:f=83
       case' pos=>
        subst t;rw[show jt 83=⟨false,true,true,-2048,2047,0⟩ from rfl];unfold oh
        go_wp2_with fail
        refine(vj 83 word _ k).mono ?_
        rw[show kP (gA 83 0)=12 from rfl];have n:=u_ word (gA 83 0) (vh 83 0);have c:=gg (show jh 83 op word=⟨op,0,((gu word 15 5:Nat):Int),((gu word 20 5:Nat):Int),jS (-2048) (jB word (gA 83 0)) 12⟩ from rfl);generalize jB word (gA 83 0)=a at *
        have N:(0:Int)≤(a:Int):=by omega
        have K:(a:Int)<4294967296:=by omega
        cases m:((a:Int) / 2048 != 0)
        case' false=>
         have h:gi (ig op word=⟨op,0,((gu word 15 5:Nat):Int),((gu word 20 5:Nat):Int),(a:Int)⟩):=by
          rw[d.o,c.o];have:jS (-2048) a 12=(a:Int):=by unfold jS;rw[if_neg];simp at m ⊢;omega
          rw[this];exact rfl
         obtain⟨j,b⟩:∃ y,y=(⟨op,0,((gu word 15 5:Nat):Int),((gu word 20 5:Nat):Int),(a:Int)⟩:ju):=⟨_,rfl⟩;have g:=gg b;clear b
        case' true=>
         have h:gi (ig op word=⟨op,0,((gu word 15 5:Nat):Int),((gu word 20 5:Nat):Int),(a:Int) - 4096⟩):=by
          rw[d.o,c.o];have:jS (-2048) a 12=(a:Int) - 4096:=by unfold jS;rw[if_pos];rfl;simp at m ⊢;omega
          rw[this];exact rfl
         obtain⟨j,b⟩:∃ y,y=(⟨op,0,((gu word 15 5:Nat):Int),((gu word 20 5:Nat):Int),(a:Int) - 4096⟩:ju):=⟨_,rfl⟩;have g:=gg b;clear b
       case' neg=>
        by_cases F:f=66
        case' pos=>
         subst F;rw[show jt 66=⟨false,true,true,-4096,4094,2⟩ from rfl];unfold oh
         go_wp2_with fail
         refine(vj 66 word _ k).mono ?_
         rw[show kP (gA 66 0)=13 from rfl];have n:=u_ word (gA 66 0) (vh 66 0);have c:=gg (show jh 66 op word=⟨op,0,((gu word 15 5:Nat):Int),((gu word 20 5:Nat):Int),jS (-4096) (jB word (gA 66 0)) 13⟩ from rfl);generalize jB word (gA 66 0)=a at *
         have N:(0:Int)≤(a:Int):=by omega
         have K:(a:Int)<4294967296:=by omega
         cases m:((a:Int) / 4096 != 0)
         case' false=>
          have h:gi (ig op word=⟨op,0,((gu word 15 5:Nat):Int),((gu word 20 5:Nat):Int),(a:Int)⟩):=by
           rw[d.o,c.o];have:jS (-4096) a 13=(a:Int):=by unfold jS;rw[if_neg];simp at m ⊢;omega
           rw[this];exact rfl
          obtain⟨j,b⟩:∃ y,y=(⟨op,0,((gu word 15 5:Nat):Int),((gu word 20 5:Nat):Int),(a:Int)⟩:ju):=⟨_,rfl⟩;have g:=gg b;clear b
         case' true=>
          have h:gi (ig op word=⟨op,0,((gu word 15 5:Nat):Int),((gu word 20 5:Nat):Int),(a:Int) - 8192⟩):=by
           rw[d.o,c.o];have:jS (-4096) a 13=(a:Int) - 8192:=by unfold jS;rw[if_pos];rfl;simp at m ⊢;omega
           rw[this];exact rfl
          obtain⟨j,b⟩:∃ y,y=(⟨op,0,((gu word 15 5:Nat):Int),((gu word 20 5:Nat):Int),(a:Int) - 8192⟩:ju):=⟨_,rfl⟩;have g:=gg b;clear b
        case' neg=>
         by_cases I:f=85
         case' pos=>
          subst I;rw[show jt 85=⟨true,false,false,0,1048575,0⟩ from rfl];unfold oh
          go_wp2_with fail
          refine(vj 85 word _ k).mono ?_
          rw[show kP (gA 85 0)=20 from rfl];have n:=u_ word (gA 85 0) (vh 85 0);have c:=gg (show jh 85 op word=⟨op,((gu word 7 5:Nat):Int),0,0,jS (0) (jB word (gA 85 0)) 20⟩ from rfl);generalize jB word (gA 85 0)=a at *
          have h:gi (ig op word=⟨op,((gu word 7 5:Nat):Int),0,0,(a:Int)⟩):=by
           rw[d.o,c.o];have:jS (0) a 20=(a:Int):=by unfold jS;rw[if_neg];simp
           rw[this];exact rfl
          obtain⟨j,b⟩:∃ y,y=(⟨op,((gu word 7 5:Nat):Int),0,0,(a:Int)⟩:ju):=⟨_,rfl⟩;have g:=gg b;clear b
         case' neg=>
          by_cases C:f=74
          case' pos=>
           subst C;rw[show jt 74=⟨true,false,false,-1048576,1048574,2⟩ from rfl];unfold oh
           go_wp2_with fail
           refine(vj 74 word _ k).mono ?_
           rw[show kP (gA 74 0)=21 from rfl];have n:=u_ word (gA 74 0) (vh 74 0);have c:=gg (show jh 74 op word=⟨op,((gu word 7 5:Nat):Int),0,0,jS (-1048576) (jB word (gA 74 0)) 21⟩ from rfl);generalize jB word (gA 74 0)=a at *
           have N:(0:Int)≤(a:Int):=by omega
           have K:(a:Int)<4294967296:=by omega
           cases m:((a:Int) / 1048576 != 0)
           case' false=>
            have h:gi (ig op word=⟨op,((gu word 7 5:Nat):Int),0,0,(a:Int)⟩):=by
             rw[d.o,c.o];have:jS (-1048576) a 21=(a:Int):=by unfold jS;rw[if_neg];simp at m ⊢;omega
             rw[this];exact rfl
            obtain⟨j,b⟩:∃ y,y=(⟨op,((gu word 7 5:Nat):Int),0,0,(a:Int)⟩:ju):=⟨_,rfl⟩;have g:=gg b;clear b
           case' true=>
            have h:gi (ig op word=⟨op,((gu word 7 5:Nat):Int),0,0,(a:Int) - 2097152⟩):=by
             rw[d.o,c.o];have:jS (-1048576) a 21=(a:Int) - 2097152:=by unfold jS;rw[if_pos];rfl;simp at m ⊢;omega
             rw[this];exact rfl
            obtain⟨j,b⟩:∃ y,y=(⟨op,((gu word 7 5:Nat):Int),0,0,(a:Int) - 2097152⟩:ju):=⟨_,rfl⟩;have g:=gg b;clear b
          case' neg=>
           by_cases L:f=70
           case' pos=>
            subst L;rw[show jt 70=⟨false,false,false,0,255,0⟩ from rfl];unfold oh
            go_wp2_with fail
            refine(vj 70 word _ k).mono ?_
            rw[show kP (gA 70 0)=8 from rfl];have n:=u_ word (gA 70 0) (vh 70 0);have c:=gg (show jh 70 op word=⟨op,0,0,0,jS (0) (jB word (gA 70 0)) 8⟩ from rfl);generalize jB word (gA 70 0)=a at *
            have h:gi (ig op word=⟨op,0,0,0,(a:Int)⟩):=by
             rw[d.o,c.o];have:jS (0) a 8=(a:Int):=by unfold jS;rw[if_neg];simp
             rw[this];exact rfl
            obtain⟨j,b⟩:∃ y,y=(⟨op,0,0,0,(a:Int)⟩:ju):=⟨_,rfl⟩;have g:=gg b;clear b
           case' neg=>
            by_cases D:f=67
            case' pos=>
             subst D;rw[show jt 67=⟨true,true,false,0,4095,0⟩ from rfl];unfold oh
             go_wp2_with fail
             refine(vj 67 word _ k).mono ?_
             rw[show kP (gA 67 0)=12 from rfl];have n:=u_ word (gA 67 0) (vh 67 0);have c:=gg (show jh 67 op word=⟨op,((gu word 7 5:Nat):Int),((gu word 15 5:Nat):Int),0,jS (0) (jB word (gA 67 0)) 12⟩ from rfl);generalize jB word (gA 67 0)=a at *
             have h:gi (ig op word=⟨op,((gu word 7 5:Nat):Int),((gu word 15 5:Nat):Int),0,(a:Int)⟩):=by
              rw[d.o,c.o];have:jS (0) a 12=(a:Int):=by unfold jS;rw[if_neg];simp
              rw[this];exact rfl
             obtain⟨j,b⟩:∃ y,y=(⟨op,((gu word 7 5:Nat):Int),((gu word 15 5:Nat):Int),0,(a:Int)⟩:ju):=⟨_,rfl⟩;have g:=gg b;clear b
            case' neg=>
             by_cases u:f=76
             case' pos=>
              subst u;rw[show jt 76=⟨true,true,false,0,3,0⟩ from rfl];unfold oh
              go_wp2_with fail
              refine(vj 76 word _ k).mono ?_
              rw[show kP (gA 76 0)=2 from rfl];have n:=u_ word (gA 76 0) (vh 76 0);have c:=gg (show jh 76 op word=⟨op,((gu word 7 5:Nat):Int),((gu word 15 5:Nat):Int),0,jS (0) (jB word (gA 76 0)) 2⟩ from rfl);generalize jB word (gA 76 0)=a at *
              have h:gi (ig op word=⟨op,((gu word 7 5:Nat):Int),((gu word 15 5:Nat):Int),0,(a:Int)⟩):=by
               rw[d.o,c.o];have:jS (0) a 2=(a:Int):=by unfold jS;rw[if_neg];simp
               rw[this];exact rfl
              obtain⟨j,b⟩:∃ y,y=(⟨op,((gu word 7 5:Nat):Int),((gu word 15 5:Nat):Int),0,(a:Int)⟩:ju):=⟨_,rfl⟩;have g:=gg b;clear b
             case' neg=>
              by_cases H:f=65
              case' pos=>
               subst H;rw[show jt 65=⟨true,true,true,0,3,0⟩ from rfl];unfold oh
               go_wp2_with fail
               refine(vj 65 word _ k).mono ?_
               rw[show kP (gA 65 0)=2 from rfl];have n:=u_ word (gA 65 0) (vh 65 0);have c:=gg (show jh 65 op word=⟨op,((gu word 7 5:Nat):Int),((gu word 15 5:Nat):Int),((gu word 20 5:Nat):Int),jS (0) (jB word (gA 65 0)) 2⟩ from rfl);generalize jB word (gA 65 0)=a at *
               have h:gi (ig op word=⟨op,((gu word 7 5:Nat):Int),((gu word 15 5:Nat):Int),((gu word 20 5:Nat):Int),(a:Int)⟩):=by
                rw[d.o,c.o];have:jS (0) a 2=(a:Int):=by unfold jS;rw[if_neg];simp
                rw[this];exact rfl
               obtain⟨j,b⟩:∃ y,y=(⟨op,((gu word 7 5:Nat):Int),((gu word 15 5:Nat):Int),((gu word 20 5:Nat):Int),(a:Int)⟩:ju):=⟨_,rfl⟩;have g:=gg b;clear b
              case' neg=>
               have T:jt f=⟨false,false,false,0,0,0⟩:=by simp[jt,W,A,G,t,F,I,C,L,D,u,H]
               have Q:gA f 0=[]:=by simp[gA,A,G,t,F,I,C,L,D,u,H]
               rw[T];unfold oh
               go_wp2_with fail
               refine(vj f word _ k).mono ?_
               rw[Q];rw[show kP []=0 from rfl,show jB word []=0 from rfl]
               have h:gi (ig op word=⟨op,0,0,0,0⟩):=by
                rw[d.o];unfold jh;rw[T,Q];rfl
               clear T Q W A G t F I C L D u H;obtain⟨j,b⟩:∃ y,y=(⟨op,0,0,0,0⟩:ju):=⟨_,rfl⟩;have g:=gg b;clear b
    all_goals
     rintro e z ⟨rfl,aa⟩;obtain⟨c3,f3⟩:=jR aa;have z3:w2.heap.size+1<z.heap.size:=by have:=aa.size;simp at this;omega
     have aN:w.heap.size<z.heap.size:=by omega
     have am:w1.heap.size<z.heap.size:=by omega
     have aC:w2.heap.size<z.heap.size:=by omega
     go_wp2_with (go_at_call 150;(first|((with_reducible refine(zx word _ k).mono ?_);rintro e E ⟨rfl,ab⟩;obtain⟨c5,f5⟩:=jR ab;have s5:=ab.size;simp at s5;have y5:w2.heap.size+1<E.heap.size:=f_;have aE:w.heap.size<E.heap.size:=f_;have aK:w1.heap.size<E.heap.size:=f_;have aL:w2.heap.size<E.heap.size:=f_)|((with_reducible refine(vS word _ k).mono ?_);rintro e J ⟨rfl,ae⟩;obtain⟨c6,f6⟩:=jR ae;have s6:=ae.size;simp at s6;have y6:w2.heap.size+1<J.heap.size:=f_;have aF:w.heap.size<J.heap.size:=f_;have aw:w1.heap.size<J.heap.size:=f_;have aI:w2.heap.size<J.heap.size:=f_)|((with_reducible refine(vT word _ k).mono ?_);rintro e x ⟨rfl,ad⟩;obtain⟨c7,f7⟩:=jR ad;have s7:=ad.size;simp at s7;have y7:w2.heap.size+1<x.heap.size:=f_;have av:w.heap.size<x.heap.size:=f_;have an:w1.heap.size<x.heap.size:=f_;have ap:w2.heap.size<x.heap.size:=f_)))
     refine(Nx _ (ig op word) _ (by rw[h.o];rfl)).mono ?_
     rintro e p ⟨rfl,ac⟩;obtain⟨c8,f8⟩:=jR ac;have s8:=ac.size;simp at s8;have y8:w2.heap.size+1<p.heap.size:=by omega
     have ar:w.heap.size<p.heap.size:=by omega
     have hk:=iE (w:=wr) (w':=p) (B:=wr.heap.size) zB aj HX.o;have q:=gg hk;clear hk;try clear m N K
     have X:BO word op=(kA (ig op word) == 0 && kq (ig op word) == (word:Int)):=rfl;cases ah:(kA (ig op word) == 0) <;> cases ak:(kq (ig op word) == (word:Int))
     all_goals
      rw[ah,ak] at X;have Y:=gg X;clear X;generalize kA (ig op word)=ee at *
      generalize kq (ig op word)=ev at *
      go_wp2_with fail
      first
       | (refine⟨⟨op+1,by omega,by omega,by go_num,fun o h1 h2=>?_,q.o,zB⟩,by simp[intOf];omega⟩;by_cases ho:o=op;(subst ho;exact Y.o);(exact P.o o h1 f_))
       | ((try simp only[Exit.inBlock,Exit.then]);have U:p.cell? ⟨w.heap.size,0,none⟩=some (b_ c_ 0):=gv q.o rfl;have O:p.cell? ⟨w.heap.size,1,none⟩=some (b_ c_ 0):=gv q.o rfl;have S:p.cell? ⟨w.heap.size,2,none⟩=some (b_ c_ 0):=gv q.o rfl;have k3:p.cell? ⟨w.heap.size,3,none⟩=some (b_ c_ 0):=gv q.o rfl;have R:p.cell? ⟨w.heap.size,4,none⟩=some (b_ c_ 0):=gv q.o rfl;obtain⟨s,M⟩:=sR f_ Y.o P.o;rw[h.o] at s;refine bodyPost_ret (v:=fI #[gK j,b_ c_ 0]) (by simp[results,Tryz.results108,go_sem,gK,g.o,U,O,S,k3,R]) rfl ⟨by rw[s,M,g.o],zB⟩)
  · have ai:op=50:=by omega
    subst ai;obtain⟨s,M⟩:=pW (fun o h1 h2=>P.o o h1 h2);clear V l;have c:=gg s;have al:=gg M;clear s M
    go_wp2_with fail
    try simp only[Exit.inBlock,Exit.then]
    refine bodyPost_ret (v:=fI #[gK m5,b_ c_ 20]) (by simp[results,Tryz.results108,go_sem,gK,m5,U,O,S,k3,R]) rfl ⟨by rw[c.o,al.o],zB⟩
theorem zO (x y:ju):(x.op=y.op∧x.d=y.d∧x.a=y.a∧x.b=y.b∧x.n=y.n)↔x=y:=by
 obtain⟨a,b,c,d,e⟩:=x;obtain⟨a',i,h,f,g⟩:=y;simp
instance:DecidableEq ju:=fun x y=>decidable_of_iff _ (zO x y)
def dX (z:Int):ju:=if 0≤z∧z<4294967296 then rM z.toNat else m5
def dE (z:Int):Int:=if 0≤z∧z<4294967296 then rL z.toNat else 20
theorem LF z w (h:iy z) :
 Calls gd 108 #[b_ c_ z] w fun e w'=>e =fH (fI #[gK (dX z),b_ c_ (dE z)])∧Up w w':=by
 unfold dX dE;by_cases a:0≤z∧z<4294967296
 · rw[if_pos a,if_pos a]
   have:=Ku z.toNat w f_;rw[show ((z.toNat:Nat):Int)=z by omega] at this;exact this
 · rw[if_neg a,if_neg a]
   exact LE z w h f_
