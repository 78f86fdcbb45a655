/- What the walks of this statement lean on: shown. -/
import Derived.Test.YtdobddiibgfeaaaGreatYb
import Derived.Test.YtdobddiibgfeaaaGreatYe
import Derived.Test.YtdobddiibgfeaaaGreatYg
set_option linter.all false
set_option maxRecDepth 100000
set_option maxHeartbeats 16000000
namespace Go.Proofs.YtdobddiibgfeaaaGreat
open Value renaming slice→a_,int→b_,agg→e_,pointer→fG,tuple→fI,bool→fJ
open IntKind renaming i64→c_
open Obj renaming cells→d_
open Ending renaming returned→fH
open Go.Proofs.Tryz renaming prog→gd
section
open Go.RowKit
set_option maxRecDepth 100000
set_option maxHeartbeats 16000000
theorem xD z (w) :
 Calls gd 87 #[b_ c_ z] w fun e w'=>e =fH (fI #[gK (dX z),b_ c_ (dE z)])∧Up w w':=by
 unfold dX dE;by_cases h:0≤z∧z<4294967296
 · obtain⟨n,rfl⟩:∃ n:Nat,z=n:=⟨z.toNat,by omega⟩
   rw[if_pos h,if_pos h];exact nW n w f_
 · rw[if_neg h,if_neg h]
   exact ou z w f_
theorem gP {fn} {p q:Tmp} {a c w b cs R} (h:fn.results = #[.cell p 37,.tmp q]) (k:a.tmps.getD p undef = fG (some ⟨b,0,none⟩)) (g:a.tmps.getD q undef =b_ c_ R.2) (i:a.defers=[])
 (f:w.heap[b]? = some (d_ gq 37 (0,0))) (d:gJ w (e_ cs) R.1) (j:Up c w) (hl:c.heap.size≤b):bodyPost gd fn (pF c R) .ret a (w.setRow b cs):=by
 obtain⟨cs',e,n⟩:=oR d;injection e with e
 subst e;exact bodyPost_ret (im h _ _ b 37 _ (0,0) _ k (setRow_heap _ _ _ _ _ _ f) g Tryz.underlying37 rfl n.info) i ⟨_,rfl,d.row9 f mj.all,below_setRow j hl _⟩
structure SX (w0:World) (cs:Array Value) (w:World):Prop where
 mac:w.heap[w0.heap.size]? = some (d_ cs 37 (0,0))
 res:w.heap[w0.heap.size+1]? = some (d_ gq 37 (0,0))
 bel:Up w0 w
theorem SX.up {c w w' cs} (b:SX c cs w) (a:Up w w'):SX c cs w':=⟨gk a b.mac,gk a b.res,gj b.bel a⟩
theorem Ci:(gd.info? 72).map (·.size)=some 5:=by kernel_rfl
theorem rR:(gd.info? 131).map (·.size)=some 5:=by kernel_rfl
section
variable {h:Ht} {m:kS} {M:i8}
theorem qf:iF 0:=by decide
theorem CE (f:jw h) id (x):iF (mN h id x).2.n:=by
 unfold mN;split
 · exact qf
 rename_i r
 repeat' split
 · exact qf
 · unfold jp;repeat' split
   all_goals exact qf
 · have k:=f.reg x.b.toNat (by have:=(CJ (x:=x) (by simpa using r)).2;omega)
   unfold A4 jG;simp only;repeat' split
   all_goals first|exact k|exact qf
def GH (e:oW):Prop:=0≤e.k∧e.k≤9
theorem CD h id (x):GH (mN h id x).2:=by
 unfold mN;repeat' split
 · exact⟨of_decide_eq_true rfl,of_decide_eq_true rfl⟩
 · exact⟨of_decide_eq_true rfl,of_decide_eq_true rfl⟩
 · unfold jp;repeat' split
   all_goals exact⟨of_decide_eq_true rfl,of_decide_eq_true rfl⟩
 · unfold A4 jG
   simp only;repeat' split
   all_goals exact⟨of_decide_eq_true rfl,of_decide_eq_true rfl⟩
theorem DG:iF 1:=by decide
theorem n_ (k:lE m) (a):iF (kQ m a):=by
 unfold kQ;rw[List.getD_eq_getElem?_getD];cases e:m.words[a.toNat]? with
 | none=>decide
 | some z=>exact k.1 z (List.mem_of_getElem? e)
theorem wB l (a):∀ d,iF d→(∀ x∈l,iF x.2)→iF (nG l a d):=by
 induction l with
 | nil=>intro d h _;exact h
 | cons x l ih=>intro d h k;exact ih _ (pf (k x (.head _)) h) fun y b=>k y (.tail _ b)
theorem wJ (k:lE m) (h a):iF (nQ m h a):=by
 refine wB _ a _ (n_ k a) ?_
 unfold iA;rw[List.getD_eq_getElem?_getD];cases e:m.pend[h.toNat]? with
 | none=>intro x b;cases b
 | some l=>exact k.2 l (List.mem_of_getElem? e)
theorem wR (k:lE M.mem) i e (a):iF (lF M i e a).1:=by
 unfold lF CT ow ml;repeat' split
 all_goals first|exact wJ k _ _|exact n_ k _|exact qf|exact DG
theorem ns {a} (h:iF a):iy a:=by unfold iy;omega
end
theorem Ai v M H N i w (hm:gJ w v M) (f:gi (gF M H N)) (hN:N≤100000) (hi:oQ M i=true) :
 Calls gd 48 #[v,b_ c_ i] w (pF w (oe M i)):=by
 have bv:=hm;obtain⟨wv,hv,ev,m1,m2,m3,dv,lv,tv,qs,rfl,Q⟩:=hm;obtain⟨k,rfl⟩:∃ k:Nat,i=k:=⟨i.toNat,by have:=(rj hi).1;omega⟩;have X:gi (k<M.harts.length):=gg (by have:=(rj hi).2.1;omega);have an:gi (k<M.ends.length):=gg (by have:=(rj hi).2.2;omega);have HI:=gg hi;obtain⟨R,hR⟩:∃ R,R=oe M (k:Int):=⟨_,rfl⟩;rw[←hR];have HR:gi (R=if yZ M (k:Int)≠0 then (jX,100) else if yV M (k:Int)=false then (zeY M (k:Int) 2,0) else lZ M (k:Int) (mN (lm M (k:Int)) k (yU M (k:Int)))):=gg (by rw[hR];unfold oe;rw[if_neg (by rw[hi];decide)]);obtain⟨h,hh⟩:∃ h,h=lm M (k:Int):=⟨_,rfl⟩;have HF:gi (jw h):=gg (by rw[hh];exact f.o.fine _ (Da f_ (by have:=X.o;omega)));have aV:=HF.o.len;have bb:=gV h aV;obtain⟨w1,bm,aW,bN,aG,cZ⟩:=lU w (d_ #[wv,hv,ev,m1,m2,m3,dv,lv,tv] 37) (d_ gq 37);have X1:gi (SX w #[wv,hv,ev,m1,m2,m3,dv,lv,tv] w1):=gg ⟨aW,bN,aG⟩;have a0:=gg (bv.below aG);have ah:=gg (Q.below aG);obtain⟨ge,ce,cU,rfl,_,ba,ke,_⟩:=rf ah.o.ends an.o;rw[←yO an.o] at ke;obtain⟨gh,ch,cS,rfl,cK,_,aa,_⟩:=ah.o.harts |> fun _=>ah.o.hart f.o.regs X.o
 rw[←E9 X.o,←hh] at aa;have bP:gi ((loadVar 56 ⟨gh,k*39,none⟩).run gd w1 = .ok (e_ (hA h)) w1):=gg (run_loadVar_mid (P:=gd) w1 gh (k*39) 56 (hC h) _ aa Tryz.underlying56 rfl (by rw[uT aV];exact uS));obtain⟨wa,wq,rfl⟩:=gN ah.o.words;obtain⟨b1,d1,b2,d2,b3,d3,rows,em,_⟩:=ah.o.mem.parts;injection em with em
 have f2:m2 =a_ b2 M.mem.pend.length d2:=by have:=congrArg (·[1]?) em;simpa using this
 have f1:m1 =a_ b1 M.mem.words.length d1:=by have:=congrArg (·[0]?) em;simpa using this
 have f3:m3 =a_ b3 M.mem.res.length d3:=by have:=congrArg (·[2]?) em;simpa using this
 subst f1 f2 f3;have bG:(k:Int)<M.mem.pend.length:=by obtain⟨W,_,gm⟩:=f.o.mem;have:=X.o;rw[gm.pend,←f.o.harts];omega
 obtain⟨pb,po,pa,pq,rfl,-,L,p2,p3,p4,-⟩:=Q.mem.row bG f_;obtain⟨np,bp⟩:∃ n,n=M.mem.pend.length:=⟨_,rfl⟩;obtain⟨x0,x1,x2,x3,x4,x5,x6,x7,x8⟩:=gU aW;have HH:=gg hh;obtain⟨nw,aP⟩:∃ n,n=M.words.length:=⟨_,rfl⟩;obtain⟨nh,aD⟩:∃ n,n=M.harts.length:=⟨_,rfl⟩;obtain⟨ne,aK⟩:∃ n,n=M.ends.length:=⟨_,rfl⟩;have bU:=gg aP;have cw:=gg aD;have cH:=gg aK;have da:(k:Int)<nh:=by have:=X.o;omega
 have c2:(k:Int)<ne:=by have:=an.o;omega
 rw[←aP,←aD,←aK,←bp] at X1 a0 bm ⊢
 rw[←bp] at bG p2;have bw:=gg p4;have bj:=gg p3;generalize M.mem.words.length=n1,M.mem.res.length=n3 at *
 rw[←aP] at x0;rw[←aD] at x1;rw[←aK] at x2;generalize hE:yZ M (k:Int)=E at *
 clear aW bN aG bv Q hi hR hh aP aD aK bp em L p3 p4 x3 x4 x5 x6 x7 x8 cK aa ba hE
 go_in
 go_upto_region 1 with(fail)
 rw[←bm];clear bm;have c9:(0:Int)≤(k:Int):=by omega
 by_cases aJ:E=0
 rotate_left
 · have q0:(E != 0)=true:=by simp[aJ]
   have aA:=gg (HR.o.trans (if_pos aJ));clear HR aJ
   go_wp2_with (refine wpList_store_row rfl 37 _ _ rfl (w.heap.size+1) gq rfl rfl 37 gq X1.o.res je rfl (by simp[Value.oneCell']) ?_)
   rw[aA.o];exact gP rfl rfl rfl rfl X1.o.res (iz _) X1.o.bel f_
 subst aJ;have aA:=gg (HR.o.trans (if_neg (fun h=>h rfl)));clear HR;go_upto_region 3 with(fail)
 obtain⟨w2,ay⟩:∃ x,x=(w1.alloc (d_ zA 56)).setRow w1.heap.size (hA h):=⟨_,rfl⟩;have aC:Up w1 w2:=by rw[ay];exact below_setRow (gr w1 _) fL _
 have bc:gi (w2.heap[w1.heap.size]? = some (d_ (hA h) 56 (0,0))):=gg (by rw[ay];exact setRow_heap _ _ _ _ _ _ (gH w1 _));go_upto_region 4 with(first|(refine wE rfl 56 _ rfl gh (k*39) rfl (e_ (hA h)) bP.o ?_)|(refine wpList_store_row rfl 56 _ _ rfl (w1.heap.size) (hA h) rfl rfl 56 zA (gH w1 _) (ii bb) (by rw[bb];rfl) (jU h) ?_))
 unfold zA at ay;rw[←ay];have X2:=gg (X1.o.up aC);have bf:=gg (a0.o.below aC);have b8:=gg (ah.o.below aC);clear x0 x1 x2 aC bP X1 a0 ah ke ay;generalize w1.heap.size=bh at *
 obtain⟨pc,aE⟩:∃ z,z=h.pc:=⟨_,rfl⟩;have kp:w2.cell? ⟨bh,32,none⟩=some (b_ c_ pc):=by rw[aE];exact gv bc.o (lT h aV).1
 have c5:iF pc:=by rw[aE];exact HF.o.pc.1
 obtain⟨x0,x1,x2,x3,x4,x5,x6,x7,x8⟩:=gU X2.o.mac;clear x1 x2 x3 x4 x5 x6 x7 x8;have aL:gi (pc=(lm M (k:Int)).pc):=gg (by rw[←HH.o];exact aE);have y:yF M pc=(decide (0≤pc) && (pc.tmod 4 == 0 && decide (pc.tdiv 4<nw))):=by rw[bU.o];rfl
 obtain⟨pl,aU⟩:∃ b,b=yF M pc:=⟨_,rfl⟩;rw[←aU] at y;have a2:=gg aU;clear aE aU;simp only[Act.put,fU,fV,fW]
 go_cut [44] (fun s wx=>s = fJ (!pl)∧wx=w2)
 case first=>
  by_cases J:0≤pc
  · have q0:decide (pc<0)=false:=by simp;omega
    by_cases L:pc.tmod 4=0
    · have V:c_.wrap (pc.tdiv 4)=pc.tdiv 4:=IntWalk.i64_in _ (by rw[Int.tdiv_eq_ediv_of_nonneg J];omega)
      by_cases p2:pc.tdiv 4<nw
      · have hd:decide ((nw:Int)≤pc.tdiv 4)=false:=by simpa using p2
        have e:pl=true:=by rw[y];simp[J,L,p2]
        clear y
        go_wp2
        go_meet
        case rel=>exact⟨by rw[e];rfl,rfl⟩
      · have hd:decide ((nw:Int)≤pc.tdiv 4)=true:=by simpa using p2
        have e:pl=false:=by rw[y];simp[J,L,p2]
        clear y
        go_wp2
        go_meet
        case rel=>exact⟨by rw[e];rfl,rfl⟩
    · have p3:¬ pc % 4=0:=by rw[←Int.tmod_eq_emod_of_nonneg J];exact L
      have p4:(pc % 4 != 0)=true:=by simpa using p3
      have e:pl=false:=by rw[y];simp[J,L]
      clear L y
      go_wp2
      go_meet
      case rel=>exact⟨by rw[e];rfl,rfl⟩
  · have p3:pc<0:=by omega
    have e:pl=false:=by rw[y];simp[J]
    clear y
    go_wp2
    go_meet
    case rel=>exact⟨by rw[e];rfl,rfl⟩
 case rest=>
  obtain⟨rfl,bg⟩:=hcut;subst bg;cases bt:pl
  · have ap:gi (R=(zeY M (k:Int) 2,0)):=gg (by
     rw[aA.o,if_pos (pY (by rw[←aL.o,←a2.o];exact bt)).2])
    subst bt;clear kp x0 y
    go_wp2_with (first|(refine wpList_load_row rfl 37 _ rfl (w.heap.size) rfl 37 _ (0,0) _ X2.o.mac Tryz.underlying37 rfl je ?_)|(go_at_call 86;refine(pp _ M H N _ 2 _ bf.o f hN HI.o).mono ?_;rintro e w3 ⟨v3,rfl,aS,ar⟩;obtain⟨co,rfl,n3⟩:=oR aS;have X3:=gg (X2.o.up ar);have cE:=gg aS;clear aS ar)|(refine wpList_store_row rfl 37 _ _ rfl (w.heap.size+1) co rfl rfl 37 gq X3.o.res n3.info (by rw[n3.size];rfl) n3.one ?_))
    rw[ap.o];exact gP rfl rfl rfl rfl X3.o.res cE.o X3.o.bel f_
  subst bt;have bO:=a2.o.symm;have bD:=y.symm;simp only[Bool.and_eq_true,decide_eq_true_eq,beq_iff_eq] at bD;obtain⟨J,L,p2⟩:=bD;obtain⟨j,hj⟩:∃ j:Nat,pc.tdiv 4=j:=⟨(pc.tdiv 4).toNat,by have:=Int.tdiv_nonneg J (show (0:Int)≤4 by omega);omega⟩;have bz:j<M.words.length:=by have:=bU.o;omega
  obtain⟨gw,cO,c0,U,cL,_,cG,_⟩:=rf b8.o.words bz;injection U with U _ e3
  subst U e3;have hz:BP M pc=M.words[j]:=by simp[BP,hj,bz]
  obtain⟨f1,f2⟩:=Jo (M:=M) (i:=(k:Int)) (by rw[←aL.o];exact bO);rw[←aL.o,hz] at f1 f2;have c8:(j:Int)<nw:=by omega
  have cX:(0:Int)≤(j:Int):=by omega
  have V:c_.wrap (j:Int)=j:=IntWalk.i64_in _ (by have:=f.o.words;omega);have ap:gi (R=if (dE M.words[j] == 0)=false then (zeY M (k:Int) 2,0) else lZ M (k:Int) (mN h k (dX M.words[j]))):=gg (by rw[aA.o,f1,f2,HH.o]);clear cL hz f1 f2 bO y L p2 aA a2 aL;generalize M.words[j]=z at *
  generalize b0:dX z=xx at *
  generalize bL:dE z=ee at *
  have cD:=gg b0;have cj:=gg bL;obtain⟨S,F,T,K,O⟩:=xx;clear b0 bL;have HD:gi (∀ w',Calls gd 87 #[b_ c_ z] w' fun e af=>e =fH (fI #[e_ #[b_ c_ S,b_ c_ F,b_ c_ T,b_ c_ K,b_ c_ O],b_ c_ ee])∧Up w' af):=gg (fun w'=>by have:=xD z w';rw[cD.o,cj.o] at this;exact this);go_upto_region 7 with(first|(go_at_call 87;refine(HD.o _).mono ?_;rintro e w3 ⟨rfl,ar⟩;have bY:=gg ar;clear ar))
  obtain⟨w4,aQ⟩:∃ x,x=w3.alloc (d_ #[b_ c_ S,b_ c_ F,b_ c_ T,b_ c_ K,b_ c_ O] 72):=⟨_,rfl⟩;have bI:Up w3 w4:=by rw[aQ];exact gr _ _
  have bx:gi (w4.heap[w3.heap.size]? = some (d_ #[b_ c_ S,b_ c_ F,b_ c_ T,b_ c_ K,b_ c_ O] 72 (0,0))):=gg (by rw[aQ];exact gH w3 _);rw[←aQ];have C:=gj bY.o bI;have X4:=gg (X2.o.up C);have br:=gg (bf.o.below C);have bZ:=gg (gk C bc.o);clear aQ bI C cG kp x0 X2 bf b8 bc bY hj J V;generalize w3.heap.size=bi at *
  by_cases aR:ee=0
  rotate_left
  · have q0:(ee != 0)=true:=by simp[aR]
    have I:gi (R=(zeY M (k:Int) 2,0)):=gg (by rw[ap.o,if_pos (by simp[aR])]);clear aR
    go_wp2_with (first|(refine wpList_load_row rfl 37 _ rfl (w.heap.size) rfl 37 _ (0,0) _ X4.o.mac Tryz.underlying37 rfl je ?_)|(go_at_call 86;refine(pp _ M H N _ 2 _ br.o f hN HI.o).mono ?_;rintro e B ⟨v5,rfl,bq,C⟩;obtain⟨cM,rfl,n5⟩:=oR bq;have X5:=gg (X4.o.up C);have cC:=gg bq;clear bq C)|(refine wpList_store_row rfl 37 _ _ rfl (w.heap.size+1) cM rfl rfl 37 gq X5.o.res n5.info (by rw[n5.size];rfl) n5.one ?_))
    rw[I.o];exact gP rfl rfl rfl rfl X5.o.res cC.o X5.o.bel f_
  subst aR;obtain⟨c,e',hs⟩:∃ c e',mN h (k:Int) ⟨S,F,T,K,O⟩=(c,e'):=⟨_,_,rfl⟩;have I:gi (R=lZ M (k:Int) (c,e')):=gg (by rw[ap.o,if_neg fZ,hs]);have cQ:(k:Int)<4:=by have:=X.o;have:=f.o.harts;have:=f.o.few;omega
  have aI:gi (∀ w',Calls gd 88 #[e_ (hA h),b_ c_ k,e_ #[b_ c_ S,b_ c_ F,b_ c_ T,b_ c_ K,b_ c_ O]] w' fun e af=>e =fH (fI #[e_ (hA c),jj e'])∧Up w' af):=gg (fun w'=>by have:=uE h (k:Int) ⟨S,F,T,K,O⟩ w' HF.o (by unfold iy;omega);rw[hs] at this;exact this);have ck:gi (jw c):=gg (by have:=oI HF.o (k:Int) ⟨S,F,T,K,O⟩;rw[hs] at this;exact this);have bH:gi (iF e'.n):=gg (by have:=CE HF.o (k:Int) ⟨S,F,T,K,O⟩;rw[hs] at this;exact this);have cm:gi (GH e'):=gg (by have:=CD h (k:Int) ⟨S,F,T,K,O⟩;rw[hs] at this;exact this);obtain⟨a,q,d,en,m⟩:=e';unfold jj at aI;simp only at aI;have am:=ck.o.len;have al:=gV c am;clear hs ap;go_upto_region 10 with(first|(refine wpList_load_row rfl 56 _ rfl (bh) rfl 56 (hA h) (0,0) _ bZ.o Tryz.underlying56 rfl (ii bb) ?_)|(refine wpList_load_row rfl 72 _ rfl (bi) rfl 72 _ (0,0) _ bx.o Tryz.underlying72 rfl Ci ?_)|(go_at_call 88;refine(aI.o _).mono ?_;rintro e B ⟨rfl,C⟩;have b9:=gg C;obtain⟨w6,cz,bV,ca,bE,_⟩:=lU B (d_ zA 56) (d_ #[b_ c_ 0,b_ c_ 0,b_ c_ 0,b_ c_ 0,b_ c_ 0] 131);have bQ:=gg bE;have a4:=gg bV;have be:=gg (iL (cs:=hA c) (show B.heap.size+1≠B.heap.size by omega) ca);subst cz;clear C bV ca bE)|(refine wpList_store_row rfl 56 _ _ rfl (B.heap.size) (hA c) rfl rfl 56 zA a4.o (ii al) (by rw[al];rfl) (jU c) ?_)|(refine wpList_store_row rfl 131 _ _ rfl (B.heap.size+1) #[b_ c_ a,b_ c_ q,b_ c_ d,b_ c_ en,b_ c_ m] rfl rfl 131 #[b_ c_ 0,b_ c_ 0,b_ c_ 0,b_ c_ 0,b_ c_ 0] be.o rR rfl (by simp[Value.oneCell']) ?_))
  obtain⟨w7,aj⟩:∃ x,x=(((B.alloc (d_ zA 56)).alloc (d_ #[b_ c_ 0,b_ c_ 0,b_ c_ 0,b_ c_ 0,b_ c_ 0] 131)).setRow B.heap.size (hA c)).setRow (B.heap.size+1) #[b_ c_ a,b_ c_ q,b_ c_ d,b_ c_ en,b_ c_ m]:=⟨_,rfl⟩;have aX:Up w4 w7:=by rw[aj];exact gj b9.o (below_setRow (below_setRow bQ.o fL _) (Nat.le_succ _) _)
  have a6:gi (w7.heap[B.heap.size]? = some (d_ (hA c) 56 (0,0))):=gg (by rw[aj];exact iL f_ (setRow_heap _ _ _ _ _ _ a4.o));have bK:gi (w7.heap[B.heap.size+1]? = some (d_ #[b_ c_ a,b_ c_ q,b_ c_ d,b_ c_ en,b_ c_ m] 131 (0,0))):=gg (by rw[aj];exact setRow_heap _ _ _ _ _ _ be.o);unfold zA at aj;simp only[Act.put,fU,fV,fW];rw[←aj];have X7:=gg (X4.o.up aX);have a8:=gg (br.o.below aX);have a3:gi (w7.cell? ⟨pb,po+k,none⟩=some (a_ pa (iA M.mem (k:Int)).length pq)∧pb<w7.heap.size):=gg ⟨(X7.o.bel.cell (p:=⟨pb,po+k,none⟩) bj.o).trans bw.o,fN bj.o X7.o.bel.size⟩;clear aj aX X4 br bZ bx b9 bQ a4 be aI HF bj bw;generalize B.heap.size=bn at *
  go_upto_region 11 with(first|(refine wpList_load_row rfl 37 _ rfl (w.heap.size) rfl 37 _ (0,0) _ X7.o.mac Tryz.underlying37 rfl je ?_)|(go_at_call 47;refine(nU _ M H N _ a8.o f.o hN).mono ?_;rintro e w8 ⟨cu,cg,cb,ct,cr,ci,cl,cA,tv',c6,rfl,Q,V,hE,bX⟩;have HP:=gg Q;have HQ:=gg V;have HE:=gg hE;have bW:=gg bX;clear Q V hE bX)|(refine wpList_store_row rfl 37 _ _ rfl (w8.heap.size) _ rfl rfl 37 gq (gH w8 _) je rfl HP.o.ones ?_))
  obtain⟨O9,B9⟩:=mB HP.o HQ.o bW.o.size;have aZ:=gj bW.o B9;obtain⟨g,cc,cT,eh,cN,ba,_,bF⟩:=O9.parts.hart f.o.regs X.o;have O9:=gg O9;generalize (w8.alloc (d_ gq 37)).setRow w8.heap.size #[cu,cg,cb,ct,cr,ci,cl,cA,tv']=w9 at *
  obtain⟨p,Q⟩:∃ p,w8.heap.size=p:=⟨_,rfl⟩;rw[Q] at O9 ⊢
  subst eh;have bS:=gg bF;have bT:=gk aZ a6.o;have bM:=gg bT;have t:=gg (gx.setHart O9.o f.o.regs rfl X.o am);have ae:=rx ba (hC c) (k*39) aZ;obtain⟨k0,k1,k2,k3,k4,k5,k6,k7,k8⟩:=gU O9.o.at_;simp only[←cw.o] at k1;clear k0 k2 k3 k4 k5 k6 k7 k8 bF cN B9 HP HQ bT Q aZ;go_upto_region 12 with(first|(refine wpList_load_row rfl 56 _ rfl (bn) rfl 56 (hA c) (0,0) _ bM.o Tryz.underlying56 rfl (ii al) ?_)|(refine wpList_store_mid rfl 56 _ _ rfl g (k*39) (hA c) rfl rfl (by rw[al];exact bS.o) (by rw[al];exact uS) (jU c) ?_))
  simp only[sX];generalize w9.setCells g (k*39) (hC c)=w10 at *
  have cx:=X7;have l:=gg (X7.o.up ae);have aF:=gg (a8.o.below ae);have b5:=gg (gk ae a6.o);have a9:=gg (gk ae bK.o);have az:w10.cell? ⟨pb,po+k,none⟩=some (a_ pa (iA M.mem (k:Int)).length pq):=(ae.cell (p:=⟨pb,po+k,none⟩) a3.o.2).trans a3.o.1;obtain⟨e0,U,e2,e3,e4⟩:=nB a9.o;have b4:=gg ae;clear k1 X7 a8 a6 bK a3 ae bM O9 bS U e3 e4 al;have ad:=cm.o;by_cases a1:a=0∨a=8
  · have r:gi (R=(zb5 M (k:Int) c,0)):=gg (by rw[I.o];rcases a1 with rfl|rfl <;> rfl)
    clear az ad;rcases a1 with rfl|rfl
    · go_wp2_with (first|(refine wpList_load_row rfl 37 _ rfl (p) rfl 37 _ (0,0) _ t.o.at_ Tryz.underlying37 rfl je ?_)|(refine wpList_store_row rfl 37 _ _ rfl (w.heap.size+1) _ rfl rfl 37 gq l.o.res je rfl t.o.parts.ones ?_))
      rw[r.o];exact gP rfl rfl rfl rfl l.o.res t.o.isMac l.o.bel f_
    · go_wp2_with (first|(refine wpList_load_row rfl 37 _ rfl (p) rfl 37 _ (0,0) _ t.o.at_ Tryz.underlying37 rfl je ?_)|(refine wpList_store_row rfl 37 _ _ rfl (w.heap.size+1) _ rfl rfl 37 gq l.o.res je rfl t.o.parts.ones ?_))
      rw[r.o];exact gP rfl rfl rfl rfl l.o.res t.o.isMac l.o.bel f_
  by_cases h9:a=9
  · have r:gi (R=(zeY M (k:Int) 2,0)):=gg (by rw[I.o,h9];rfl)
    subst h9;clear az ad
    go_wp2_with (first|(refine wpList_load_row rfl 37 _ rfl (w.heap.size) rfl 37 _ (0,0) _ l.o.mac Tryz.underlying37 rfl je ?_)|(go_at_call 86;refine(pp _ M H N _ 2 _ aF.o f hN HI.o).mono ?_;rintro e cv ⟨cR,rfl,a5,aq⟩;obtain⟨cf,rfl,bu⟩:=oR a5;have u:=gg (l.o.up aq);have ao:=gg a5;clear a5 aq)|(refine wpList_store_row rfl 37 _ _ rfl (w.heap.size+1) cf rfl rfl 37 gq u.o.res bu.info (by rw[bu.size];rfl) bu.one ?_))
    rw[r.o];exact gP rfl rfl rfl rfl u.o.res ao.o u.o.bel f_
  by_cases h7:a=7
  · have r:gi (R=(zeY (zb5 M (k:Int) c) (k:Int) 1,0)):=gg (by rw[I.o,h7];rfl)
    subst h7;obtain⟨g3,c3,c7,cJ,_,cq,_,_⟩:=rf t.o.parts.ends an.o;subst cJ;obtain⟨kc,fc⟩:=qh t.o.parts.ends an.o;obtain⟨k0,k1,k2,k3,k4,k5,k6,k7,k8⟩:=gU t.o.at_;change w10.cell? _=some (a_ (some ⟨g3,0,none⟩) M.ends.length c3) at k2;rw[←cH.o] at k2;have bo:=gg (gx.setEnd t.o HE.o rfl an.o 1);have u:=gg (cx.o.up (gO b4.o cq (o:=k) (b_ c_ 1)));clear k0 k1 k3 k4 k5 k6 k7 k8 az ad
    go_wp2_with (first|(refine wpList_load_row rfl 37 _ rfl (p) rfl 37 _ (0,0) _ bo.o.at_ Tryz.underlying37 rfl je ?_)|(refine wpList_store_row rfl 37 _ _ rfl (w.heap.size+1) _ rfl rfl 37 gq u.o.res je rfl bo.o.parts.ones ?_))
    rw[r.o];exact gP rfl rfl rfl rfl u.o.res bo.o.isMac u.o.bel f_
  by_cases h6:a=6
  · subst h6
    clear ad;obtain⟨n,hn⟩:∃ n,(iA M.mem (k:Int)).length=n:=⟨_,rfl⟩;rw[hn] at az;obtain⟨x0,x1,x2,x3,x4,x5,x6,x7,x8⟩:=gU l.o.mac;clear x0 x1 x2 x3 x5 x6 x7 x8;by_cases Z:0<n
    · have r:gi (R=(jX,92)):=gg (by rw[I.o];unfold lZ;simp only;rw[if_neg fZ,if_neg fZ,if_pos trivial,if_pos (by rw[hn];omega)])
      go_wp2_with (refine wpList_store_row rfl 37 _ _ rfl (w.heap.size+1) gq rfl rfl 37 gq l.o.res je rfl (by simp[Value.oneCell']) ?_)
      rw[r.o];exact gP rfl rfl rfl rfl l.o.res (iz _) l.o.bel f_
    · have r:gi (R=(zb5 M (k:Int) c,0)):=gg (by rw[I.o];unfold lZ;simp only;rw[if_neg fZ,if_neg fZ,if_pos trivial,if_neg (by rw[hn];omega)])
      go_wp2_with (first|(refine wpList_load_row rfl 37 _ rfl (p) rfl 37 _ (0,0) _ t.o.at_ Tryz.underlying37 rfl je ?_)|(refine wpList_store_row rfl 37 _ _ rfl (w.heap.size+1) _ rfl rfl 37 gq l.o.res je rfl t.o.parts.ones ?_))
      rw[r.o];exact gP rfl rfl rfl rfl l.o.res t.o.isMac l.o.bel f_
  have b7:1≤a∧a≤5:=by have:=ad.1;have:=ad.2;simp only at *;omega
  have r:gi (R=uR M (k:Int) c ⟨a,q,d,en,m⟩):=gg (by rw[I.o];unfold lZ;simp only;rw[if_neg h9,if_neg h7,if_neg h6,if_pos b7]);have q0:(a == 0)=false:=by simp;omega
  have q8:(a == 8)=false:=by simp;omega
  have q9:(a == 9)=false:=by simpa using h9
  have q7:(a == 7)=false:=by simpa using h7
  have q6:(a == 6)=false:=by simpa using h6
  clear az ad b4 HE t I a1 h9 h7 h6;obtain⟨A,aO⟩:∃ A,tB M d=A:=⟨_,rfl⟩;have b6:gi (∀ v w',gJ w' v M→Calls gd 89 #[v,b_ c_ d] w' fun e af=>e =fH (b_ c_ A)∧Up w' af):=gg (fun v w' hm=>by have:=Aj v M d w' hm;rw[aO] at this;exact this);go_upto_region 26 with(first|(refine wpList_load_row rfl 37 _ rfl (w.heap.size) rfl 37 _ (0,0) _ l.o.mac Tryz.underlying37 rfl je ?_)|(go_at_call 89;refine(b6.o _ _ aF.o).mono ?_;rintro e cv ⟨rfl,aq⟩;have aB:=gg aq;clear aq))
  have u:=gg (l.o.up aB.o);have ao:=gg (aF.o.below aB.o);have bs:=gg (gk aB.o b5.o);have aN:=gg (gk aB.o a9.o);clear e0 e2 l aF b5 a9 aB b6;have hO:tB M d=if nZ M (uh ⟨a,q,d,en,m⟩) then (uh ⟨a,q,d,en,m⟩).tdiv 4 else -1:=rfl
  cases Y:nZ M (uh ⟨a,q,d,en,m⟩)
  rotate_left
  · rw[aO,if_pos Y] at hO
    have cP:0≤A:=by rw[hO];refine Int.tdiv_nonneg ?_ fZ;simp only[nZ,Bool.and_eq_true,decide_eq_true_eq] at Y;exact Y.1
    have aw:gi (R=uY M (k:Int) c ⟨a,q,d,en,m⟩ A):=gg (by rw[r.o];unfold uR;rw[if_pos Y,←hO]);clear hO Y b7 q0 q8 q9 q7 q6
    go_wp2_with (first|(refine wpList_load_row rfl 37 _ rfl (w.heap.size) rfl 37 _ (0,0) _ u.o.mac Tryz.underlying37 rfl je ?_)|(refine wpList_load_row rfl 56 _ rfl (bn) rfl 56 (hA c) (0,0) _ bs.o Tryz.underlying56 rfl (ii (gV c am)) ?_)|(refine wpList_load_row rfl 131 _ rfl (bn+1) rfl 131 _ (0,0) _ aN.o Tryz.underlying131 rfl rR ?_)|(go_at_call 90;refine(uq _ M H N _ c ⟨a,q,d,en,m⟩ A _ ao.o f hN HI.o am (ns bH.o) (ns (n_ f.o.num A)) (ns (wR f.o.num _ _ _))).mono ?_;rintro e bJ ⟨cY,rfl,a7,au⟩;obtain⟨cI,rfl,bl⟩:=oR a7;have ab:=gg (u.o.up au);have aH:=gg a7;clear a7 au)|(refine wpList_store_row rfl 37 _ _ rfl (w.heap.size+1) cI rfl rfl 37 gq ab.o.res bl.info (by rw[bl.size];rfl) bl.one ?_))
    rw[aw.o];exact gP rfl rfl rfl rfl ab.o.res aH.o ab.o.bel f_
  rw[aO,if_neg (by rw[Y];decide)] at hO;subst hO;have aw:gi (R=if xG M a (qo ⟨a,q,d,en,m⟩) then pG M (k:Int) c ⟨a,q,d,en,m⟩ ((qo ⟨a,q,d,en,m⟩).tdiv 256) (((qo ⟨a,q,d,en,m⟩).tmod 256).tdiv 4) else (zeY M (k:Int) 3,0)):=gg (by rw[r.o];unfold uR;rw[if_neg (by rw[Y];decide)]);clear aO Y r;obtain⟨n,hn⟩:∃ n,n=qo ⟨a,q,d,en,m⟩:=⟨_,rfl⟩;rw[←hn] at aw;obtain⟨rg,aa⟩:∃ b,b=qD M n:=⟨_,rfl⟩;obtain⟨D,hD⟩:∃ D,D=if rg then n.tdiv 256 else -1:=⟨_,rfl⟩
  obtain⟨G,hG⟩:∃ G,G=if rg then (n.tmod 256).tdiv 4 else -1:=⟨_,rfl⟩
  have bC:gi (∀ v w',gJ w' v M→Calls gd 91 #[v,b_ c_ d] w' fun e af=>e =fH (fI #[b_ c_ D,b_ c_ G])∧Up w' af):=gg (fun v w' hm=>by have:=qz v M d w' hm;rw[hD,hG,aa,hn];exact this);obtain⟨rb,aT⟩:∃ b,b=xG M a n:=⟨_,rfl⟩;have ak:rb=((a == 1 || a == 2) && rg):=by rw[aT,aa];rfl
  have aM:rg=decide (0≤D)∧(rg=true→(0≤D∧D<M.devs.length)∧(G=0∨G=1∨G=3∨G=2)):=by
   cases hr:rg
   · rw[hr,if_neg fZ] at hD;rw[hD];exact⟨rfl,fun h=>by cases h⟩
   · rw[hr,if_pos rfl] at hD hG
     have h:=aa;rw[hr] at h;have h:=h.symm;unfold qD at h;simp only[Bool.and_eq_true,decide_eq_true_eq,beq_iff_eq] at h;obtain⟨h0,_,h2,h3⟩:=h;have h4:0≤D:=by rw[hD];exact Int.tdiv_nonneg h0 fZ
     refine⟨by simp[h4],fun _=>⟨⟨h4,by rw[hD];exact h3⟩,?_⟩⟩;rw[hG,Int.tmod_eq_emod_of_nonneg h0,Int.tdiv_eq_ediv_of_nonneg f_];rw[Int.tmod_eq_emod_of_nonneg h0] at h2;omega
  obtain⟨cF,aM⟩:=aM;have cd:=gg aM
  have bA:gi (R=if rb then pG M (k:Int) c ⟨a,q,d,en,m⟩ D G else (zeY M (k:Int) 3,0)):=gg (by
   rw[aw.o,←aT];cases Z:rb
   · rfl
   · have:rg=true:=by rw[Z] at ak;have h:=ak.symm;simp only[Bool.and_eq_true] at h;exact h.2
     rw[hD,hG,this];rfl)
  clear hn aa hD hG aT aM aw;obtain⟨e0,U,e2,e3,e4⟩:=nB aN.o;clear e0 U e3 e4;go_upto_region 29 with(first|(refine wpList_load_row rfl 37 _ rfl (w.heap.size) rfl 37 _ (0,0) _ u.o.mac Tryz.underlying37 rfl je ?_)|(go_at_call 91;refine(bC.o _ _ ao.o).mono ?_;rintro e bJ ⟨rfl,au⟩;have ax:=gg au;clear au))
  have ab:=gg (u.o.up ax.o);have aH:=gg (ao.o.below ax.o);have cp:=gg (gk ax.o bs.o);have bB:=gg (gk ax.o aN.o);clear e2 u ao bs aN ax bC;obtain⟨e0,U,e2,e3,e4⟩:=nB bB.o;clear U e2 e3 e4
  try simp only[Act.put,fU,fV,fW]
  go_cut [140] (fun s wx=>s = fJ rb∧wx=bJ)
  case first=>
   cases h1:(a == 1) <;> cases h2:(a == 2) <;> by_cases hd:0≤D
   all_goals
    have cW:decide (0≤D)=decide (0≤D):=rfl;simp only[h1,h2,cF,hd,decide_true,decide_false] at ak
    go_wp2
    go_meet
    case rel=>exact⟨by rw[ak];simp[hd],rfl⟩
  case rest=>
   obtain⟨rfl,bg⟩:=hcut;subst bg;cases Z:rb
   · have bd:gi (R=(zeY M (k:Int) 3,0)):=gg (by rw[bA.o,Z];rfl)
     subst Z
     go_wp2_with (first|(refine wpList_load_row rfl 37 _ rfl (w.heap.size) rfl 37 _ (0,0) _ ab.o.mac Tryz.underlying37 rfl je ?_)|(go_at_call 86;refine(pp _ M H N _ 3 _ aH.o f hN HI.o).mono ?_;rintro e cB ⟨cn,rfl,ai,av⟩;obtain⟨aY,rfl,ag⟩:=oR ai;have ac:=gg (ab.o.up av);have bk:=gg ai;clear ai av)|(refine wpList_store_row rfl 37 _ _ rfl (w.heap.size+1) aY rfl rfl 37 gq ac.o.res ag.info (by rw[ag.size];rfl) ag.one ?_))
     rw[bd.o];exact gP rfl rfl rfl rfl ac.o.res bk.o ac.o.bel f_
   · have bd:gi (R=pG M (k:Int) c ⟨a,q,d,en,m⟩ D G):=gg (by rw[bA.o,Z];rfl)
     have V:rg=true∧(a=1∨a=2):=by rw[Z] at ak;have h:=ak.symm;simp only[Bool.and_eq_true,Bool.or_eq_true,beq_iff_eq] at h;exact⟨h.2,h.1⟩
     have bR:=gg (cd.o V.1);have cy:=gg V.2;subst Z;clear V
     go_wp2_with (first|(refine wpList_load_row rfl 37 _ rfl (w.heap.size) rfl 37 _ (0,0) _ ab.o.mac Tryz.underlying37 rfl je ?_)|(refine wpList_load_row rfl 56 _ rfl (bn) rfl 56 (hA c) (0,0) _ cp.o Tryz.underlying56 rfl (ii (gV c am)) ?_)|(refine wpList_load_row rfl 131 _ rfl (bn+1) rfl 131 _ (0,0) _ bB.o Tryz.underlying131 rfl rR ?_)|(go_at_call 92;refine(un _ M H N _ c ⟨a,q,d,en,m⟩ D G _ aH.o f hN HI.o am (ns bH.o) bR.o.1 bR.o.2 cy.o).mono ?_;rintro e cB ⟨cn,rfl,ai,av⟩;obtain⟨aY,rfl,ag⟩:=oR ai;have ac:=gg (ab.o.up av);have bk:=gg ai;clear ai av)|(refine wpList_store_row rfl 37 _ _ rfl (w.heap.size+1) aY rfl rfl 37 gq ac.o.res ag.info (by rw[ag.size];rfl) ag.one ?_))
     rw[bd.o];exact gP rfl rfl rfl rfl ac.o.res bk.o ac.o.bel f_
end
section
open Go.RowKit
set_option maxRecDepth 100000
set_option maxHeartbeats 16000000
structure DX (w0:World) (cs c:Array Value) (w:World):Prop where
 mac:w.heap[w0.heap.size]? = some (d_ cs 37 (0,0))
 cho:w.heap[w0.heap.size+1]? = some (d_ c 28 (0,0))
 res:w.heap[w0.heap.size+2]? = some (d_ gq 37 (0,0))
 bel:Up w0 w
theorem DX.up {d w w' cs c} (b:DX d cs c w) (a:Up w w'):DX d cs c w':=⟨gk a b.mac,gk a b.cho,gk a b.res,gj b.bel a⟩
theorem DX.but {a w w' cs c g} (b:DX a cs c w) (d:og g w w') (f:a.heap.size+3≤g) (e:Up a w'):DX a cs c w':=⟨(d.2 _ f_).trans b.mac,(d.2 _ f_).trans b.cho,(d.2 _ f_).trans b.res,e⟩
theorem DN v M H N c w (hm:gJ w v M) (Q:gi (gF M H N)) (hN:N≤100000) (aW:iy c.n) :
 Calls gd 18 #[v,cV c] w (pF w (lW M c)):=by
 have aC:=hm;obtain⟨wv,hv,ev,m1,m2,m3,dv,lv,tv,qs,rfl,L⟩:=hm;obtain⟨C,t,o,cn⟩:=c;unfold cV;simp only at aW ⊢
 obtain⟨R,hR⟩:∃ R,R=lW M ⟨C,t,o,cn⟩:=⟨_,rfl⟩;rw[←hR];obtain⟨xh,yh,rfl⟩:=gN L.harts;obtain⟨xe,ye,rfl⟩:=gN L.ends;obtain⟨xd,yd,rfl⟩:=gN L.devs;obtain⟨xl,yl,rfl⟩:=gN L.lines;obtain⟨b1,d1,b2,d2,b3,d3,rows,em,_⟩:=L.mem.parts;injection em with em
 have f1:m1 =a_ b1 M.mem.words.length d1:=by have:=congrArg (·[0]?) em;simpa using this
 have f2:m2 =a_ b2 M.mem.pend.length d2:=by have:=congrArg (·[1]?) em;simpa using this
 have f3:m3 =a_ b3 M.mem.res.length d3:=by have:=congrArg (·[2]?) em;simpa using this
 subst f1 f2 f3;obtain⟨nh,au⟩:∃ n,n=M.harts.length:=⟨_,rfl⟩;obtain⟨ne,ax⟩:∃ n,n=M.ends.length:=⟨_,rfl⟩;obtain⟨nd,aY⟩:∃ n,n=M.devs.length:=⟨_,rfl⟩;obtain⟨nl,aI⟩:∃ n,n=M.lines.length:=⟨_,rfl⟩;rw[←au,←ax,←aY,←aI] at L aC ⊢
 generalize M.mem.words.length=n1,M.mem.pend.length=n2,M.mem.res.length=n3 at *
 obtain⟨w1,bn,aD,aO,bp,aG,ae⟩:=Eh w (d_ #[wv,a_ xh nh yh,a_ xe ne ye,a_ b1 n1 d1,a_ b2 n2 d2,a_ b3 n3 d3,a_ xd nd yd,a_ xl nl yl,tv] 37) (d_ #[b_ c_ C,b_ c_ t,b_ c_ o,b_ c_ cn] 28) (d_ gq 37);have X1:gi (DX w #[wv,a_ xh nh yh,a_ xe ne ye,a_ b1 n1 d1,a_ b2 n2 d2,a_ b3 n3 d3,a_ xd nd yd,a_ xl nl yl,tv] #[b_ c_ C,b_ c_ t,b_ c_ o,b_ c_ cn] w1):=gg ⟨aD,aO,bp,aG⟩;have aF:=gg (aC.below aG);have HP:=gg L;obtain⟨ih,aV⟩:∃ b,b=oQ M t:=⟨_,rfl⟩;have aa:ih=(decide (0≤t) && (decide (t<nh) && decide (t<ne))):=by rw[aV,au,ax];simp only[oQ];congr 1;rw[←Bool.decide_and];exact decide_eq_decide.2 f_
 have HR:=gg hR;have az:=gg aV;have bP:=gg au;have bu:=gg ax;have aM:=gg aY;have aj:=gg aI;have bR:=gg aW;obtain⟨x0,Y,x2,x3,X,x5,x6,x7,x8⟩:=gU aD;obtain⟨c0,c1,c2,c3⟩:=kM aO;clear aD aO bp aG aC L hR aV au ax aY aI aW em x0 x3 X x5 x6 x7 x8 c0 c2 c3
 go_in
 go_upto_region 1 with(fail)
 rw[←bn];clear bn
 go_cut [6] (fun s wx=>s = fJ ih∧wx=w1)
 case first=>
  as_aux_lemma=>
   cases p0:decide (0≤t)
   · simp only[p0,Bool.false_and] at aa
     go_wp2
     go_meet
     case rel=>exact⟨by first|rw[aa]|(rw[aa];simp[p0]),rfl⟩
   cases p1:decide (t<(nh:Int))
   · simp only[p0,p1,Bool.false_and,Bool.and_false] at aa
     go_wp2
     go_meet
     case rel=>exact⟨by first|rw[aa]|(rw[aa];simp[p0,p1]),rfl⟩
   cases p2:decide (t<(ne:Int))
   all_goals
    simp only[p0,p1,p2,Bool.true_and] at aa
    go_wp2
    go_meet
    case rel=>exact⟨by first|rw[aa]|(rw[aa];simp[p0,p1,p2]),rfl⟩
 case rest=>
 obtain⟨rfl,m⟩:=hcut;have m:=m.symm;subst m;clear aa Y x2 c1;go_upto_region 3 with(first|(refine wpList_load_row rfl 37 _ rfl (w.heap.size) rfl 37 _ (0,0) _ X1.o.mac Tryz.underlying37 rfl je ?_)|(go_at_call 47;refine(nU _ M H N _ aF.o Q.o hN).mono ?_;rintro e w2 ⟨bL,bD,bx,bK,bJ,bE,bG,bT,tv',b9,rfl,L,hq,hE,a0⟩;have aQ:=gg L;have HQ:=gg hq;have aR:=gg a0;clear L hq hE a0)|(refine wpList_store_row rfl 37 _ _ rfl (w2.heap.size) _ rfl rfl 37 gq (gH w2 _) je rfl aQ.o.ones ?_))
 obtain⟨F,B3⟩:=mB aQ.o HQ.o aR.o.size;have aw:=gj aR.o B3;have F:=gg F;generalize (w2.alloc (d_ gq 37)).setRow w2.heap.size #[bL,bD,bx,bK,bJ,bE,bG,bT,tv']=w3 at *
 obtain⟨p,L⟩:∃ p,w2.heap.size=p:=⟨_,rfl⟩;rw[L] at F ⊢
 have bw:w.heap.size+3≤p:=by have:=F.o.base;have:=ae;omega
 have l:=gg (X1.o.up aw);have ar:=gg (aF.o.below aw);have ag:=gg (HP.o.below (gj X1.o.bel aw));clear L aw B3 aQ HQ aR X1 aF;simp only[Act.put,fU,fV,fW];obtain⟨x0,Y,x2,x3,X,x5,x6,x7,x8⟩:=gU l.o.mac;obtain⟨c0,c1,c2,c3⟩:=kM l.o.cho;obtain⟨t1,ht1⟩:∃ b,b=((C == 1) && ih):=⟨_,rfl⟩
 go_cut [32] (fun s wx=>s = fJ t1∧wx=w3)
 case first=>
  as_aux_lemma=>
   cases d:(C == 1)
   · simp only[d,Bool.true_and,Bool.false_and,Bool.and_true,Bool.and_false] at ht1
     go_wp2
     go_meet
     case rel=>exact⟨by first|rw[ht1]|(rw[ht1];simp[d]),rfl⟩
   simp only[d,Bool.true_and,Bool.false_and,Bool.and_true,Bool.and_false] at ht1
   go_wp2
   go_meet
   case rel=>exact⟨by first|rw[ht1]|(rw[ht1];simp[d]),rfl⟩
 case rest=>
 obtain⟨rfl,m⟩:=hcut;have m:=m.symm;subst m;have a1:=gg ht1;clear ht1;cases z:t1
 rotate_left
 · as_aux_lemma=>
    have K:=a1.o.symm.trans z;simp only[Bool.and_eq_true,beq_iff_eq] at K;obtain⟨ab,an⟩:=K;have HB:=gg (az.o.symm.trans an);subst z ab;have G:gi (R=oe M t):=gg (by rw[HR.o];rfl);clear x0 Y x2 x3 X x5 x6 x7 x8 c0 c2 c3
    go_wp2_with (first|(refine wpList_load_row rfl 37 _ rfl (w.heap.size) rfl 37 _ (0,0) _ l.o.mac Tryz.underlying37 rfl je ?_)|(go_at_call 48;refine(Ai _ M H N t _ ar.o Q hN HB.o).mono ?_;rintro e U ⟨v4,rfl,ah,ad⟩;obtain⟨bW,rfl,n4⟩:=oR ah;have J:=gg (l.o.up ad);have aA:=gg ah;clear ah ad)|(refine wpList_store_row rfl 37 _ _ rfl (w.heap.size+2) bW rfl rfl 37 gq J.o.res n4.info (by rw[n4.size];rfl) n4.one ?_))
    rw[G.o];exact gP rfl rfl rfl rfl J.o.res aA.o J.o.bel f_
 subst z;go_upto_region 5 with(fail)
 obtain⟨t2,ht2⟩:∃ b,b=((C == 2) && ih):=⟨_,rfl⟩
 go_cut [45] (fun s wx=>s = fJ t2∧wx=w3)
 case first=>
  as_aux_lemma=>
   cases d:(C == 2)
   · simp only[d,Bool.true_and,Bool.false_and,Bool.and_true,Bool.and_false] at ht2
     go_wp2
     go_meet
     case rel=>exact⟨by first|rw[ht2]|(rw[ht2];simp[d]),rfl⟩
   simp only[d,Bool.true_and,Bool.false_and,Bool.and_true,Bool.and_false] at ht2
   go_wp2
   go_meet
   case rel=>exact⟨by first|rw[ht2]|(rw[ht2];simp[d]),rfl⟩
 case rest=>
 obtain⟨rfl,m⟩:=hcut;have m:=m.symm;subst m;have bb:=gg ht2;clear ht2;cases z:t2
 rotate_left
 · as_aux_lemma=>
    have K:=bb.o.symm.trans z;simp only[Bool.and_eq_true,beq_iff_eq] at K;obtain⟨ab,an⟩:=K;have HB:=gg (az.o.symm.trans an);subst z ab;have G:gi (R=if (mV M.mem t o).2=0 then ({ M with mem:=(mV M.mem t o).1 },0) else (jX,(mV M.mem t o).2)):=gg (by rw[HR.o];simp[lW,pK,HB.o]);have a8:=Q.o.small;obtain⟨r,hr⟩:∃ r,r=mV M.mem t o:=⟨_,rfl⟩;rw[←hr] at G;have bl:gi (∀ w',Up w3 w'→Calls gd 49 #[e_ #[a_ b1 n1 d1,a_ b2 n2 d2,a_ b3 n3 d3],b_ c_ t,b_ c_ o] w' (oj w' w'.heap.size r)):=gg (fun w' hb=>by rw[hr];exact rX _ M.mem t o w' ((ag.o.below hb).mem) a8);clear hr x0 Y x2 x6 x7 x8 c3 a8;go_upto_region 7 with(go_at_call 49;refine(bl.o _ fK).mono ?_;rintro e U ⟨v4,rfl,ah,ad⟩;obtain⟨y1,z1,t1,y2,z2,t2,y3,z3,t3,rfl⟩:=AR ah;have aA:=gg ah;have ac:=gg ad;clear ah ad)
    have aB:=gr U (d_ #[a_ y1 z1 t1,a_ y2 z2 t2,a_ y3 z3 t3] 33);have a7:=gH U (d_ #[a_ y1 z1 t1,a_ y2 z2 t2,a_ y3 z3 t3] 33);have bs:=gg (aA.o.below aB);have aH:=gj ac.o aB;generalize U.alloc (d_ #[a_ y1 z1 t1,a_ y2 z2 t2,a_ y3 z3 t3] 33)=w5 at *
    have X5:=gg (l.o.up aH);have O5:=gg (F.o.below aH);clear x3 X x5 c0 c1 c2 aB aH l F aA ac ar ag bl;obtain⟨m',e⟩:=r;simp only at G bs ⊢
    by_cases he:e=0
    · have S:gi (R=({ M with mem:=m' },0)):=gg (by rw[G.o,if_pos he])
      subst he;obtain⟨m0,m1,m2⟩:=iv a7;obtain⟨k0,k1,k2,k3,k4,k5,k6,k7,k8⟩:=gU O5.o.at_;have f3:=gC O5.o.at_ 3;have f4:=gC O5.o.at_ 4;have f5:=gC O5.o.at_ 5;have T:=gg (gx.setMem O5.o bs.o);have I:=gg (X5.o.but (rJ w5 p 3 4 5 (a_ y1 z1 t1) (a_ y2 z2 t2) (a_ y3 z3 t3)) bw (gO (gO (gO X5.o.bel f_ _) f_ _) f_ _));clear k0 k1 k2 k6 k7 k8 a7 O5 X5
      go_wp2_with (first|(refine wpList_load_row rfl 37 _ rfl (p) rfl 37 _ (0,0) _ T.o.at_ Tryz.underlying37 rfl je ?_)|(refine wpList_store_row rfl 37 _ _ rfl (w.heap.size+2) _ rfl rfl 37 gq I.o.res je rfl T.o.parts.ones ?_))
      rw[S.o];exact gP rfl rfl rfl rfl I.o.res T.o.isMac I.o.bel f_
    · have S:gi (R=(jX,e)):=gg (by rw[G.o,if_neg he])
      have d:(e != 0)=true:=by simp[he]
      go_wp2_with (refine wpList_store_row rfl 37 _ _ rfl (w.heap.size+2) gq rfl rfl 37 gq X5.o.res je rfl (by simp[Value.oneCell']) ?_)
      rw[S.o];exact gP rfl rfl rfl rfl X5.o.res (iz _) X5.o.bel f_
 subst z;go_upto_region 11 with(fail)
 obtain⟨t3,ht3⟩:∃ b,b=((C == 3) && (decide (0≤o) && decide (o<(nl:Int)))):=⟨_,rfl⟩
 go_cut [69] (fun s wx=>s = fJ t3∧wx=w3)
 case first=>
  as_aux_lemma=>
   cases d:(C == 3)
   · simp only[d,Bool.true_and,Bool.false_and,Bool.and_true,Bool.and_false] at ht3
     go_wp2
     go_meet
     case rel=>exact⟨by first|rw[ht3]|(rw[ht3];simp[d]),rfl⟩
   cases O:decide (0≤o)
   · simp only[d,O,Bool.true_and,Bool.false_and,Bool.and_true,Bool.and_false] at ht3
     go_wp2
     go_meet
     case rel=>exact⟨by first|rw[ht3]|(rw[ht3];simp[d,O]),rfl⟩
   cases Z:decide (o<(nl:Int))
   · simp only[d,O,Z,Bool.true_and,Bool.false_and,Bool.and_true,Bool.and_false] at ht3
     go_wp2
     go_meet
     case rel=>exact⟨by first|rw[ht3]|(rw[ht3];simp[d,O,Z]),rfl⟩
   simp only[d,O,Z,Bool.true_and,Bool.false_and,Bool.and_true,Bool.and_false] at ht3
   go_wp2
   go_meet
   case rel=>exact⟨by first|rw[ht3]|(rw[ht3];simp[d,O,Z]),rfl⟩
 case rest=>
 obtain⟨rfl,m⟩:=hcut;have m:=m.symm;subst m;have bt:=gg ht3;clear ht3;cases z:t3
 rotate_left
 · as_aux_lemma=>
    have K:=bt.o.symm.trans z;simp only[Bool.and_eq_true,beq_iff_eq,decide_eq_true_eq] at K;obtain⟨ab,aq⟩:=K;subst z ab;obtain⟨j,rfl⟩:∃ j:Nat,o=j:=⟨o.toNat,by omega⟩;have B:gi (j<M.lines.length):=gg (by have:=aj.o;omega);have G:gi (R=(zdL M (j:Int) true,0)):=gg (by rw[HR.o];exact(if_pos (by have:=aj.o;omega):uQ M (j:Int)=_));obtain⟨g,cc,bH,e,ao,bO⟩:=uO F.o.parts.lines (by have:=B.o;omega);subst e;have kl:w3.cell? ⟨g,j*3+2,none⟩=some (fJ M.lines[j].r):=(F.o.parts.lines.cellAt (j*3+2) (by have:=B.o;omega)).trans (lI (fun y _=>A7 y) (fQ B.o) fZ);have fl:=gC ao (j*3+2);obtain⟨k0,k1,k2,k3,k4,k5,k6,k7,k8⟩:=gU F.o.at_;change w3.cell? _=some (a_ (some ⟨g,0,none⟩) M.lines.length cc) at k7;rw[←aj.o] at k7;have T:=gg (gx.setLine F.o rfl B.o true);have I:=gg (l.o.but (nF w3 g (j*3+2) (fJ true)) (by have:=ae;omega) (gO l.o.bel (by have:=ae;omega) _));have O:(j:Int)<(nl:Int):=aq.2;have Z:(0:Int)≤(j:Int):=by omega
    clear k0 k1 k2 k3 k4 k5 k6 k8 x0 Y x2 x3 X x5 x6 x8 c1 c3 ao aq F l ar ag
    go_wp2_with (first|(refine wpList_load_row rfl 37 _ rfl (p) rfl 37 _ (0,0) _ T.o.at_ Tryz.underlying37 rfl je ?_)|(refine wpList_store_row rfl 37 _ _ rfl (w.heap.size+2) _ rfl rfl 37 gq I.o.res je rfl T.o.parts.ones ?_))
    rw[G.o];exact gP rfl rfl rfl rfl I.o.res T.o.isMac I.o.bel f_
 subst z;go_upto_region 14 with(fail)
 obtain⟨t4,ht4⟩:∃ b,b=((C == 4) && ih):=⟨_,rfl⟩
 go_cut [93] (fun s wx=>s = fJ t4∧wx=w3)
 case first=>
  as_aux_lemma=>
   cases d:(C == 4)
   · simp only[d,Bool.true_and,Bool.false_and,Bool.and_true,Bool.and_false] at ht4
     go_wp2
     go_meet
     case rel=>exact⟨by first|rw[ht4]|(rw[ht4];simp[d]),rfl⟩
   simp only[d,Bool.true_and,Bool.false_and,Bool.and_true,Bool.and_false] at ht4
   go_wp2
   go_meet
   case rel=>exact⟨by first|rw[ht4]|(rw[ht4];simp[d]),rfl⟩
 case rest=>
 obtain⟨rfl,m⟩:=hcut;have m:=m.symm;subst m;have be:=gg ht4;clear ht4;cases z:t4
 rotate_left
 · as_aux_lemma=>
    have K:=be.o.symm.trans z;simp only[Bool.and_eq_true,beq_iff_eq] at K;obtain⟨ab,an⟩:=K;have HB:=gg (az.o.symm.trans an);subst z ab;obtain⟨k,rfl⟩:∃ k:Nat,t=k:=⟨t.toNat,by have:=(rj HB.o).1;omega⟩;have HK:gi (k<M.harts.length):=gg (by have:=(rj HB.o).2.1;omega);have aX:gi (k<M.ends.length):=gg (by have:=(rj HB.o).2.2;omega);have cd:(k:Int)<nh:=by have:=HK.o;have:=bP.o;omega
    have b8:(k:Int)<ne:=by have:=aX.o;have:=bu.o;omega
    have b4:(0:Int)≤(k:Int):=by omega
    have he:=ag.o.ends;rw[bu.o] at he;obtain⟨ge,ce,b6,e,br,_,ke,_⟩:=rf he aX.o;injection e with e en e';clear en
    subst e e';rw[←yO aX.o] at ke;obtain⟨W,cf,b5,e,bv,_,aN,_⟩:=ag.o.hart Q.o.regs HK.o;injection e with e en e';clear en
    subst e e';rw[←E9 HK.o] at aN;have HF:gi (jw (lm M (k:Int))):=gg (Q.o.fine _ (Da f_ (by have:=HK.o;omega)));have bI:=D_ M (k:Int) M.lines.length;rw[show mG M (k:Int) M.lines.length=oU M (k:Int) from rfl] at bI;have G:gi (R=if yZ M (k:Int)≠0 then (jX,100) else if oU M (k:Int)<0 then (jX,101) else (zb5 (zdL M (oU M (k:Int)) false) (k:Int) (sL (lm M (k:Int)) (-2147483648+oU M (k:Int))),0)):=gg (by rw[HR.o];show oC M (k:Int)=_;unfold oC;rw[if_neg (by rw[HB.o];decide)]);have ba:gi (∀ v w',gJ w' v M→Calls gd 21 #[v,b_ c_ k] w' fun e aJ=>e =fH (b_ c_ (oU M (k:Int)))∧Up w' aJ):=gg (fun v w' hm=>qw v w' M k hm Q.o.regs (fun x hx=>by rcases(Q.o.fine x hx).st with e|e|e|e <;> omega) Q.o.lines);generalize oU M (k:Int)=f at *
    generalize yZ M (k:Int)=E at *
    generalize lm M (k:Int)=h at *
    have av:=HF.o.len;have b7:=gV h av;have a9:=gn br;have a6:=gn bv;have bc:=gg ke;have bi:=gg aN;have aK:=gg a6;have a3:=gg a9;clear he br bv aN ke a9 a6 x0 Y x2 x3 X x5 x6 x7 x8 c0 c2 c3;go_upto_region 16 with(first|(refine wpList_load_row rfl 37 _ rfl (w.heap.size) rfl 37 _ (0,0) _ l.o.mac Tryz.underlying37 rfl je ?_)|(go_at_call 21;refine(ba.o _ _ ar.o).mono ?_;rintro e U ⟨rfl,ad⟩;have ac:=gg ad;clear ad))
    have J:=gg (l.o.up ac.o);have O4:=gg (F.o.below ac.o);have ke:=(ac.o.cell (p:=⟨ge,k,none⟩) a3.o).trans bc.o;have aZ:gi (U.rangeAt W (k*39) (hC h)):=gg (fun j u hj=>(ac.o.cell (p:=⟨W,_,none⟩) aK.o).trans (bi.o j u hj));have bN:=gg (fN aK.o ac.o.size);obtain⟨x0,Y,x2,x3,X,x5,x6,x7,x8⟩:=gU J.o.mac;obtain⟨c0,c1,c2,c3⟩:=kM J.o.cho;clear x0 Y x3 X x5 x6 x7 x8 c0 c2 c3 ac l F ar ag bi aK a3 bc ba;by_cases hE:E=0
    rotate_left
    · have S:gi (R=(jX,100)):=gg (by rw[G.o,if_pos hE])
      have d:(E != 0)=true:=by simp[hE]
      go_wp2_with (refine wpList_store_row rfl 37 _ _ rfl (w.heap.size+2) gq rfl rfl 37 gq J.o.res je rfl (by simp[Value.oneCell']) ?_)
      rw[S.o];exact gP rfl rfl rfl rfl J.o.res (iz _) J.o.bel f_
    subst hE;have G:=gg (G.o.trans (if_neg gb));go_upto_region 18 with(fail)
    by_cases aS:f<0
    · have S:gi (R=(jX,101)):=gg (by rw[G.o,if_pos aS])
      go_wp2_with (refine wpList_store_row rfl 37 _ _ rfl (w.heap.size+2) gq rfl rfl 37 gq J.o.res je rfl (by simp[Value.oneCell']) ?_)
      rw[S.o];exact gP rfl rfl rfl rfl J.o.res (iz _) J.o.bel f_
    have S:=gg (G.o.trans (if_neg aS));have d:decide (f<0)=false:=by simpa using aS
    obtain⟨j,rfl⟩:∃ j:Nat,f=j:=⟨f.toNat,by omega⟩;have B:gi (j<M.lines.length):=gg f_;have bU:(j:Int)<nl:=by have:=aj.o;have:=B.o;omega
    have bM:(0:Int)≤(j:Int):=by omega
    have b0:=Q.o.lines;obtain⟨g,cc,bH,e,ao,bO⟩:=uO O4.o.parts.lines (by have:=B.o;omega);subst e;have kl:U.cell? ⟨g,j*3+2,none⟩=some (fJ M.lines[j].r):=(O4.o.parts.lines.cellAt (j*3+2) (by have:=B.o;omega)).trans (lI (fun y _=>A7 y) (fQ B.o) fZ);have fl:=gC ao (j*3+2);obtain⟨k0,k1,k2,k3,k4,k5,k6,k7,k8⟩:=gU O4.o.at_;change U.cell? _=some (a_ (some ⟨g,0,none⟩) M.lines.length cc) at k7;rw[←aj.o] at k7;have T:=gg (gx.setLine O4.o rfl B.o false);have bg:w.heap.size+3≤g:=by have:=ae;omega
    have I:=gg (J.o.but (nF U g (j*3+2) (fJ false)) bg (gO J.o.bel f_ _));have cg:W<w.heap.size:=(HP.o.harts.lt W rfl).2;have bY:gi ((U.setCell ⟨g,j*3+2,none⟩ (fJ false)).rangeAt W (k*39) (hC h)):=gg (fun i u hi=>(Bq (show W≠g by omega) _ _ (fJ false)).trans (aZ.o i u hi));have bB:U.cell? ⟨w.heap.size+1,1,none⟩=some (b_ c_ k):=c1;clear k0 k1 k2 k3 k4 k5 k6 k8 ao x2 ke aZ bN bB G;go_upto_region 21 with(fail)
    generalize U.setCell ⟨g,j*3+2,none⟩ (fJ false)=w5 at *
    clear k7 kl fl c1 J O4;obtain⟨h',ay⟩:∃ y,y=sL h (-2147483648+(j:Int)):=⟨_,rfl⟩;rw[←ay] at S;have aP:h'.r.length=32:=by rw[ay];exact av
    have bZ:gi (∀ w',Calls gd 50 #[e_ (hA h),b_ c_ ((j:Int) - 2147483648)] w' fun e aJ=>e =fH (e_ (hA h'))∧Up w' aJ):=gg (fun w'=>by
     have:=uI h ((j:Int) - 2147483648) w' av (by rcases HF.o.st with e|e|e|e <;> omega) (by unfold iy;omega);rw[xX h _ HF.o.st,show (j:Int) - 2147483648 = -2147483648+(j:Int) by omega,←ay] at this;rw[show (j:Int) - 2147483648 = -2147483648+(j:Int) by omega];exact this)
    have ca:c_.wrap ((j:Int) - 2147483648)=(j:Int) - 2147483648:=IntWalk.i64_in _ f_;obtain⟨g5,c5,bV,e5,am,bX,_,ak⟩:=T.o.parts.hart Q.o.regs HK.o;subst e5;have aT:=gg ak;have ap:=gg am;have T9:=gg (gx.setHart T.o Q.o.regs rfl HK.o aP);have bh:=gV h' aP;clear ak am ay;refine fY (fun w'=>Up w5 w') 13 [true,true,true,true,true,true,true,true,true,true,true,true] (fun a b h hu=>gj h hu) fK ?a4 ?h4 ?ht4
    case h4=>
     intro w0 A;have Y:=fun x=>gD (gn (gk A I.o.mac)) (gU (gk A I.o.mac)).2.1 x
     have y1:=fun x=>gD (gn (gk A I.o.cho)) (kM (gk A I.o.cho)).2.1 x
     have k1:=fun x=>gD (gn (gk A T.o.at_)) (gU (gk A T.o.at_)).2.1 x
     have R0:gi (∀ w':World,(∃ x:Wd w0,w'=x.val)→(loadVar 56 ⟨W,k*39,none⟩).run gd w' = .ok (e_ (hA h)) w'):=gg (by
      rintro w' ⟨x,rfl⟩;exact run_loadVar_mid (P:=gd) x.val W (k*39) 56 (hC h) _ (fun i u hu=>((gj A x.bel).cell (p:=⟨W,_,none⟩) (show W<w5.heap.size by have:=I.o.bel.size;omega)).trans (bY.o i u hu)) Tryz.underlying56 rfl (by rw[uT av];exact uS))
     clear A;simp only[jd]
     iterate 9 (go_big_quiet_step (fail))
     go_big_quiet_want
     refine kY 56 _ ⟨W,k*39,none⟩ (e_ (hA h)) rfl rfl R0.o ?_
     simp only[Act.put,fU,fV,fW]
     go_big_quiet_on
     repeat(go_big_quiet_step (fail))
     refine wpQuiet_nil ?_
     rfl
    case ht4=>
     change kD _ _ _ _ _ _ 1 _ _ _;refine jQ (i:=12) ga fZ rfl ?_
     intro w6 _ af
     go_wp2_with fail
     refine(bZ.o _).mono ?_
     rintro e w7 ⟨rfl,al⟩;have aL:=gg (gj af al);clear af al
     go_wp2_with fail
     refine⟨aL.o,?_⟩;refine lR ga ?_
     intro w8 _ V;have O9:=gg (gx.setHart (T.o.below V) Q.o.regs rfl HK.o aP);have aE:=gg (vi aT.o ap.o (gk V ap.o));have X9:=gg ((I.o.up V).but (AQ w8 g5 (k*39) (hC h')) (by have:=ae;omega) (rx (by have:=ae;omega) (hC h') (k*39) (I.o.up V).bel));obtain⟨k0,k1,k2,k3,k4,k5,k6,k7,k8⟩:=gU (gk V T.o.at_);clear k0 k2 k3 k4 k5 k6 k7 k8 V k1;simp only[List.drop_succ_cons,List.drop_zero];go_upto_region 22 with(refine wpList_store_mid rfl 56 _ _ rfl g5 (k*39) (hA h') rfl rfl (by rw[bh];exact aE.o) (by rw[bh];exact uS) (jU h') ?_)
     simp only[sX]
     go_wp2_with (first|(refine wpList_load_row rfl 37 _ rfl (p) rfl 37 _ (0,0) _ O9.o.at_ Tryz.underlying37 rfl je ?_)|(refine wpList_store_row rfl 37 _ _ rfl (w.heap.size+2) _ rfl rfl 37 gq X9.o.res je rfl O9.o.parts.ones ?_))
     rw[S.o];exact gP rfl rfl rfl rfl X9.o.res O9.o.isMac X9.o.bel f_
 subst z;go_upto_region 23 with(fail)
 obtain⟨t5,ht5⟩:∃ b,b=((C == 5) && (decide (0≤o) && decide (o<(nd:Int)))):=⟨_,rfl⟩
 go_cut [135] (fun s wx=>s = fJ t5∧wx=w3)
 case first=>
  as_aux_lemma=>
   cases d:(C == 5)
   · simp only[d,Bool.true_and,Bool.false_and,Bool.and_true,Bool.and_false] at ht5
     go_wp2
     go_meet
     case rel=>exact⟨by first|rw[ht5]|(rw[ht5];simp[d]),rfl⟩
   cases O:decide (0≤o)
   · simp only[d,O,Bool.true_and,Bool.false_and,Bool.and_true,Bool.and_false] at ht5
     go_wp2
     go_meet
     case rel=>exact⟨by first|rw[ht5]|(rw[ht5];simp[d,O]),rfl⟩
   cases Z:decide (o<(nd:Int))
   · simp only[d,O,Z,Bool.true_and,Bool.false_and,Bool.and_true,Bool.and_false] at ht5
     go_wp2
     go_meet
     case rel=>exact⟨by first|rw[ht5]|(rw[ht5];simp[d,O,Z]),rfl⟩
   simp only[d,O,Z,Bool.true_and,Bool.false_and,Bool.and_true,Bool.and_false] at ht5
   go_wp2
   go_meet
   case rel=>exact⟨by first|rw[ht5]|(rw[ht5];simp[d,O,Z]),rfl⟩
 case rest=>
 obtain⟨rfl,m⟩:=hcut;have m:=m.symm;subst m;have bq:=gg ht5;clear ht5;cases z:t5
 rotate_left
 · as_aux_lemma=>
    have K:=bq.o.symm.trans z;simp only[Bool.and_eq_true,beq_iff_eq,decide_eq_true_eq] at K;obtain⟨ab,aq⟩:=K;subst z ab;obtain⟨j,rfl⟩:∃ j:Nat,o=j:=⟨o.toNat,by omega⟩;have B:gi (j<M.devs.length):=gg (by have:=aM.o;omega)
    have S:gi (R=({ M with devs:=M.devs.set j (ja (kL M.devs[j] (wrap32 cn))) },0)):=gg (by
     have e:oT M (j:Int)=M.devs[j]'(B.o):=by unfold oT;rw[Int.toNat_natCast,List.getD_eq_getElem?_getD,fQ B.o];rfl
     rw[HR.o];refine(if_pos (by have:=aM.o;omega):tJ M (j:Int) cn=_).trans ?_
     rw[e];rfl)
    have ai:=Q.o.dev _ (List.getElem_mem B.o);obtain⟨gs,ci,bV,bm,e,bo,_,a2,_,bf,_⟩:=ag.o.dev B.o;injection e with e en e';clear en
    subst e e';obtain⟨g5,c5,cb,q5,e5,am,bX,_,ak,_,_⟩:=F.o.parts.dev B.o;subst e5;have aT:=gg ak;have ap:=gg am;have bF:=gg a2;have bz:=gg bf;have bS:=gn bo;have T1:=gg F.o.at_;generalize M.devs[j]'(B.o)=D at *
    have bU:(j:Int)<nd:=aq.2;have bM:(0:Int)≤(j:Int):=by omega
    clear ak am a2 bf bo aq x0 Y x2 x3 X x5 x6 x7 x8 c0 c1 c2 c3;go_upto_region 24 with(fail)
    refine fY (fun w'=>Up w3 w') 13 [true,true,true,true,true,true,true,true,true,true,true,true] (fun a b h hu=>gj h hu) fK ?a5 ?h5 ?ht5
    case h5=>
     intro w0 A;have X:=fun x=>gD (gn (gk A l.o.mac)) (gU (gk A l.o.mac)).2.2.2.2.2.2.1 x
     have y2:=fun x=>gD (gn (gk A l.o.cho)) (kM (gk A l.o.cho)).2.2.1 x
     have y3:=fun x=>gD (gn (gk A l.o.cho)) (kM (gk A l.o.cho)).2.2.2 x
     have k4:=fun x=>gD (gn (gk A T1.o)) (gU (gk A T1.o)).2.2.2.2.2.2.1 x
     have R0:gi (∀ w':World,(∃ x:Wd w0,w'=x.val)→(loadVar 75 ⟨gs,j*8,none⟩).run gd w' = .ok (e_ (gX D bm)) w'):=gg (by
      rintro w' ⟨x,rfl⟩;exact A0 (fun i u hu=>((gj A x.bel).cell (p:=⟨gs,j*8+i,none⟩) bS).trans (bF.o i u hu)))
     clear A;simp only[jd]
     iterate 9 (go_big_quiet_step (fail))
     go_big_quiet_want
     refine kY 75 _ ⟨gs,j*8,none⟩ (e_ (gX D bm)) rfl rfl R0.o ?_
     simp only[Act.put,fU,fV,fW]
     go_big_quiet_on
     repeat(go_big_quiet_step (fail))
     refine wpQuiet_nil ?_
     rfl
    case ht5=>
     change kD _ _ _ _ _ _ 1 _ _ _;refine jQ (i:=12) ga fZ rfl ?_
     intro w6 _ af
     go_wp2_with fail
     refine(At _ D cn _ (bz.o.below af) (by have:=ai.k;omega) ai.q ai.r0 ai.rs.1 ai.rs.2.1 ai.rs.2.2 bR.o).mono ?_
     rintro e w7 ⟨v',rfl,⟨q',rfl,aU,bd⟩,al⟩;obtain⟨bC,bk⟩:=mz aU bd;have bA:=gg (gx.fresh (F.o.below af) bk);have aL:=gg (gj af al);clear bd af al bk
     go_wp2_with fail
     refine⟨aL.o,?_⟩;refine lR ga ?_
     intro w8 bj V;have O9:=gg (gx.setDev (F.o.below V) rfl B.o (aU.below bj) bA.o);have aE:=gg (vi aT.o ap.o (gk V ap.o));have X9:=gg ((l.o.up V).but (AQ w8 g5 (j*8) (sC (ja (kL D (wrap32 cn)),q'))) (by have:=ae;omega) (rx (by have:=ae;omega) (sC (ja (kL D (wrap32 cn)),q')) (j*8) (l.o.up V).bel));clear V bj aU;simp only[List.drop_succ_cons,List.drop_zero];go_upto_region 25 with(refine wpList_store_mid rfl 75 _ _ rfl g5 (j*8) (gX (ja (kL D (wrap32 cn))) q') rfl rfl aE.o g_ (De _ bC) ?_)
     go_wp2_with (first|(refine wpList_load_row rfl 37 _ rfl (p) rfl 37 _ (0,0) _ O9.o.at_ Tryz.underlying37 rfl je ?_)|(refine wpList_store_row rfl 37 _ _ rfl (w.heap.size+2) _ rfl rfl 37 gq X9.o.res je rfl O9.o.parts.ones ?_))
     rw[S.o];exact gP rfl rfl rfl rfl X9.o.res O9.o.isMac X9.o.bel f_
 subst z
 have bQ:gi (R=(jX,1)):=gg (by
  have e1:=a1.o;have e2:=bb.o;have e3:=bt.o;have e4:=be.o;have e5:=bq.o;rw[az.o] at e1 e2 e4;rw[aj.o] at e3;rw[aM.o] at e5;rw[HR.o];unfold lW;simp only;by_cases h1:C=1
  · rw[if_pos h1];simp at e1;unfold oe;rw[if_pos (e1 h1)]
  rw[if_neg h1];by_cases h2:C=2
  · rw[if_pos h2];simp at e2;unfold pK;rw[if_pos (e2 h2)]
  rw[if_neg h2];by_cases h3:C=3
  · rw[if_pos h3];simp at e3;unfold uQ;rw[if_neg (fun h=>by have:=e3 h3 h.1;omega)]
  rw[if_neg h3];by_cases h4:C=4
  · rw[if_pos h4];simp at e4;unfold oC;rw[if_pos (e4 h4)]
  rw[if_neg h4];by_cases h5:C=5
  · rw[if_pos h5];simp at e5;unfold tJ;rw[if_neg (fun h=>by have:=e5 h5 h.1;omega)]
  rw[if_neg h5])
 clear x0 Y x2 x3 X x5 x6 x7 x8 c0 c1 c2 c3
 go_wp2_with (refine wpList_store_row rfl 37 _ _ rfl (w.heap.size+2) gq rfl rfl 37 gq l.o.res je rfl (by simp[Value.oneCell']) ?_)
 rw[bQ.o];exact gP rfl rfl rfl rfl l.o.res (iz _) l.o.bel f_
end
