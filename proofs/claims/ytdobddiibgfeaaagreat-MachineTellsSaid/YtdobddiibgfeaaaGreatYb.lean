/- What the walks of this statement lean on: shown. -/
import Derived.Test.YtdobddiibgfeaaaGreatYa
set_option linter.all false
set_option maxRecDepth 100000
set_option maxHeartbeats 16000000
namespace Go.Proofs.YtdobddiibgfeaaaGreat
open Value renaming slice→a_,int→b_,agg→e_,pointer→fG,tuple→fI,bool→fJ
open IntKind renaming i64→c_
open Obj renaming cells→d_
open Ending renaming returned→fH
open Go.Proofs.Tryz renaming prog→gd
section
section
open Go.RowKit
theorem zQ {c:Prop} [Decidable c] {x y} (h:wrap32 x=x) (a:wrap32 y=y):wrap32 (if c then x else y)=if c then x else y:=by
 split <;> assumption
theorem yn (op a b):wrap32 (gY op a b)=gY op a b:=by
 unfold gY;repeat' (with_reducible refine zQ ?_ ?_)
 all_goals first|exact tA _|exact qZ _ _|exact jn (CY _ _ _)|exact tu _ _|exact qY _|exact Bp|exact jn f_
end
open Go.RowKit
set_option maxRecDepth 100000
theorem lB op d a b n r w (c:k_ ⟨op,d,a,b,n⟩=r) :
 Calls gd 61 #[e_ #[b_ c_ op,b_ c_ d,b_ c_ a,b_ c_ b,b_ c_ n]] w fun e w'=>e =fH (fJ r)∧Up w w':=by subst c;exact Ie ⟨op,d,a,b,n⟩ w
theorem yq (op a b):iF (gY op a b):=by rw[←yn];exact gG _
theorem oL op a b (d:iy a):iy (lV op a b):=by
 unfold lV;have c:=pM a;have e:=pM b;split
 · have h1:=Int.ediv_le_self (2 ^ (b % 32).toNat) c.1
   have h2:0≤word a / 2 ^ (b % 32).toNat:=Int.ediv_nonneg c.1 (Int.le_of_lt (Int.pow_pos fZ));constructor <;> omega
 split
 · exact j9 (gG _)
 split
 · exact j9 (gG _)
 split
 · unfold pL
   split
   · split
     · constructor <;> decide
     · have h1:=Int.ediv_le_self (word b) c.1
       have h2:0≤word a / word b:=Int.ediv_nonneg c.1 e.1;constructor <;> omega
   · split
     · exact d
     · rename_i h
       have h1:=Int.emod_nonneg (word a) h;have h2:=Int.emod_lt_of_pos (word a) (show 0<word b by omega);constructor <;> omega
 · exact j9 (yq _ _ _)
theorem Bg op (h:1≤op∧op≤49):((5≤op∧op≤10)→(gB op).form=66)∧((40≤op∧op≤42)→(gB op).form=67)∧((22≤op∧op≤38)→(gB op).form=82)∧((13≤op∧op≤21)→((gB op).form == 66)=false∧((gB op).form == 67)=false∧((gB op).form == 82)=false):=by
 have s:∀ i:Fin 50,1≤i.val→((5≤i.val∧i.val≤10)→(gB i.val).form=66)∧((40≤i.val∧i.val≤42)→(gB i.val).form=67)∧((22≤i.val∧i.val≤38)→(gB i.val).form=82)∧((13≤i.val∧i.val≤21)→((gB i.val).form == 66)=false∧((gB i.val).form == 67)=false∧((gB i.val).form == 82)=false):=by decide +kernel
 have t:=s ⟨op.toNat,by omega⟩ (by simp;omega);have e:((op.toNat:Nat):Int)=op:=by omega
 simp only[e] at t;exact⟨fun h=>t.1 f_,fun h=>t.2.1 f_,fun h=>t.2.2.1 f_,fun h=>t.2.2.2 f_⟩
theorem ts op a b r w (h:5≤op∧op≤10) (d:iy a) (f:iy b) (c:A_ op a b=r) :
 Calls gd 129 #[b_ c_ op,b_ c_ a,b_ c_ b] w fun e w'=>e =fH (fJ r)∧w=w':=by subst c;exact Ax op a b w h d f
structure Fh (w:World) (h:Ht) (x:ju) (pe:Nat) (s:Value) (wx:World):Prop where
 mid:∃ (g:Ht) (e:oW),s =b_ c_ (m_ h.pc x (h.r.getD x.a.toNat 0) (h.r.getD x.b.toNat 0))∧g=jr h x (h.r.getD x.a.toNat 0) (h.r.getD x.b.toNat 0)∧e=jG x (h.r.getD x.a.toNat 0) (h.r.getD x.b.toNat 0) ∧
  wx.heap[w.heap.size]? = some (d_ (hA g) 56 (0,0))∧wx.heap[pe]? = some (d_ #[b_ c_ e.k,b_ c_ e.d,b_ c_ e.ad,b_ c_ e.n,b_ c_ e.o] 131 (0,0))
 z:wx.heap[w.heap.size+2]? = some (d_ zA 56 (0,0))
 y:wx.heap[w.heap.size+3]? = some (d_ gL 131 (0,0))
 bel:Up w wx
set_option maxRecDepth 100000 in
theorem uH h id x w (f:jw h) (hr:k_ x=true) (hn:-1048576≤x.n∧x.n≤1048575) (bl:x.op≠44∧x.op≠40∧x.op≠41∧x.op≠42) :
 Calls gd 88 #[e_ (hA h),b_ c_ id,gK x] w fun e w'=>e =fH (fI #[e_ (hA (A4 h x).1),jj (A4 h x).2])∧Up w w':=by
 have q:=f.len;obtain⟨op,d,a,b,n⟩:=x;have ra:=(CJ hr).1;have rb:=(CJ hr).2;have ro:=(Ew hr).1;simp only at ra rb ro hn bl;obtain⟨N,rfl,aK⟩:∃ k:Nat,a=k∧k<32:=⟨a.toNat,by omega,by omega⟩;obtain⟨K,rfl,aI⟩:∃ k:Nat,b=k∧k<32:=⟨b.toNat,by omega,by omega⟩;clear ra rb;have P4:gi (iy (h.pc+4)):=gg (by have:=f.pc.1.1;have:=f.pc.1.2;constructor <;> omega);have PN:gi (iy (h.pc+n)):=gg (by have:=f.pc.1.1;have:=f.pc.1.2;constructor <;> omega);obtain⟨o,aB⟩:∃ o,h.r.getD N 0=o:=⟨_,rfl⟩;obtain⟨z,aE⟩:∃ z,h.r.getD K 0=z:=⟨_,rfl⟩;have am:gi (iF o):=gg (aB▸f.reg N aK);have aU:gi (iF z):=gg (aE▸f.reg K aI);have R:=gg aB;have S:=gg aE;clear aB aE;have w4:c_.wrap (h.pc+4)=h.pc+4:=IntWalk.i64_in _ (by have:=P4.o.1;have:=P4.o.2;omega);have wn:c_.wrap (h.pc+n)=h.pc+n:=IntWalk.i64_in _ (by have:=PN.o.1;have:=PN.o.2;omega);have FM:=gg (Bg op ro);obtain⟨SN,aD⟩:∃ y,y=A4 h ⟨op,d,N,K,n⟩:=⟨_,rfl⟩;have aC:=gg aD;rw[←aD];clear aD;obtain⟨w0,aJ,hx,hi,hz,hy,bd,aY⟩:=vf w (d_ (hA h) 56) (d_ #[b_ c_ op,b_ c_ d,b_ c_ N,b_ c_ K,b_ c_ n] 72) (d_ zA 56) (d_ gL 131);have i0:=gv hi (j:=0) (u:=b_ c_ op) rfl;have i1:=gv hi (j:=1) (u:=b_ c_ d) rfl;have i2:=gv hi (j:=2) (u:=b_ c_ N) rfl;have i3:=gv hi (j:=3) (u:=b_ c_ K) rfl;have i4:=gv hi (j:=4) (u:=b_ c_ n) rfl;have HW:=gg aJ;have HX:=gg hx;have HI:=gg hi;have HZ:=gg hz;have HY:=gg hy;have HR:=gg hr;have FF:=gg f;have HN:=gg hn;clear hx hi hz hy aJ hr f hn;unfold gK;go_enter Tryz.func88,Tryz.ntmps88;go_upto_region 1 with(fail)
 change Code.wp _ _ _ _ ((((w.alloc (d_ (hA h) 56)).alloc (d_ #[b_ c_ op,b_ c_ d,b_ c_ N,b_ c_ K,b_ c_ n] 72)).alloc (d_ zA 56)).alloc (d_ gL 131));rw[←HW.o]
 go_wp2_with fail
 refine(lB op d N K n true _ HR.o).mono ?_
 rintro e w1 ⟨rfl,aj⟩;have ao:=gg (iH aj HX.o);have al:=gg (iH aj HI.o);have aQ:=gg (iH aj HZ.o);have aL:=gg (iH aj HY.o);have a8:Up w w1:=(by repeat(first|(with_reducible exact Below.refl _ _)|(with_reducible refine gO ?_ ?_ _)|(with_reducible apply iS)|(with_reducible refine gj ?_ (by with_reducible assumption))|(with_reducible apply iR)|omega));have a6:w.heap.size+4≤w1.heap.size:=by have:=aj.size;omega
 clear i0 i1 i2 i3 i4 HX HI HZ HY HW bd aY aj;have ca:=gv ao.o (show (hA h)[N]? = some (b_ c_ o) by rw[l9 h q N aK,R.o]);have cb:=gv ao.o (show (hA h)[K]? = some (b_ c_ z) by rw[l9 h q K aI,S.o]);have ay:=gv ao.o (lT h q).1;have i0:=gv al.o (j:=0) (u:=b_ c_ op) rfl;have i2:=gv al.o (j:=2) (u:=b_ c_ N) rfl;have i3:=gv al.o (j:=3) (u:=b_ c_ K) rfl;have i4:=gv al.o (j:=4) (u:=b_ c_ n) rfl;go_upto_region 8 with(first|(go_at_call 95;(with_reducible refine(gI (h.pc+4) _ P4.o).mono ?_);rintro e w' ⟨rfl,rfl⟩)|(go_at_call 95;(with_reducible refine(gI (h.pc+n) _ PN.o).mono ?_);rintro e w' ⟨rfl,rfl⟩))
 go_wp2_with fail
 refine(pA op _).mono ?_
 obtain⟨a4,av⟩:∃ r,gB op=r:=⟨_,rfl⟩;rw[av];rw[av] at FM;obtain⟨nm,fm,lo,mi,hi⟩:=a4;have ad:=gg av;clear av;have bc:∀ w:World,(Instr.field 111 (e_ #[.string nm,.int .u8 fm,b_ c_ lo,b_ c_ mi,b_ c_ hi]) 1).run gd w = .ok (.int .u8 fm) w:=fun w=>by kernel_rfl
 rintro e w2 ⟨rfl,ai⟩;have aR:=gg (iH ai ao.o);have aN:=gg (iH ai al.o);have aS:=gg (iH ai aQ.o);have aP:=gg (iH ai aL.o);have aV:Up w w2:=(by repeat(first|(with_reducible exact Below.refl _ _)|(with_reducible refine gO ?_ ?_ _)|(with_reducible apply iS)|(with_reducible refine gj ?_ (by with_reducible assumption))|(with_reducible apply iR)|omega));have ap:w.heap.size+4≤w2.heap.size:=by have:=ai.size;omega
 clear ca cb ay i0 i2 i3 i4 ai ao al aQ aL a8 a6 w4 wn;unfold mD
 go_upto_block 0 with fail
 clear bc;change Code.wp _ _ _ _ (w2.alloc (d_ gL 131));have B:gi ((w2.alloc (d_ gL 131)).heap[w2.heap.size]? = some (d_ gL 131 (0,0))):=gg (gH w2 (d_ gL 131));have ah:Up w2 (w2.alloc (d_ gL 131)):=qm w2 (d_ gL 131);obtain⟨w3,aM⟩:∃ w3:World,w2.alloc (d_ gL 131)=w3:=⟨_,rfl⟩;rw[aM] at B ah ⊢
 have G:=gg (iH ah aR.o);have ab:=gg (iH ah aN.o);have O:=gg (iH ah aS.o);have P:=gg (iH ah aP.o);have Q:=gg (gj aV ah);obtain⟨p,aT⟩:∃ p,w2.heap.size=p:=⟨_,rfl⟩;rw[aT] at B ap ⊢
 clear aT aM ah aR aN aS aP aV
 go_cut [11] (fun s wx=>Fh w h ⟨op,d,N,K,n⟩ p s wx)

 case first=>
  have aq:gi (iy (o+n)):=gg (by have:=am.o.1;have:=am.o.2;have:=HN.o.1;have:=HN.o.2;constructor <;> omega);have az:gi (iy (h.pc+4096*n)):=gg (by have:=FF.o.pc.1.1;have:=FF.o.pc.1.2;have:=HN.o.1;have:=HN.o.2;constructor <;> omega);have bo:c_.wrap (o+n)=o+n:=IntWalk.i64_in _ (by have:=aq.o.1;have:=aq.o.2;omega);have wv:c_.wrap (4096*n)=4096*n:=IntWalk.i64_in _ (by have:=HN.o.1;have:=HN.o.2;omega);have bp:c_.wrap (h.pc+4096*n)=h.pc+4096*n:=IntWalk.i64_in _ (by have:=az.o.1;have:=az.o.2;omega);have ar:=gg (j9 am.o);have aA:=gg (j9 aU.o);have a2:gi (iy n):=gg (by have:=HN.o.1;have:=HN.o.2;constructor <;> omega);have i0:=gv ab.o (j:=0) (u:=b_ c_ op) rfl;have i1:=gv ab.o (j:=1) (u:=b_ c_ d) rfl;have i4:=gv ab.o (j:=4) (u:=b_ c_ n) rfl;have ay:=gv G.o (lT h q).1;have bf:w.heap.size+4≤p:=ap;have bm:=gn B.o;clear aC ap;rcases(by omega:op=1∨op=2∨op=3∨op=4∨(5≤op∧op≤10)∨op=11∨(op=12∨op=39∨op=46∨op=47∨op=48∨op=49∨op=43∨op=45)∨(13≤op∧op≤21)∨(22≤op∧op≤38)) with rfl|rfl|rfl|rfl|H|rfl|H|H|H
  · as_aux_lemma=>
    have PV:gi (iy (4096*n)):=gg (by have:=HN.o.1;have:=HN.o.2;constructor <;> omega)
    go_wp2_with (first|(refine wpList_load_row rfl 56 _ rfl (w.heap.size) rfl 56 (hA h) (0,0) _ G.o Tryz.underlying56 rfl (ii (gV h q)) ?_)|(go_at_call 128;((with_reducible refine(jO h d (4096*n) _ q PV.o).mono ?_);rintro e Y ⟨rfl,m⟩;have M:=gg (iH m G.o);have aa:=gg (iH m O.o);have Z:=gg (iH m P.o);have T:=gg (iH m B.o);have ac:=gg (iH m ab.o);have U:=gg (gj Q.o m);clear m))|((refine wpList_store_row rfl 56 _ _ rfl (w.heap.size) (hA (gR h d (4096*n))) rfl rfl 56 (hA h) M.o (ii (gV _ (mo q d (4096*n)))) (by rw[gV _ (mo q d (4096*n)),gV h q]) (jU _) ?_);obtain⟨l,c⟩:∃ y:World,Y.setRow w.heap.size (hA (gR h d (4096*n)))=y:=⟨_,rfl⟩;have E:gi (l.heap[w.heap.size]? = some (d_ (hA (gR h d (4096*n))) 56 (0,0))):=gg (by rw[←c];exact setRow_heap _ _ _ _ _ _ M.o);have A:=gg (by rw[←c];exact iL f_ aa.o:l.heap[w.heap.size+2]? = some (d_ zA 56 (0,0)));have D:=gg (by rw[←c];exact iL f_ Z.o:l.heap[w.heap.size+3]? = some (d_ gL 131 (0,0)));have C:=gg (by rw[←c];exact iL f_ T.o:l.heap[p]? = some (d_ gL 131 (0,0)));have I:=(by rw[←c];exact iL f_ ac.o:l.heap[w.heap.size+1]? = some (d_ #[b_ c_ 1,b_ c_ d,b_ c_ N,b_ c_ K,b_ c_ n] 72 (0,0)));have F:gi (Up w l):=gg (by rw[←c];exact below_setRow U.o fL _);have k0:=gv I (j:=0) rfl;have k4:=gv I (j:=4) rfl;try rw[c];clear c I))
    go_meet
    case rel=>exact⟨⟨_,⟨0,0,0,0,0⟩,by simp[m_],by simp only[Int.toNat_natCast];unfold jr;rw[if_pos rfl];exact CX _ _ _ _ (by rw[Int.mul_comm]),by simp[jG],E.o,C.o⟩,A.o,D.o,F.o⟩
  · as_aux_lemma=>
    have PV:gi (iy (h.pc+4096*n)):=gg (az.o)
    go_wp2_with (first|(refine wpList_load_row rfl 56 _ rfl (w.heap.size) rfl 56 (hA h) (0,0) _ G.o Tryz.underlying56 rfl (ii (gV h q)) ?_)|(go_at_call 128;((with_reducible refine(jO h d (h.pc+4096*n) _ q PV.o).mono ?_);rintro e Y ⟨rfl,m⟩;have M:=gg (iH m G.o);have aa:=gg (iH m O.o);have Z:=gg (iH m P.o);have T:=gg (iH m B.o);have ac:=gg (iH m ab.o);have U:=gg (gj Q.o m);clear m))|((refine wpList_store_row rfl 56 _ _ rfl (w.heap.size) (hA (gR h d (h.pc+4096*n))) rfl rfl 56 (hA h) M.o (ii (gV _ (mo q d (h.pc+4096*n)))) (by rw[gV _ (mo q d (h.pc+4096*n)),gV h q]) (jU _) ?_);obtain⟨l,c⟩:∃ y:World,Y.setRow w.heap.size (hA (gR h d (h.pc+4096*n)))=y:=⟨_,rfl⟩;have E:gi (l.heap[w.heap.size]? = some (d_ (hA (gR h d (h.pc+4096*n))) 56 (0,0))):=gg (by rw[←c];exact setRow_heap _ _ _ _ _ _ M.o);have A:=gg (by rw[←c];exact iL f_ aa.o:l.heap[w.heap.size+2]? = some (d_ zA 56 (0,0)));have D:=gg (by rw[←c];exact iL f_ Z.o:l.heap[w.heap.size+3]? = some (d_ gL 131 (0,0)));have C:=gg (by rw[←c];exact iL f_ T.o:l.heap[p]? = some (d_ gL 131 (0,0)));have I:=(by rw[←c];exact iL f_ ac.o:l.heap[w.heap.size+1]? = some (d_ #[b_ c_ 2,b_ c_ d,b_ c_ N,b_ c_ K,b_ c_ n] 72 (0,0)));have F:gi (Up w l):=gg (by rw[←c];exact below_setRow U.o fL _);have k0:=gv I (j:=0) rfl;have k4:=gv I (j:=4) rfl;try rw[c];clear c I))
    go_meet
    case rel=>exact⟨⟨_,⟨0,0,0,0,0⟩,by simp[m_],by simp only[Int.toNat_natCast];unfold jr;rw[if_neg gb,if_pos rfl];exact CX _ _ _ _ (by rw[Int.mul_comm]),by simp[jG],E.o,C.o⟩,A.o,D.o,F.o⟩
  · as_aux_lemma=>
    have PV:gi (iy (wrap32 (h.pc+4))):=gg (j9 (gG _))
    go_wp2_with (first|(refine wpList_load_row rfl 56 _ rfl (w.heap.size) rfl 56 (hA h) (0,0) _ G.o Tryz.underlying56 rfl (ii (gV h q)) ?_)|(go_at_call 128;((with_reducible refine(jO h d (wrap32 (h.pc+4)) _ q PV.o).mono ?_);rintro e Y ⟨rfl,m⟩;have M:=gg (iH m G.o);have aa:=gg (iH m O.o);have Z:=gg (iH m P.o);have T:=gg (iH m B.o);have ac:=gg (iH m ab.o);have U:=gg (gj Q.o m);clear m))|((refine wpList_store_row rfl 56 _ _ rfl (w.heap.size) (hA (gR h d (wrap32 (h.pc+4)))) rfl rfl 56 (hA h) M.o (ii (gV _ (mo q d (wrap32 (h.pc+4))))) (by rw[gV _ (mo q d (wrap32 (h.pc+4))),gV h q]) (jU _) ?_);obtain⟨l,c⟩:∃ y:World,Y.setRow w.heap.size (hA (gR h d (wrap32 (h.pc+4))))=y:=⟨_,rfl⟩;have E:gi (l.heap[w.heap.size]? = some (d_ (hA (gR h d (wrap32 (h.pc+4)))) 56 (0,0))):=gg (by rw[←c];exact setRow_heap _ _ _ _ _ _ M.o);have A:=gg (by rw[←c];exact iL f_ aa.o:l.heap[w.heap.size+2]? = some (d_ zA 56 (0,0)));have D:=gg (by rw[←c];exact iL f_ Z.o:l.heap[w.heap.size+3]? = some (d_ gL 131 (0,0)));have C:=gg (by rw[←c];exact iL f_ T.o:l.heap[p]? = some (d_ gL 131 (0,0)));have I:=(by rw[←c];exact iL f_ ac.o:l.heap[w.heap.size+1]? = some (d_ #[b_ c_ 3,b_ c_ d,b_ c_ N,b_ c_ K,b_ c_ n] 72 (0,0)));have F:gi (Up w l):=gg (by rw[←c];exact below_setRow U.o fL _);have k0:=gv I (j:=0) rfl;have k4:=gv I (j:=4) rfl;try rw[c];clear c I))
    go_meet
    case rel=>exact⟨⟨_,⟨0,0,0,0,0⟩,by simp[m_],by simp only[Int.toNat_natCast];unfold jr;rw[if_neg gb,if_neg gb,if_pos gb];exact CX _ _ _ _ (iW (gG _)),by simp[jG],E.o,C.o⟩,A.o,D.o,F.o⟩
  · as_aux_lemma=>
    have PV:gi (iy (wrap32 (h.pc+4))):=gg (j9 (gG _))
    go_wp2_with (first|(refine wpList_load_row rfl 56 _ rfl (w.heap.size) rfl 56 (hA h) (0,0) _ G.o Tryz.underlying56 rfl (ii (gV h q)) ?_)|(go_at_call 128;((with_reducible refine(jO h d (wrap32 (h.pc+4)) _ q PV.o).mono ?_);rintro e Y ⟨rfl,m⟩;have M:=gg (iH m G.o);have aa:=gg (iH m O.o);have Z:=gg (iH m P.o);have T:=gg (iH m B.o);have ac:=gg (iH m ab.o);have U:=gg (gj Q.o m);clear m))|((refine wpList_store_row rfl 56 _ _ rfl (w.heap.size) (hA (gR h d (wrap32 (h.pc+4)))) rfl rfl 56 (hA h) M.o (ii (gV _ (mo q d (wrap32 (h.pc+4))))) (by rw[gV _ (mo q d (wrap32 (h.pc+4))),gV h q]) (jU _) ?_);obtain⟨l,c⟩:∃ y:World,Y.setRow w.heap.size (hA (gR h d (wrap32 (h.pc+4))))=y:=⟨_,rfl⟩;have E:gi (l.heap[w.heap.size]? = some (d_ (hA (gR h d (wrap32 (h.pc+4)))) 56 (0,0))):=gg (by rw[←c];exact setRow_heap _ _ _ _ _ _ M.o);have A:=gg (by rw[←c];exact iL f_ aa.o:l.heap[w.heap.size+2]? = some (d_ zA 56 (0,0)));have D:=gg (by rw[←c];exact iL f_ Z.o:l.heap[w.heap.size+3]? = some (d_ gL 131 (0,0)));have C:=gg (by rw[←c];exact iL f_ T.o:l.heap[p]? = some (d_ gL 131 (0,0)));have I:=(by rw[←c];exact iL f_ ac.o:l.heap[w.heap.size+1]? = some (d_ #[b_ c_ 4,b_ c_ d,b_ c_ N,b_ c_ K,b_ c_ n] 72 (0,0)));have F:gi (Up w l):=gg (by rw[←c];exact below_setRow U.o fL _);have k0:=gv I (j:=0) rfl;have k4:=gv I (j:=4) rfl;try rw[c];clear c I)|(go_at_call 99;((with_reducible refine(iw 6 (o+n) (-2) _ aq.o fZ).mono ?_);rintro e w' ⟨rfl,rfl⟩)))
    go_meet
    case rel=>exact⟨⟨_,⟨0,0,0,0,0⟩,by simp only[Int.toNat_natCast];unfold m_;rw[if_neg gb,if_pos rfl,R.o];exact congrArg _ (ym _ ⟨by decide,by decide⟩),by simp only[Int.toNat_natCast];unfold jr;rw[if_neg gb,if_neg gb,if_pos gb];exact CX _ _ _ _ (iW (gG _)),by simp[jG],E.o,C.o⟩,A.o,D.o,F.o⟩
  · as_aux_lemma=>
    have an:=FM.o.1 H
    try simp only at an
    subst an;have HG:=gg H;obtain⟨J,hJ⟩:∃ y,A_ op o z=y:=⟨_,rfl⟩;have HJ:=gg hJ;have q1:(op == 1)=false:=fS f_;have q2:(op == 2)=false:=fS f_;have q3:(op == 3)=false:=fS f_;have q4:(op == 4)=false:=fS f_;clear hJ H;cases J
    · go_wp2_with (go_at_call 129;((with_reducible refine(ts op o z false _ HG.o ar.o aA.o HJ.o).mono ?_);rintro e w' ⟨rfl,rfl⟩))
      go_meet
      case rel=>
       have H:=HG.o;exact⟨⟨h,⟨0,0,0,0,0⟩,by simp only[Int.toNat_natCast];unfold m_;rw[R.o,S.o,if_neg (by rintro(h|h);(simp only at h;omega);(have:=h.2.2;rw[HJ.o] at this;cases this)),if_neg (by simp only;omega)],by simp only[Int.toNat_natCast];unfold jr;simp only;repeat rw[if_neg f_],by simp only[Int.toNat_natCast];unfold jG;simp only;repeat rw[if_neg f_],G.o,B.o⟩,O.o,P.o,Q.o⟩
    · go_wp2_with (go_at_call 129;((with_reducible refine(ts op o z true _ HG.o ar.o aA.o HJ.o).mono ?_);rintro e w' ⟨rfl,rfl⟩))
      go_meet
      case rel=>
       have H:=HG.o;exact⟨⟨h,⟨0,0,0,0,0⟩,by simp only[Int.toNat_natCast];unfold m_;rw[R.o,S.o,if_pos (.inr ⟨H.1,H.2,HJ.o⟩)],by simp only[Int.toNat_natCast];unfold jr;simp only;repeat rw[if_neg f_],by simp only[Int.toNat_natCast];unfold jG;simp only;repeat rw[if_neg f_],G.o,B.o⟩,O.o,P.o,Q.o⟩
  · as_aux_lemma=>
    have t:fm=(gB 11).form:=by rw[ad.o]
    have af:(fm == 66)=false:=by rw[t];decide +kernel
    have ae:(fm == 67)=false:=by rw[t];decide +kernel
    clear t;go_upto_region 27 with(fail)
    have r1:=fun x=>gD (gn ab.o) i1 x
    have r4:=fun x=>gD (gn ab.o) i4 x
    clear i0 i1 i4 ay;refine ov 8 ga ga ?_
    simp only[List.take_succ_cons,List.take_zero,List.drop_succ_cons,List.drop_zero];repeat(go_big_quiet_step ((go_at_call 95;with_reducible exact oA (gI (o+n) _ aq.o))))
    refine wpQuiet_nil ?_
    rintro Y ⟨⟨bn,m⟩,rfl⟩;have M:=gg (iH m G.o);have aa:=gg (iH m O.o);have Z:=gg (iH m P.o);have T:=gg (iH m B.o);have U:=gg (gj Q.o m);clear r1 r4 m
    go_wp2_with ((refine wpList_store_row rfl 131 _ _ rfl p #[b_ c_ 1,b_ c_ d,b_ c_ (wrap32 (o+n)),b_ c_ 0,b_ c_ 0] rfl rfl 131 gL T.o ga rfl ga ?_);obtain⟨l,c⟩:∃ y:World,Y.setRow p #[b_ c_ 1,b_ c_ d,b_ c_ (wrap32 (o+n)),b_ c_ 0,b_ c_ 0]=y:=⟨_,rfl⟩;have E:=gg (by rw[←c];exact iL f_ M.o:l.heap[w.heap.size]? = some (d_ (hA h) 56 (0,0)));have A:=gg (by rw[←c];exact iL f_ aa.o:l.heap[w.heap.size+2]? = some (d_ zA 56 (0,0)));have D:=gg (by rw[←c];exact iL f_ Z.o:l.heap[w.heap.size+3]? = some (d_ gL 131 (0,0)));have C:=gg (by rw[←c];exact setRow_heap _ _ _ _ _ _ T.o:l.heap[p]? = some (d_ #[b_ c_ 1,b_ c_ d,b_ c_ (wrap32 (o+n)),b_ c_ 0,b_ c_ 0] 131 (0,0)));have F:=gg (by rw[←c];exact below_setRow U.o f_ _:Up w l);try rw[c];clear c)
    go_meet
    case rel=>exact⟨⟨h,⟨1,d,wrap32 (o+n),0,0⟩,by simp[m_],by simp[jr],by simp only[Int.toNat_natCast,R.o,S.o];simp[jG],E.o,C.o⟩,A.o,D.o,F.o⟩
  · rcases H with rfl|rfl|rfl|rfl|rfl|rfl|rfl|rfl
    · as_aux_lemma=>
      have t:fm=(gB 12).form:=by rw[ad.o]
      have af:(fm == 66)=false:=by rw[t];decide +kernel
      have ae:(fm == 67)=false:=by rw[t];decide +kernel
      clear t
      go_wp2_with (first|((refine wpList_store_row rfl 131 _ _ rfl p #[b_ c_ 2,b_ c_ 0,b_ c_ (wrap32 (o+n)),b_ c_ z,b_ c_ 0] rfl rfl 131 gL B.o ga rfl ga ?_);obtain⟨l,c⟩:∃ y:World,w3.setRow p #[b_ c_ 2,b_ c_ 0,b_ c_ (wrap32 (o+n)),b_ c_ z,b_ c_ 0]=y:=⟨_,rfl⟩;have E:=gg (by rw[←c];exact iL f_ G.o:l.heap[w.heap.size]? = some (d_ (hA h) 56 (0,0)));have A:=gg (by rw[←c];exact iL f_ O.o:l.heap[w.heap.size+2]? = some (d_ zA 56 (0,0)));have D:=gg (by rw[←c];exact iL f_ P.o:l.heap[w.heap.size+3]? = some (d_ gL 131 (0,0)));have C:=gg (by rw[←c];exact setRow_heap _ _ _ _ _ _ B.o:l.heap[p]? = some (d_ #[b_ c_ 2,b_ c_ 0,b_ c_ (wrap32 (o+n)),b_ c_ z,b_ c_ 0] 131 (0,0)));have F:=gg (by rw[←c];exact below_setRow Q.o f_ _:Up w l);try rw[c];clear c)|(go_at_call 95;((with_reducible refine(gI (o+n) _ aq.o).mono ?_);rintro e w' ⟨rfl,rfl⟩)))
      go_meet
      case rel=>exact⟨⟨h,⟨2,0,wrap32 (o+n),z,0⟩,by simp[m_],by simp[jr],by simp only[Int.toNat_natCast,R.o,S.o];simp[jG],E.o,C.o⟩,A.o,D.o,F.o⟩
    · as_aux_lemma=>
      have t:fm=(gB 39).form:=by rw[ad.o]
      have af:(fm == 66)=false:=by rw[t];decide +kernel
      have ae:(fm == 67)=false:=by rw[t];decide +kernel
      clear t
      go_wp2_with (first|((refine wpList_store_row rfl 131 _ _ rfl p #[b_ c_ 6,b_ c_ 0,b_ c_ 0,b_ c_ 0,b_ c_ 0] rfl rfl 131 gL B.o ga rfl ga ?_);obtain⟨l,c⟩:∃ y:World,w3.setRow p #[b_ c_ 6,b_ c_ 0,b_ c_ 0,b_ c_ 0,b_ c_ 0]=y:=⟨_,rfl⟩;have E:=gg (by rw[←c];exact iL f_ G.o:l.heap[w.heap.size]? = some (d_ (hA h) 56 (0,0)));have A:=gg (by rw[←c];exact iL f_ O.o:l.heap[w.heap.size+2]? = some (d_ zA 56 (0,0)));have D:=gg (by rw[←c];exact iL f_ P.o:l.heap[w.heap.size+3]? = some (d_ gL 131 (0,0)));have C:=gg (by rw[←c];exact setRow_heap _ _ _ _ _ _ B.o:l.heap[p]? = some (d_ #[b_ c_ 6,b_ c_ 0,b_ c_ 0,b_ c_ 0,b_ c_ 0] 131 (0,0)));have F:=gg (by rw[←c];exact below_setRow Q.o f_ _:Up w l);try rw[c];clear c))
      go_meet
      case rel=>exact⟨⟨h,⟨6,0,0,0,0⟩,by simp[m_],by simp[jr],by simp only[Int.toNat_natCast,R.o,S.o];simp[jG],E.o,C.o⟩,A.o,D.o,F.o⟩
    · as_aux_lemma=>
      have t:fm=(gB 46).form:=by rw[ad.o]
      have af:(fm == 66)=false:=by rw[t];decide +kernel
      have ae:(fm == 67)=false:=by rw[t];decide +kernel
      clear t
      go_wp2_with (first|((refine wpList_store_row rfl 131 _ _ rfl p #[b_ c_ 3,b_ c_ d,b_ c_ o,b_ c_ 0,b_ c_ 0] rfl rfl 131 gL B.o ga rfl ga ?_);obtain⟨l,c⟩:∃ y:World,w3.setRow p #[b_ c_ 3,b_ c_ d,b_ c_ o,b_ c_ 0,b_ c_ 0]=y:=⟨_,rfl⟩;have E:=gg (by rw[←c];exact iL f_ G.o:l.heap[w.heap.size]? = some (d_ (hA h) 56 (0,0)));have A:=gg (by rw[←c];exact iL f_ O.o:l.heap[w.heap.size+2]? = some (d_ zA 56 (0,0)));have D:=gg (by rw[←c];exact iL f_ P.o:l.heap[w.heap.size+3]? = some (d_ gL 131 (0,0)));have C:=gg (by rw[←c];exact setRow_heap _ _ _ _ _ _ B.o:l.heap[p]? = some (d_ #[b_ c_ 3,b_ c_ d,b_ c_ o,b_ c_ 0,b_ c_ 0] 131 (0,0)));have F:=gg (by rw[←c];exact below_setRow Q.o f_ _:Up w l);try rw[c];clear c))
      go_meet
      case rel=>exact⟨⟨h,⟨3,d,o,0,0⟩,by simp[m_],by simp[jr],by simp only[Int.toNat_natCast,R.o,S.o];simp[jG],E.o,C.o⟩,A.o,D.o,F.o⟩
    · as_aux_lemma=>
      have t:fm=(gB 47).form:=by rw[ad.o]
      have af:(fm == 66)=false:=by rw[t];decide +kernel
      have ae:(fm == 67)=false:=by rw[t];decide +kernel
      clear t
      go_wp2_with (first|((refine wpList_store_row rfl 131 _ _ rfl p #[b_ c_ 4,b_ c_ d,b_ c_ o,b_ c_ z,b_ c_ 0] rfl rfl 131 gL B.o ga rfl ga ?_);obtain⟨l,c⟩:∃ y:World,w3.setRow p #[b_ c_ 4,b_ c_ d,b_ c_ o,b_ c_ z,b_ c_ 0]=y:=⟨_,rfl⟩;have E:=gg (by rw[←c];exact iL f_ G.o:l.heap[w.heap.size]? = some (d_ (hA h) 56 (0,0)));have A:=gg (by rw[←c];exact iL f_ O.o:l.heap[w.heap.size+2]? = some (d_ zA 56 (0,0)));have D:=gg (by rw[←c];exact iL f_ P.o:l.heap[w.heap.size+3]? = some (d_ gL 131 (0,0)));have C:=gg (by rw[←c];exact setRow_heap _ _ _ _ _ _ B.o:l.heap[p]? = some (d_ #[b_ c_ 4,b_ c_ d,b_ c_ o,b_ c_ z,b_ c_ 0] 131 (0,0)));have F:=gg (by rw[←c];exact below_setRow Q.o f_ _:Up w l);try rw[c];clear c))
      go_meet
      case rel=>exact⟨⟨h,⟨4,d,o,z,0⟩,by simp[m_],by simp[jr],by simp only[Int.toNat_natCast,R.o,S.o];simp[jG],E.o,C.o⟩,A.o,D.o,F.o⟩
    · as_aux_lemma=>
      have t:fm=(gB 48).form:=by rw[ad.o]
      have af:(fm == 66)=false:=by rw[t];decide +kernel
      have ae:(fm == 67)=false:=by rw[t];decide +kernel
      clear t
      go_wp2_with (first|((refine wpList_store_row rfl 131 _ _ rfl p #[b_ c_ 5,b_ c_ d,b_ c_ o,b_ c_ z,b_ c_ 0] rfl rfl 131 gL B.o ga rfl ga ?_);obtain⟨l,c⟩:∃ y:World,w3.setRow p #[b_ c_ 5,b_ c_ d,b_ c_ o,b_ c_ z,b_ c_ 0]=y:=⟨_,rfl⟩;have E:=gg (by rw[←c];exact iL f_ G.o:l.heap[w.heap.size]? = some (d_ (hA h) 56 (0,0)));have A:=gg (by rw[←c];exact iL f_ O.o:l.heap[w.heap.size+2]? = some (d_ zA 56 (0,0)));have D:=gg (by rw[←c];exact iL f_ P.o:l.heap[w.heap.size+3]? = some (d_ gL 131 (0,0)));have C:=gg (by rw[←c];exact setRow_heap _ _ _ _ _ _ B.o:l.heap[p]? = some (d_ #[b_ c_ 5,b_ c_ d,b_ c_ o,b_ c_ z,b_ c_ 0] 131 (0,0)));have F:=gg (by rw[←c];exact below_setRow Q.o f_ _:Up w l);try rw[c];clear c))
      go_meet
      case rel=>exact⟨⟨h,⟨5,d,o,z,0⟩,by simp[m_],by simp[jr],by simp only[Int.toNat_natCast,R.o,S.o];simp[jG],E.o,C.o⟩,A.o,D.o,F.o⟩
    · as_aux_lemma=>
      have t:fm=(gB 49).form:=by rw[ad.o]
      have af:(fm == 66)=false:=by rw[t];decide +kernel
      have ae:(fm == 67)=false:=by rw[t];decide +kernel
      clear t
      go_wp2_with (first|((refine wpList_store_row rfl 131 _ _ rfl p #[b_ c_ 5,b_ c_ d,b_ c_ o,b_ c_ z,b_ c_ 1] rfl rfl 131 gL B.o ga rfl ga ?_);obtain⟨l,c⟩:∃ y:World,w3.setRow p #[b_ c_ 5,b_ c_ d,b_ c_ o,b_ c_ z,b_ c_ 1]=y:=⟨_,rfl⟩;have E:=gg (by rw[←c];exact iL f_ G.o:l.heap[w.heap.size]? = some (d_ (hA h) 56 (0,0)));have A:=gg (by rw[←c];exact iL f_ O.o:l.heap[w.heap.size+2]? = some (d_ zA 56 (0,0)));have D:=gg (by rw[←c];exact iL f_ P.o:l.heap[w.heap.size+3]? = some (d_ gL 131 (0,0)));have C:=gg (by rw[←c];exact setRow_heap _ _ _ _ _ _ B.o:l.heap[p]? = some (d_ #[b_ c_ 5,b_ c_ d,b_ c_ o,b_ c_ z,b_ c_ 1] 131 (0,0)));have F:=gg (by rw[←c];exact below_setRow Q.o f_ _:Up w l);try rw[c];clear c))
      go_meet
      case rel=>exact⟨⟨h,⟨5,d,o,z,1⟩,by simp[m_],by simp[jr],by simp only[Int.toNat_natCast,R.o,S.o];simp[jG],E.o,C.o⟩,A.o,D.o,F.o⟩
    · as_aux_lemma=>
      have t:fm=(gB 43).form:=by rw[ad.o]
      have af:(fm == 66)=false:=by rw[t];decide +kernel
      have ae:(fm == 67)=false:=by rw[t];decide +kernel
      clear t
      go_wp2_with (first|((refine wpList_store_row rfl 131 _ _ rfl p #[b_ c_ 7,b_ c_ 0,b_ c_ 0,b_ c_ 0,b_ c_ 0] rfl rfl 131 gL B.o ga rfl ga ?_);obtain⟨l,c⟩:∃ y:World,w3.setRow p #[b_ c_ 7,b_ c_ 0,b_ c_ 0,b_ c_ 0,b_ c_ 0]=y:=⟨_,rfl⟩;have E:=gg (by rw[←c];exact iL f_ G.o:l.heap[w.heap.size]? = some (d_ (hA h) 56 (0,0)));have A:=gg (by rw[←c];exact iL f_ O.o:l.heap[w.heap.size+2]? = some (d_ zA 56 (0,0)));have D:=gg (by rw[←c];exact iL f_ P.o:l.heap[w.heap.size+3]? = some (d_ gL 131 (0,0)));have C:=gg (by rw[←c];exact setRow_heap _ _ _ _ _ _ B.o:l.heap[p]? = some (d_ #[b_ c_ 7,b_ c_ 0,b_ c_ 0,b_ c_ 0,b_ c_ 0] 131 (0,0)));have F:=gg (by rw[←c];exact below_setRow Q.o f_ _:Up w l);try rw[c];clear c))
      go_meet
      case rel=>exact⟨⟨h,⟨7,0,0,0,0⟩,by simp[m_],by simp[jr],by simp only[Int.toNat_natCast,R.o,S.o];simp[jG],E.o,C.o⟩,A.o,D.o,F.o⟩
    · as_aux_lemma=>
      have t:fm=(gB 45).form:=by rw[ad.o]
      have af:(fm == 66)=false:=by rw[t];decide +kernel
      have ae:(fm == 67)=false:=by rw[t];decide +kernel
      clear t
      go_wp2_with (first|((refine wpList_store_row rfl 131 _ _ rfl p #[b_ c_ 8,b_ c_ 0,b_ c_ 0,b_ c_ 0,b_ c_ 0] rfl rfl 131 gL B.o ga rfl ga ?_);obtain⟨l,c⟩:∃ y:World,w3.setRow p #[b_ c_ 8,b_ c_ 0,b_ c_ 0,b_ c_ 0,b_ c_ 0]=y:=⟨_,rfl⟩;have E:=gg (by rw[←c];exact iL f_ G.o:l.heap[w.heap.size]? = some (d_ (hA h) 56 (0,0)));have A:=gg (by rw[←c];exact iL f_ O.o:l.heap[w.heap.size+2]? = some (d_ zA 56 (0,0)));have D:=gg (by rw[←c];exact iL f_ P.o:l.heap[w.heap.size+3]? = some (d_ gL 131 (0,0)));have C:=gg (by rw[←c];exact setRow_heap _ _ _ _ _ _ B.o:l.heap[p]? = some (d_ #[b_ c_ 8,b_ c_ 0,b_ c_ 0,b_ c_ 0,b_ c_ 0] 131 (0,0)));have F:=gg (by rw[←c];exact below_setRow Q.o f_ _:Up w l);try rw[c];clear c))
      go_meet
      case rel=>exact⟨⟨h,⟨8,0,0,0,0⟩,by simp[m_],by simp[jr],by simp only[Int.toNat_natCast,R.o,S.o];simp[jG],E.o,C.o⟩,A.o,D.o,F.o⟩
  · as_aux_lemma=>
    obtain⟨f1,f2,f3⟩:=FM.o.2.2.2 H
    try simp only at f1 f2 f3
    have PV:=gg (oL op o n (j9 am.o));have aF:gi (13≤op∧op≤38):=gg f_;have HG:=gg H;have q1:(op == 1)=false:=fS f_;have q2:(op == 2)=false:=fS f_;have q3:(op == 3)=false:=fS f_;have q4:(op == 4)=false:=fS f_;have bk:(op == 11)=false:=fS f_;have a1:(op == 12)=false:=fS f_;have aW:(op == 39)=false:=fS f_;have ba:(op == 46)=false:=fS f_;have bb:(op == 47)=false:=fS f_;have aZ:(op == 48)=false:=fS f_;have be:(op == 49)=false:=fS f_;have bh:(op == 43)=false:=fS f_;have a5:(op == 45)=false:=fS f_;have a9:(op == 44)=false:=fS f_;clear H
    go_wp2_with (first|(refine wpList_load_row rfl 56 _ rfl (w.heap.size) rfl 56 (hA h) (0,0) _ G.o Tryz.underlying56 rfl (ii (gV h q)) ?_)|(go_at_call 128;((with_reducible refine(jO h d (lV op o n) _ q PV.o).mono ?_);rintro e Y ⟨rfl,m⟩;have M:=gg (iH m G.o);have aa:=gg (iH m O.o);have Z:=gg (iH m P.o);have T:=gg (iH m B.o);have ac:=gg (iH m ab.o);have U:=gg (gj Q.o m);clear m))|((refine wpList_store_row rfl 56 _ _ rfl (w.heap.size) (hA (gR h d (lV op o n))) rfl rfl 56 (hA h) M.o (ii (gV _ (mo q d (lV op o n)))) (by rw[gV _ (mo q d (lV op o n)),gV h q]) (jU _) ?_);obtain⟨l,c⟩:∃ y:World,Y.setRow w.heap.size (hA (gR h d (lV op o n)))=y:=⟨_,rfl⟩;have E:gi (l.heap[w.heap.size]? = some (d_ (hA (gR h d (lV op o n))) 56 (0,0))):=gg (by rw[←c];exact setRow_heap _ _ _ _ _ _ M.o);have A:=gg (by rw[←c];exact iL f_ aa.o:l.heap[w.heap.size+2]? = some (d_ zA 56 (0,0)));have D:=gg (by rw[←c];exact iL f_ Z.o:l.heap[w.heap.size+3]? = some (d_ gL 131 (0,0)));have C:=gg (by rw[←c];exact iL f_ T.o:l.heap[p]? = some (d_ gL 131 (0,0)));have I:=(by rw[←c];exact iL f_ ac.o:l.heap[w.heap.size+1]? = some (d_ #[b_ c_ op,b_ c_ d,b_ c_ N,b_ c_ K,b_ c_ n] 72 (0,0)));have F:gi (Up w l):=gg (by rw[←c];exact below_setRow U.o fL _);have k0:=gv I (j:=0) rfl;have k4:=gv I (j:=4) rfl;try rw[c];clear c I)|(go_at_call 132;((with_reducible refine(nX op o n _ aF.o ar.o a2.o).mono ?_);rintro e w' ⟨rfl,rfl⟩)))
    go_meet
    case rel=>
     have H:=HG.o;exact⟨⟨_,⟨0,0,0,0,0⟩,by simp only[Int.toNat_natCast];unfold m_;rw[if_neg (by rintro(h|h);(simp only at h;omega);(have h1:=h.2.1;simp only at h1;omega)),if_neg (by simp only;omega)],by simp only[Int.toNat_natCast,R.o,S.o];unfold jr;simp only;rw[if_neg f_,if_neg f_,if_neg f_,if_pos H],by simp only[Int.toNat_natCast];unfold jG;simp only;repeat rw[if_neg f_],E.o,C.o⟩,A.o,D.o,F.o⟩
  · as_aux_lemma=>
    have an:=FM.o.2.2.1 H
    try simp only at an
    subst an;have PV:=gg (oL op o z (j9 am.o));have aF:gi (13≤op∧op≤38):=gg f_;have HG:=gg H;have q1:(op == 1)=false:=fS f_;have q2:(op == 2)=false:=fS f_;have q3:(op == 3)=false:=fS f_;have q4:(op == 4)=false:=fS f_;have bk:(op == 11)=false:=fS f_;have a1:(op == 12)=false:=fS f_;have aW:(op == 39)=false:=fS f_;have ba:(op == 46)=false:=fS f_;have bb:(op == 47)=false:=fS f_;have aZ:(op == 48)=false:=fS f_;have be:(op == 49)=false:=fS f_;have bh:(op == 43)=false:=fS f_;have a5:(op == 45)=false:=fS f_;have a9:(op == 44)=false:=fS f_;clear H
    go_wp2_with (first|(refine wpList_load_row rfl 56 _ rfl (w.heap.size) rfl 56 (hA h) (0,0) _ G.o Tryz.underlying56 rfl (ii (gV h q)) ?_)|(go_at_call 128;((with_reducible refine(jO h d (lV op o z) _ q PV.o).mono ?_);rintro e Y ⟨rfl,m⟩;have M:=gg (iH m G.o);have aa:=gg (iH m O.o);have Z:=gg (iH m P.o);have T:=gg (iH m B.o);have ac:=gg (iH m ab.o);have U:=gg (gj Q.o m);clear m))|((refine wpList_store_row rfl 56 _ _ rfl (w.heap.size) (hA (gR h d (lV op o z))) rfl rfl 56 (hA h) M.o (ii (gV _ (mo q d (lV op o z)))) (by rw[gV _ (mo q d (lV op o z)),gV h q]) (jU _) ?_);obtain⟨l,c⟩:∃ y:World,Y.setRow w.heap.size (hA (gR h d (lV op o z)))=y:=⟨_,rfl⟩;have E:gi (l.heap[w.heap.size]? = some (d_ (hA (gR h d (lV op o z))) 56 (0,0))):=gg (by rw[←c];exact setRow_heap _ _ _ _ _ _ M.o);have A:=gg (by rw[←c];exact iL f_ aa.o:l.heap[w.heap.size+2]? = some (d_ zA 56 (0,0)));have D:=gg (by rw[←c];exact iL f_ Z.o:l.heap[w.heap.size+3]? = some (d_ gL 131 (0,0)));have C:=gg (by rw[←c];exact iL f_ T.o:l.heap[p]? = some (d_ gL 131 (0,0)));have I:=(by rw[←c];exact iL f_ ac.o:l.heap[w.heap.size+1]? = some (d_ #[b_ c_ op,b_ c_ d,b_ c_ N,b_ c_ K,b_ c_ n] 72 (0,0)));have F:gi (Up w l):=gg (by rw[←c];exact below_setRow U.o fL _);have k0:=gv I (j:=0) rfl;have k4:=gv I (j:=4) rfl;try rw[c];clear c I)|(go_at_call 132;((with_reducible refine(nX op o z _ aF.o ar.o aA.o).mono ?_);rintro e w' ⟨rfl,rfl⟩)))
    go_meet
    case rel=>
     have H:=HG.o;exact⟨⟨_,⟨0,0,0,0,0⟩,by simp only[Int.toNat_natCast];unfold m_;rw[if_neg (by rintro(h|h);(simp only at h;omega);(have h1:=h.2.1;simp only at h1;omega)),if_neg (by simp only;omega)],by simp only[Int.toNat_natCast,R.o,S.o];unfold jr;simp only;rw[if_neg f_,if_neg f_,if_neg f_,if_neg f_,if_pos H],by simp only[Int.toNat_natCast];unfold jG;simp only;repeat rw[if_neg f_],E.o,C.o⟩,A.o,D.o,F.o⟩
 case rest=>
  as_aux_lemma=>
  obtain⟨⟨g,⟨e0,e1,X,V,W⟩,rfl,H,he,hx,hp⟩,hz,hy,hb⟩:=hcut;obtain⟨nx,aG⟩:∃ y,y=m_ h.pc ⟨op,d,N,K,n⟩ (h.r.getD N 0) (h.r.getD K 0):=⟨_,rfl⟩;obtain⟨L,hh7⟩:∃ y:Ht,{ g with pc:=nx }=y:=⟨_,rfl⟩;have HS:gi (SN=(L,⟨e0,e1,X,V,W⟩)):=gg (by rw[aC.o,←hh7,H,he,aG];rfl);have hl:g.r.length=32:=by rw[H];exact(qr h _ _ _).trans q
  simp only[Int.toNat_natCast];rw[←aG];have HX:=gg hx;have HP:=gg hp;have HZ:=gg hz;have HY:=gg hy;have HB:=gg hb;simp only at hp;have bf:w.heap.size+4≤p:=ap;clear hx hp hz hy hb H he aG aC FM P4 PN am aU R S G ab O P B Q HR FF HN ap;have aX:=gv HX.o (lT g hl).1;have bi:=gC HX.o 32;have lx:=gn HX.o;obtain⟨w7,ag⟩:∃ y:World,wc.setCell ⟨w.heap.size,32,none⟩ (b_ c_ nx)=y:=⟨_,rfl⟩;have X7:gi (w7.heap[w.heap.size]? = some (d_ (hA L) 56 (0,0))):=gg (by rw[←ag,←hh7];exact mT HX.o 32 (b_ c_ nx) _ (Bb g hl nx));have Z7:gi (w7.heap[w.heap.size+2]? = some (d_ zA 56 (0,0))):=gg (by rw[←ag];exact jL f_ HZ.o);have Y7:gi (w7.heap[w.heap.size+3]? = some (d_ gL 131 (0,0))):=gg (by rw[←ag];exact jL f_ HY.o);have N7:gi (w7.heap[p]? = some (d_ #[b_ c_ e0,b_ c_ e1,b_ c_ X,b_ c_ V,b_ c_ W] 131 (0,0))):=gg (by rw[←ag];exact jL f_ HP.o);have B7:gi (Up w w7):=gg (by rw[←ag];exact gO HB.o fL _);have ax:gi (L.r.length=32):=gg (by rw[←hh7];exact hl);go_upto_region 52 with(fail)
  try rw[ag]
  clear ag hh7 aX bi lx HX HZ HY HP HB hl;refine fX (fun w'=>w'.heap[w.heap.size]? = some (d_ (hA L) 56 (0,0))∧w'.heap[p]? = some (d_ #[b_ c_ e0,b_ c_ e1,b_ c_ X,b_ c_ V,b_ c_ W] 131 (0,0))) [true,true,false,false] (fun a b h hu=>⟨iH hu h.1,iH hu h.2⟩) ⟨X7.o,N7.o⟩ ?ra ?rh ?rt
  case rh=>
   intro w0 h0
   have R0:gi (∀ w':World,(∃ x:Wd w0,w'=x.val)→(loadVar 56 ⟨w.heap.size,0,none⟩).run gd w' = .ok (e_ (hA L)) w'):=by
    rintro w' ⟨x,rfl⟩;exact run_loadVar_row _ _ 56 56 (hA L) (0,0) _ (iE x.bel (gn h0.1) h0.1) Tryz.underlying56 rfl (ii (gV L ax.o))
   have R1:gi (∀ w':World,(∃ x:Wd w0,w'=x.val)→(loadVar 131 ⟨p,0,none⟩).run gd w' = .ok (e_ #[b_ c_ e0,b_ c_ e1,b_ c_ X,b_ c_ V,b_ c_ W]) w'):=by
    rintro w' ⟨x,rfl⟩;exact run_loadVar_row _ _ 131 131 #[b_ c_ e0,b_ c_ e1,b_ c_ X,b_ c_ V,b_ c_ W] (0,0) _ (iE x.bel (gn h0.2) h0.2) Tryz.underlying131 rfl ga
   clear h0;simp only[jd]
   go_big_quiet_want
   refine Br 56 _ (w.heap.size) (hA L) rfl rfl R0.o ?_
   simp only[Act.put,fU,fV,fW]
   go_big_quiet_on
   go_big_quiet_want
   refine Br 131 _ p #[b_ c_ e0,b_ c_ e1,b_ c_ X,b_ c_ V,b_ c_ W] rfl rfl R1.o ?_
   simp only[Act.put,fU,fV,fW]
   go_big_quiet_on
   refine wpQuiet_nil ?_
   rfl
  case rt=>
   change kN _ _ _ _ _ 2 _ _ _;refine js (i:=2) ga rfl ?_
   intro w8 ak aH;have ak:=nE ak;have Z8:=gg (iH ak Z7.o);have Y8:=gg (iH ak Y7.o);have B8:=gg (gj B7.o ak);have D8:=gg aH;clear ak aH X7 Z7 Y7 N7
   go_wp2_with (refine wpList_store_row rfl 56 _ _ rfl (w.heap.size+2) (hA L) rfl rfl 56 zA Z8.o (ii (gV L ax.o)) (by rw[gV L ax.o];rfl) (jU L) ?_)
   refine⟨⟨iL f_ D8.o.1,iL f_ D8.o.2⟩,?_⟩;refine js (i:=3) ga rfl ?_
   intro w9 aw aO;have Z9:=gg (iH aw (setRow_heap _ _ _ _ _ _ Z8.o:(w8.setRow (w.heap.size+2) (hA L)).heap[w.heap.size+2]? = some (d_ (hA L) 56 (0,0))));have Y9:=gg (iH aw (iL (cs:=hA L) f_ Y8.o));have B9:=gg (gj (below_setRow B8.o f_ (hA L)) aw:Up w w9);have D9:=gg aO;clear aw aO Z8 Y8 D8 B8
   go_wp2_with (refine wpList_store_row rfl 131 _ _ rfl (w.heap.size+3) #[b_ c_ e0,b_ c_ e1,b_ c_ X,b_ c_ V,b_ c_ W] rfl rfl 131 gL Y9.o ga rfl ga ?_)
   refine⟨⟨iL f_ D9.o.1,iL f_ D9.o.2⟩,?_⟩;refine od ga ?_
   intro a7 au bg;have a3:=gg (iH au (iL (cs:=#[b_ c_ e0,b_ c_ e1,b_ c_ X,b_ c_ V,b_ c_ W]) f_ Z9.o));have bj:=gg (iH au (setRow_heap _ _ _ _ _ _ Y9.o:(w9.setRow (w.heap.size+3) #[b_ c_ e0,b_ c_ e1,b_ c_ X,b_ c_ V,b_ c_ W]).heap[w.heap.size+3]? = some (d_ #[b_ c_ e0,b_ c_ e1,b_ c_ X,b_ c_ V,b_ c_ W] 131 (0,0))));have a0:=gg (gj (below_setRow B9.o f_ #[b_ c_ e0,b_ c_ e1,b_ c_ X,b_ c_ V,b_ c_ W]) au:Up w a7);clear au bg Z9 Y9 D9 B9
   go_wp2_with fail
   exact bodyPost_ret (v:=fI #[e_ (hA L),e_ #[b_ c_ e0,b_ c_ e1,b_ c_ X,b_ c_ V,b_ c_ W]]) (yI rfl _ _ (w.heap.size+2) (w.heap.size+3) 56 131 (hA L) #[b_ c_ e0,b_ c_ e1,b_ c_ X,b_ c_ V,b_ c_ W] (0,0) (0,0) _ _ rfl rfl a3.o bj.o Tryz.underlying56 rfl (ii (gV L ax.o)) Tryz.underlying131 rfl ga) rfl ⟨by rw[HS.o];rfl,a0.o⟩
end
section
open Go.RowKit
set_option maxRecDepth 100000
theorem Ak h g w (b:h.r.length=32) (a:0≤h.st∧h.st≤136) (e:kH h=g) :
 Calls gd 131 #[e_ (hA h)] w fun e w'=>e =fH (e_ (hA g))∧Up w w':=by subst e;exact ur h w b a
theorem ut {h} (a:h.r.length=32):(kH h).r.length=32:=by unfold kH;exact a
theorem xA h id x (a:h.r.length=32):(kT h id x).1.r.length=32:=by
 unfold kT;split
 · exact mo (jP _ _ a) _ _
 · exact a
theorem Cy h id op d n (a b:Nat) g i l j k c w (f:jw h) (hid:iy id) (o:a<32) (m:kT h id ⟨op,d,a,b,n⟩=(g,⟨i,l,j,k,c⟩)) :
 Calls gd 130 #[e_ (hA h),b_ c_ id,e_ #[b_ c_ op,b_ c_ d,b_ c_ a,b_ c_ b,b_ c_ n]] w fun e w'=>e =fH (fI #[e_ (hA g),e_ #[b_ c_ i,b_ c_ l,b_ c_ j,b_ c_ k,b_ c_ c]])∧Up w w':=by
 have:=xz h id ⟨op,d,a,b,n⟩ w f hid ⟨by simp,by simp;omega⟩;rw[m] at this;exact this
set_option maxRecDepth 100000 in
theorem uF h id x w (g:h.r.length=32) (t:k_ x=false) :
 Calls gd 88 #[e_ (hA h),b_ c_ id,gK x] w fun e w'=>e =fH (fI #[e_ (hA h),jj ⟨9,0,0,0,0⟩])∧Up w w':=by
 obtain⟨op,d,a,b,n⟩:=x;obtain⟨K,p,m,c,q,y,E,D⟩:=vf w (d_ (hA h) 56) (d_ #[b_ c_ op,b_ c_ d,b_ c_ a,b_ c_ b,b_ c_ n] 72) (d_ zA 56) (d_ gL 131);have A:=gv c (j:=0) (u:=b_ c_ op) rfl;have H:=gv c (j:=1) (u:=b_ c_ d) rfl;have I:=gv c (j:=2) (u:=b_ c_ a) rfl;have C:=gv c (j:=3) (u:=b_ c_ b) rfl;have F:=gv c (j:=4) (u:=b_ c_ n) rfl;have z:=gg p;have s:=gg m;have i:=gg q;have l:=gg y;have B:=gg t;clear m c q y p t;unfold gK;go_enter Tryz.func88,Tryz.ntmps88;go_upto_region 1 with(fail)
 change Code.wp _ _ _ _ ((((w.alloc (d_ (hA h) 56)).alloc (d_ #[b_ c_ op,b_ c_ d,b_ c_ a,b_ c_ b,b_ c_ n] 72)).alloc (d_ zA 56)).alloc (d_ gL 131));rw[←z.o]
 go_wp2_with fail
 refine(lB op d a b n false _ B.o).mono ?_
 rintro e w1 ⟨rfl,f⟩;have G:=gg (iH f s.o);have k:=gg (iH f i.o);have o:=gg (iH f l.o);have J:Up w w1:=(by repeat(first|(with_reducible exact Below.refl _ _)|(with_reducible refine gO ?_ ?_ _)|(with_reducible apply iS)|(with_reducible refine gj ?_ (by with_reducible assumption))|(with_reducible apply iR)|omega));have L:w.heap.size+4≤w1.heap.size:=by have:=f.size;omega
 clear A H I C F s i l z E D f
 go_wp2_with (first|(refine wpList_load_row rfl 56 _ rfl (w.heap.size) rfl 56 (hA h) (0,0) _ G.o Tryz.underlying56 rfl (ii (gV h g)) ?_)|(refine wpList_store_row rfl 56 _ _ rfl (w.heap.size+2) (hA h) rfl rfl 56 zA k.o (ii (gV h g)) (by rw[gV h g];rfl) (jU h) ?_)|(refine wpList_store_row rfl 131 _ _ rfl (w.heap.size+3) #[b_ c_ 9,b_ c_ 0,b_ c_ 0,b_ c_ 0,b_ c_ 0] rfl rfl 131 gL (iL f_ o.o) ga rfl ga ?_))
 exact bodyPost_ret (v:=fI #[e_ (hA h),jj ⟨9,0,0,0,0⟩]) (yI rfl _ _ (w.heap.size+2) (w.heap.size+3) 56 131 (hA h) #[b_ c_ 9,b_ c_ 0,b_ c_ 0,b_ c_ 0,b_ c_ 0] (0,0) (0,0) _ _ rfl rfl (iL f_ (setRow_heap _ _ _ _ _ _ k.o)) (setRow_heap _ _ _ _ _ _ (iL f_ o.o)) Tryz.underlying56 rfl (ii (gV h g)) Tryz.underlying131 rfl ga) rfl ⟨rfl,below_setRow (below_setRow (by repeat(first|(with_reducible exact Below.refl _ _)|(with_reducible refine gO ?_ ?_ _)|(with_reducible apply iS)|(with_reducible refine gj ?_ (by with_reducible assumption))|(with_reducible apply iR)|omega)) f_ _) f_ _⟩
set_option maxRecDepth 100000 in
theorem xW h id d n (c b:Nat) w (f:jw h) (hr:k_ ⟨44,d,c,b,n⟩=true) (aj:c<32) (ac:b<32) (hn:-1048576≤n∧n≤1048575) :
 Calls gd 88 #[e_ (hA h),b_ c_ id,gK ⟨44,d,c,b,n⟩] w fun e w'=>e =fH (fI #[e_ (hA (kH h)),jj ⟨0,0,0,0,0⟩])∧Up w w':=by
 have m:=f.len;have I:gi (iy (h.pc+4)):=gg (by have:=f.pc.1.1;have:=f.pc.1.2;constructor <;> omega);have M:gi (iy (h.pc+n)):=gg (by have:=f.pc.1.1;have:=f.pc.1.2;constructor <;> omega);obtain⟨E,D⟩:∃ E,h.r.getD c 0=E:=⟨_,rfl⟩;obtain⟨G,C⟩:∃ G,h.r.getD b 0=G:=⟨_,rfl⟩;have aJ:gi (iF E):=gg (D▸f.reg c aj);have aK:gi (iF G):=gg (C▸f.reg b ac);have aH:=gg D;have aG:=gg C
 try rw[D]
 try rw[C]
 clear D C;have w4:c_.wrap (h.pc+4)=h.pc+4:=IntWalk.i64_in _ (by have:=I.o.1;have:=I.o.2;omega);have wn:c_.wrap (h.pc+n)=h.pc+n:=IntWalk.i64_in _ (by have:=M.o.1;have:=M.o.2;omega);obtain⟨a,hh7⟩:∃ a:Ht,(kH h:Ht)=a:=⟨_,rfl⟩;rw[hh7];have ai:=gg hh7;clear hh7;have au:gi (0≤h.st∧h.st≤136):=gg (by rcases f.st with e|e|e|e <;> omega);have V:gi (a.r.length=32):=gg (by rw[←ai.o];exact ut m);have Q:(gB 44).form=90:=by decide +kernel
 obtain⟨S,ad,hx,g,hz,hy,ay,ax⟩:=vf w (d_ (hA h) 56) (d_ #[b_ c_ 44,b_ c_ d,b_ c_ c,b_ c_ b,b_ c_ n] 72) (d_ zA 56) (d_ gL 131);have t:=gv g (j:=0) (u:=b_ c_ 44) rfl;have P:=gv g (j:=1) (u:=b_ c_ d) rfl;have R:=gv g (j:=2) (u:=b_ c_ c) rfl;have L:=gv g (j:=3) (u:=b_ c_ b) rfl;have z:=gv g (j:=4) (u:=b_ c_ n) rfl;have HW:=gg ad;have HX:=gg hx;have HI:=gg g;have HZ:=gg hz;have HY:=gg hy;have HR:=gg hr;have FF:=gg f;have HN:=gg hn;clear hx g hz hy ad hr f hn;unfold gK;go_enter Tryz.func88,Tryz.ntmps88;go_upto_region 1 with(fail)
 change Code.wp _ _ _ _ ((((w.alloc (d_ (hA h) 56)).alloc (d_ #[b_ c_ 44,b_ c_ d,b_ c_ c,b_ c_ b,b_ c_ n] 72)).alloc (d_ zA 56)).alloc (d_ gL 131));rw[←HW.o]
 go_wp2_with fail
 refine(lB 44 d c b n true _ HR.o).mono ?_
 rintro e w1 ⟨rfl,q⟩;have A:=gg (iH q HX.o);have p:=gg (iH q HI.o);have af:=gg (iH q HZ.o);have ak:=gg (iH q HY.o);have aq:Up w w1:=(by repeat(first|(with_reducible exact Below.refl _ _)|(with_reducible refine gO ?_ ?_ _)|(with_reducible apply iS)|(with_reducible refine gj ?_ (by with_reducible assumption))|(with_reducible apply iR)|omega));have aD:w.heap.size+4≤w1.heap.size:=by have:=q.size;omega
 clear t P R L z HX HI HZ HY HW ay ax q;have ca:=gv A.o (show (hA h)[c]? = some (b_ c_ E) by rw[l9 h m c aj,aH.o]);have cb:=gv A.o (show (hA h)[b]? = some (b_ c_ G) by rw[l9 h m b ac,aG.o]);have ar:=gv A.o (lT h m).1;have t:=gv p.o (j:=0) (u:=b_ c_ 44) rfl;have R:=gv p.o (j:=2) (u:=b_ c_ c) rfl;have L:=gv p.o (j:=3) (u:=b_ c_ b) rfl;have z:=gv p.o (j:=4) (u:=b_ c_ n) rfl;go_upto_region 8 with(first|(go_at_call 95;(with_reducible refine(gI (h.pc+4) _ I.o).mono ?_);rintro e w' ⟨rfl,rfl⟩)|(go_at_call 95;(with_reducible refine(gI (h.pc+n) _ M.o).mono ?_);rintro e w' ⟨rfl,rfl⟩))
 go_wp2_with fail
 refine(pA 44 _).mono ?_
 obtain⟨aC,U⟩:∃ r,gB 44=r:=⟨_,rfl⟩;rw[U];rw[U] at Q;obtain⟨nm,fm,lo,mi,g⟩:=aC;simp only at Q;clear U;subst Q;have aw:∀ w:World,(Instr.field 111 (e_ #[.string nm,.int .u8 90,b_ c_ lo,b_ c_ mi,b_ c_ g]) 1).run gd w = .ok (.int .u8 90) w:=fun w=>by kernel_rfl
 rintro e w2 ⟨rfl,l⟩;have ag:=gg (iH l A.o);have ao:=gg (iH l p.o);have ah:=gg (iH l af.o);have ae:=gg (iH l ak.o);have an:Up w w2:=(by repeat(first|(with_reducible exact Below.refl _ _)|(with_reducible refine gO ?_ ?_ _)|(with_reducible apply iS)|(with_reducible refine gj ?_ (by with_reducible assumption))|(with_reducible apply iR)|omega));have aI:w.heap.size+4≤w2.heap.size:=by have:=l.size;omega
 clear ca cb ar t R L z l A p af ak aq aD w4 wn;unfold mD;go_upto_region 12 with(fail)
 clear aw;change Code.wp _ _ _ _ (w2.alloc (d_ gL 131));have s:gi ((w2.alloc (d_ gL 131)).heap[w2.heap.size]? = some (d_ gL 131 (0,0))):=gg (gH w2 (d_ gL 131));have k:Up w2 (w2.alloc (d_ gL 131)):=qm w2 (d_ gL 131);have W:w2.heap.size<(w2.alloc (d_ gL 131)).heap.size:=gn s.o;obtain⟨T,am⟩:∃ T:World,w2.alloc (d_ gL 131)=T:=⟨_,rfl⟩;rw[am] at s k W ⊢
 have ap:=gg (iH k ag.o);have F:=gg (iH k ao.o);have Y:=gg (iH k ah.o);have ab:=gg (iH k ae.o);have av:Up w T:=gj an k;obtain⟨y,al⟩:∃ y,w2.heap.size=y:=⟨_,rfl⟩;rw[al] at s aI W ⊢
 clear al am k ag ao ah ae an;have t:=gv F.o (j:=0) (u:=b_ c_ 44) rfl;have P:=gv F.o (j:=1) (u:=b_ c_ d) rfl;have z:=gv F.o (j:=4) (u:=b_ c_ n) rfl;go_upto_region 47 with(fail)
 clear t P z F;refine fX (fun w'=>w'.heap[w.heap.size]? = some (d_ (hA h) 56 (0,0))∧w'.heap[y]? = some (d_ #[b_ c_ 0,b_ c_ 0,b_ c_ 0,b_ c_ 0,b_ c_ 0] 131 (0,0))) [true,true,true,false,false] (fun _ _ hh hu=>⟨iH hu hh.1,iH hu hh.2⟩) ⟨ap.o,s.o⟩ ?ra ?rh ?rt
 case rh=>
  intro S h0
  have R0:gi (∀ w':World,(∃ x:Wd S,w'=x.val)→(loadVar 56 ⟨w.heap.size,0,none⟩).run gd w' = .ok (e_ (hA h)) w'):=by
   rintro w' ⟨x,rfl⟩;exact run_loadVar_row _ _ 56 56 (hA h) (0,0) _ (iE x.bel (gn h0.1) h0.1) Tryz.underlying56 rfl (ii (gV h m))
  have R1:gi (∀ w':World,(∃ x:Wd S,w'=x.val)→(loadVar 131 ⟨y,0,none⟩).run gd w' = .ok (e_ #[b_ c_ 0,b_ c_ 0,b_ c_ 0,b_ c_ 0,b_ c_ 0]) w'):=by
   rintro w' ⟨x,rfl⟩;exact run_loadVar_row _ _ 131 131 #[b_ c_ 0,b_ c_ 0,b_ c_ 0,b_ c_ 0,b_ c_ 0] (0,0) _ (iE x.bel (gn h0.2) h0.2) Tryz.underlying131 rfl ga
  clear h0;simp only[jd]
  go_big_quiet_want
  refine Br 56 _ (w.heap.size) (hA h) rfl rfl R0.o ?_
  simp only[Act.put,fU,fV,fW]
  go_big_quiet_on
  go_big_quiet_step ((go_at_call 131;with_reducible exact oS (Ak h a _ m au.o ai.o)))
  go_big_quiet_want
  refine Br 131 _ y #[b_ c_ 0,b_ c_ 0,b_ c_ 0,b_ c_ 0,b_ c_ 0] rfl rfl R1.o ?_
  simp only[Act.put,fU,fV,fW]
  go_big_quiet_on
  refine wpQuiet_nil ?_
  rfl
 case rt=>as_aux_lemma=>
  change kN _ _ _ _ _ 2 _ _ _;refine js (i:=3) ga rfl ?_
  intro w8 o X;have o:=nE o;have J:=gg (iH o Y.o);have Z:=gg (iH o ab.o);have B8:=gg (gj av o);have K:=gg X;clear o X ap Y ab s
  go_wp2_with (refine wpList_store_row rfl 56 _ _ rfl (w.heap.size+2) (hA a) rfl rfl 56 zA J.o (ii (gV a V.o)) (by rw[gV a V.o];rfl) (jU a) ?_)
  refine⟨⟨iL f_ K.o.1,iL f_ K.o.2⟩,?_⟩;refine js (i:=4) ga rfl ?_
  intro w9 H aa;have Z9:=gg (iH H (setRow_heap _ _ _ _ _ _ J.o:(w8.setRow (w.heap.size+2) (hA a)).heap[w.heap.size+2]? = some (d_ (hA a) 56 (0,0))));have O:=gg (iH H (iL (cs:=hA a) f_ Z.o));have B9:=gg (gj (below_setRow B8.o f_ (hA a)) H:Up w w9);have N:=gg aa;clear H aa J Z K B8
  go_wp2_with (refine wpList_store_row rfl 131 _ _ rfl (w.heap.size+3) #[b_ c_ 0,b_ c_ 0,b_ c_ 0,b_ c_ 0,b_ c_ 0] rfl rfl 131 gL O.o ga rfl ga ?_)
  refine⟨⟨iL f_ N.o.1,iL f_ N.o.2⟩,?_⟩;refine od ga ?_
  intro aF B aA;have aB:=gg (iH B (iL (cs:=#[b_ c_ 0,b_ c_ 0,b_ c_ 0,b_ c_ 0,b_ c_ 0]) f_ Z9.o));have aE:=gg (iH B (setRow_heap _ _ _ _ _ _ O.o:(w9.setRow (w.heap.size+3) #[b_ c_ 0,b_ c_ 0,b_ c_ 0,b_ c_ 0,b_ c_ 0]).heap[w.heap.size+3]? = some (d_ #[b_ c_ 0,b_ c_ 0,b_ c_ 0,b_ c_ 0,b_ c_ 0] 131 (0,0))));have az:=gg (gj (below_setRow B9.o f_ #[b_ c_ 0,b_ c_ 0,b_ c_ 0,b_ c_ 0,b_ c_ 0]) B:Up w aF);clear B aA Z9 O N B9
  go_wp2_with fail
  exact bodyPost_ret (v:=fI #[e_ (hA a),e_ #[b_ c_ 0,b_ c_ 0,b_ c_ 0,b_ c_ 0,b_ c_ 0]]) (yI rfl _ _ (w.heap.size+2) (w.heap.size+3) 56 131 (hA a) #[b_ c_ 0,b_ c_ 0,b_ c_ 0,b_ c_ 0,b_ c_ 0] (0,0) (0,0) _ _ rfl rfl aB.o aE.o Tryz.underlying56 rfl (ii (gV a V.o)) Tryz.underlying131 rfl ga) rfl ⟨rfl,az.o⟩
set_option maxRecDepth 100000 in
theorem uG h id op d n (b a:Nat) w (f:jw h) (hr:k_ ⟨op,d,b,a,n⟩=true) (R:b<32) (X:a<32) (Y:-1048576≤n∧n≤1048575) (ak:40≤op∧op≤42) (hid:iy id) :
 Calls gd 88 #[e_ (hA h),b_ c_ id,gK ⟨op,d,b,a,n⟩] w fun e w'=>e =fH (fI #[e_ (hA ((kT h id ⟨op,d,b,a,n⟩).1)),jj (kT h id ⟨op,d,b,a,n⟩).2])∧Up w w':=by
 have q:=f.len;have L:gi (iy (h.pc+4)):=gg (by have:=f.pc.1.1;have:=f.pc.1.2;constructor <;> omega);have M:gi (iy (h.pc+n)):=gg (by have:=f.pc.1.1;have:=f.pc.1.2;constructor <;> omega);obtain⟨H,E⟩:∃ H,h.r.getD b 0=H:=⟨_,rfl⟩;obtain⟨J,C⟩:∃ J,h.r.getD a 0=J:=⟨_,rfl⟩;have aK:gi (iF H):=gg (E▸f.reg b R);have aL:gi (iF J):=gg (C▸f.reg a X);have aH:=gg E;have aG:=gg C
 try rw[E]
 try rw[C]
 clear E C;have w4:c_.wrap (h.pc+4)=h.pc+4:=IntWalk.i64_in _ (by have:=L.o.1;have:=L.o.2;omega);have wn:c_.wrap (h.pc+n)=h.pc+n:=IntWalk.i64_in _ (by have:=M.o.1;have:=M.o.2;omega);obtain⟨⟨c,⟨D,F,I,A,G⟩⟩,K⟩:∃ r,kT h id ⟨op,d,b,a,n⟩=r:=⟨_,rfl⟩;rw[K]
 dsimp only
 have aB:=gg K;have S:gi (c.r.length=32):=gg (by have:=xA h id ⟨op,d,b,a,n⟩ q;rw[K] at this;exact this);have aJ:=gg hid;clear K hid;have q1:(op == 1)=false:=fS f_;have q2:(op == 2)=false:=fS f_;have q3:(op == 3)=false:=fS f_;have q4:(op == 4)=false:=fS f_;have aF:(op == 11)=false:=fS f_;have az:(op == 12)=false:=fS f_;have al:(op == 39)=false:=fS f_;have ap:(op == 46)=false:=fS f_;have aq:(op == 47)=false:=fS f_;have ay:(op == 48)=false:=fS f_;have ax:(op == 49)=false:=fS f_;have aA:(op == 43)=false:=fS f_;have aD:(op == 45)=false:=fS f_;have an:(op == 44)=false:=fS f_;have O:(gB op).form=67:=(Bg op f_).2.1 ak;obtain⟨w0,Z,hx,g,hz,hy,aw,av⟩:=vf w (d_ (hA h) 56) (d_ #[b_ c_ op,b_ c_ d,b_ c_ b,b_ c_ a,b_ c_ n] 72) (d_ zA 56) (d_ gL 131);have t:=gv g (j:=0) (u:=b_ c_ op) rfl;have N:=gv g (j:=1) (u:=b_ c_ d) rfl;have s:=gv g (j:=2) (u:=b_ c_ b) rfl;have p:=gv g (j:=3) (u:=b_ c_ a) rfl;have x:=gv g (j:=4) (u:=b_ c_ n) rfl;have HW:=gg Z;have HX:=gg hx;have HI:=gg g;have HZ:=gg hz;have HY:=gg hy;have HR:=gg hr;have FF:=gg f;have HN:=gg Y;clear hx g hz hy Z hr f Y;clear ak;unfold gK;go_enter Tryz.func88,Tryz.ntmps88;go_upto_region 1 with(fail)
 change Code.wp _ _ _ _ ((((w.alloc (d_ (hA h) 56)).alloc (d_ #[b_ c_ op,b_ c_ d,b_ c_ b,b_ c_ a,b_ c_ n] 72)).alloc (d_ zA 56)).alloc (d_ gL 131));rw[←HW.o]
 go_wp2_with fail
 refine(lB op d b a n true _ HR.o).mono ?_
 rintro e w1 ⟨rfl,o⟩;have y:=gg (iH o HX.o);have m:=gg (iH o HI.o);have ab:=gg (iH o HZ.o);have ae:=gg (iH o HY.o);have am:Up w w1:=(by repeat(first|(with_reducible exact Below.refl _ _)|(with_reducible refine gO ?_ ?_ _)|(with_reducible apply iS)|(with_reducible refine gj ?_ (by with_reducible assumption))|(with_reducible apply iR)|omega));have aE:w.heap.size+4≤w1.heap.size:=by have:=o.size;omega
 clear t N s p x HX HI HZ HY HW aw av o;have ca:=gv y.o (show (hA h)[b]? = some (b_ c_ H) by rw[l9 h q b R,aH.o]);have cb:=gv y.o (show (hA h)[a]? = some (b_ c_ J) by rw[l9 h q a X,aG.o]);have ao:=gv y.o (lT h q).1;have t:=gv m.o (j:=0) (u:=b_ c_ op) rfl;have s:=gv m.o (j:=2) (u:=b_ c_ b) rfl;have p:=gv m.o (j:=3) (u:=b_ c_ a) rfl;have x:=gv m.o (j:=4) (u:=b_ c_ n) rfl;go_upto_region 8 with(first|(go_at_call 95;(with_reducible refine(gI (h.pc+4) _ L.o).mono ?_);rintro e w' ⟨rfl,rfl⟩)|(go_at_call 95;(with_reducible refine(gI (h.pc+n) _ M.o).mono ?_);rintro e w' ⟨rfl,rfl⟩))
 go_wp2_with fail
 refine(pA op _).mono ?_
 obtain⟨aC,Q⟩:∃ r,gB op=r:=⟨_,rfl⟩;rw[Q];rw[Q] at O;obtain⟨nm,fm,lo,mi,g⟩:=aC;simp only at O;clear Q;subst O;have au:∀ w:World,(Instr.field 111 (e_ #[.string nm,.int .u8 67,b_ c_ lo,b_ c_ mi,b_ c_ g]) 1).run gd w = .ok (.int .u8 67) w:=fun w=>by kernel_rfl
 rintro e w2 ⟨rfl,k⟩;have ac:=gg (iH k y.o);have ai:=gg (iH k m.o);have ad:=gg (iH k ab.o);have aa:=gg (iH k ae.o);have ah:Up w w2:=(by repeat(first|(with_reducible exact Below.refl _ _)|(with_reducible refine gO ?_ ?_ _)|(with_reducible apply iS)|(with_reducible refine gj ?_ (by with_reducible assumption))|(with_reducible apply iR)|omega));have aI:w.heap.size+4≤w2.heap.size:=by have:=k.size;omega
 clear ca cb ao t s p x k y m ab ae am aE w4 wn;unfold mD;go_upto_region 12 with(fail)
 clear au;change Code.wp _ _ _ _ (w2.alloc (d_ gL 131));have B:gi ((w2.alloc (d_ gL 131)).heap[w2.heap.size]? = some (d_ gL 131 (0,0))):=gg (gH w2 (d_ gL 131));have i:Up w2 (w2.alloc (d_ gL 131)):=qm w2 (d_ gL 131);have T:w2.heap.size<(w2.alloc (d_ gL 131)).heap.size:=gn B.o;obtain⟨P,ag⟩:∃ P:World,w2.alloc (d_ gL 131)=P:=⟨_,rfl⟩;rw[ag] at B i T ⊢
 have aj:=gg (iH i ac.o);have l:=gg (iH i ai.o);have U:=gg (iH i ad.o);have W:=gg (iH i aa.o);have ar:Up w P:=gj ah i;obtain⟨pe,af⟩:∃ pe,w2.heap.size=pe:=⟨_,rfl⟩;rw[af] at B aI T ⊢
 clear af ag i ac ai ad aa ah;have t:=gv l.o (j:=0) (u:=b_ c_ op) rfl;have N:=gv l.o (j:=1) (u:=b_ c_ d) rfl;have x:=gv l.o (j:=4) (u:=b_ c_ n) rfl;go_upto_region 41 with(fail)
 have s:=gv l.o (j:=2) (u:=b_ c_ b) rfl;have p:=gv l.o (j:=3) (u:=b_ c_ a) rfl
 go_wp2_with (refine wpList_load_row rfl 56 _ rfl (w.heap.size) rfl 56 (hA h) (0,0) _ aj.o Tryz.underlying56 rfl (ii (gV h q)) ?_)
 refine(Cy h id op d n b a c D F I A G _ FF.o aJ.o R aB.o).mono ?_
 rintro e w5 ⟨rfl,z⟩;have V:=gg (iH z U.o);have Y5:=gg (iH z W.o);have B5:=gg (gj ar z);clear t N s p x q1 q2 q3 q4 aF az al ap aq ay ax aA aD an l aj U W B z
 go_wp2_with (first|(refine wpList_store_row rfl 56 _ _ rfl (w.heap.size+2) (hA c) rfl rfl 56 zA V.o (ii (gV c S.o)) (by rw[gV c S.o];rfl) (jU c) ?_)|(refine wpList_store_row rfl 131 _ _ rfl (w.heap.size+3) #[b_ c_ D,b_ c_ F,b_ c_ I,b_ c_ A,b_ c_ G] rfl rfl 131 gL (iL f_ Y5.o) ga rfl ga ?_))
 exact bodyPost_ret (v:=fI #[e_ (hA c),e_ #[b_ c_ D,b_ c_ F,b_ c_ I,b_ c_ A,b_ c_ G]]) (yI rfl _ _ (w.heap.size+2) (w.heap.size+3) 56 131 (hA c) #[b_ c_ D,b_ c_ F,b_ c_ I,b_ c_ A,b_ c_ G] (0,0) (0,0) _ _ rfl rfl (iL f_ (setRow_heap _ _ _ _ _ _ V.o)) (setRow_heap _ _ _ _ _ _ (iL f_ Y5.o)) Tryz.underlying56 rfl (ii (gV c S.o)) Tryz.underlying131 rfl ga) rfl ⟨rfl,below_setRow (below_setRow B5.o f_ _) f_ _⟩
theorem Az {x} (a:k_ x=true):-1048576≤x.n∧x.n≤1048575:=by
 rw[Iw] at a;simp only[Bool.and_eq_true] at a
 have e:1≤x.op∧x.op≤49:=by
  by_cases c:1≤x.op∧x.op≤49
  · exact c
  · have:=a.1;rw[Ef c] at this;cases this
 have d:=Dj x.op e;have b:=a.2.2.2.2;generalize (gB x.op).form=f at *
 unfold rU at b;simp only[Bool.and_eq_true,decide_eq_true_eq] at b;rcases d with rfl|rfl|rfl|rfl|rfl|rfl|rfl|rfl|rfl|rfl|rfl|rfl <;> simp[jt] at b <;> omega
theorem uE h id x w (f:jw h) (hid:iy id) :
 Calls gd 88 #[e_ (hA h),b_ c_ id,gK x] w fun e w'=>e =fH (fI #[e_ (hA (mN h id x).1),jj (mN h id x).2])∧Up w w':=by
 cases c:k_ x
 · rw[IV c];exact uF h id x w f.len c
 have g:=Az c;by_cases i:x.op≠44∧x.op≠40∧x.op≠41∧x.op≠42
 · rw[qP c i.1 i.2];exact uH h id x w f c g i
 obtain⟨ra,p⟩:=CJ c;obtain⟨op,d,a,b,n⟩:=x;simp only at g i ra p;obtain⟨j,rfl,m⟩:∃ k:Nat,a=k∧k<32:=⟨a.toNat,by omega,by omega⟩;obtain⟨l,rfl,o⟩:∃ k:Nat,b=k∧k<32:=⟨b.toNat,by omega,by omega⟩;clear ra p;by_cases q:op=44
 · subst q;rw[Iv c rfl,←xy h f.st];exact xW h id d n j l w f c m o g
 rw[IU c (show op=40∨op=41∨op=42 by omega),←Ao f id ⟨op,d,j,l,n⟩ ⟨by simp,by simp;omega⟩];exact uG h id op d n j l w f c m o g f_ hid
end
