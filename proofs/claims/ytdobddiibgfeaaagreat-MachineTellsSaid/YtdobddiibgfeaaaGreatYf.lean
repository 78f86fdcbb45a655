/- What the walks of this statement lean on: shown. -/
import Derived.Test.YtdobddiibgfeaaaGreatYc
set_option linter.all false
set_option maxRecDepth 100000
set_option maxHeartbeats 16000000
namespace Go.Proofs.YtdobddiibgfeaaaGreat
open Value renaming slice→a_,int→b_,agg→e_,pointer→fG,tuple→fI,bool→fJ
open IntKind renaming i64→c_
open Obj renaming cells→d_
open Ending renaming returned→fH
open Go.Proofs.Tryz renaming prog→gd
section
open Go.RowKit
set_option maxRecDepth 100000
set_option maxHeartbeats 8000000
theorem g_:(gd.info? 75).map (·.size)=some 8:=by kernel_rfl
theorem wX (s):(s.r2.tmod 2 != 0)=en s:=by
 unfold en
 have e:bits .and .i64 s.r2 1=s.r2 % 2:=by
  have e:bits .and .i64 s.r2 1=(BitVec.ofInt 64 s.r2 &&& BitVec.ofInt 64 1).toInt:=Bw _;rw[e,BitVec.toInt_eq_toNat_bmod,BitVec.toNat_and,BitVec.toNat_ofInt,BitVec.toNat_ofInt];rw[show ((1:Int) % (2 ^ 64:Nat)).toNat=1 from rfl,Nat.and_one_is_mod];unfold Int.bmod;simp only[Nat.reducePow];omega
 rw[e];have h:s.r2.tmod 2=0↔s.r2 % 2=0:=by rw[←Int.dvd_iff_tmod_eq_zero,←Int.dvd_iff_emod_eq_zero]
 by_cases h0:s.r2 % 2=0
 · simp[h0,h.2 h0]
 · have:=mt h.1 h0
   rw[bne_iff_ne.2 this,bne_iff_ne.2 h0]
theorem Cr (y):BitVec.ofInt 32 (-y - 1) = ~~~ (BitVec.ofInt 32 y):=by
 rw[show -y - 1 = -y + -1 by omega,BitVec.ofInt_add,BitVec.ofInt_neg,BitVec.neg_eq_not_add,BitVec.add_assoc];rw[show (1#32+BitVec.ofInt 32 (-1))=0#32 by decide,BitVec.add_zero]
theorem tP {x} (a:iF x) (n):gY 6 x (lG 17 (wrap32 n))=bits .andNot .i64 x (wrap32 n):=by
 have h1:=oi n;have h2:iF (wrap32 n):=h1;have d:gY 6 x (lG 17 (wrap32 n))=bits .and .i32 (wrap32 x) (wrap32 (lG 17 (wrap32 n))):=rfl;have e:lG 17 (wrap32 n)=wrap32 (-(wrap32 (wrap32 n)) - 1):=rfl;have b:-2147483648 ≤ -(wrap32 n) - 1 ∧ -(wrap32 n) - 1≤2147483647:=by omega
 have c:wrap32 (wrap32 n)=wrap32 n:=jn h1;rw[d,e,c,jn b,jn b,jn a,lk,Cr,lK,i9 a,i9 h2,←BitVec.signExtend_not fZ,←BitVec.signExtend_and,BitVec.toInt_signExtend_of_le fZ]
theorem BT (x):bits .and .i64 x 255=x % 256:=by
 have e:bits .and .i64 x 255=(BitVec.ofInt 64 x &&& BitVec.ofInt 64 255).toInt:=Bw _;rw[e,BitVec.toInt_eq_toNat_bmod,BitVec.toNat_and,BitVec.toNat_ofInt,BitVec.toNat_ofInt];rw[show ((255:Int) % (2 ^ 64:Nat)).toNat=255 from rfl,Nat.and_two_pow_sub_one_eq_mod _ 8];unfold Int.bmod;simp only[Nat.reducePow];omega
theorem zK {n r1 r2 r3} (h0:iF n) (h1:iF r1) (h2:iF r2) (h3:iF r3):gY 7 r3 (gY 6 (gY 8 n r1) r2)=bits .or .i64 r3 (bits .and .i64 (bits .xor .i64 n r1) r2):=by
 have c:∀ a b,gY 7 a b=bits .or .i32 (wrap32 a) (wrap32 b):=fun _ _=>rfl
 have d:∀ a b,gY 6 a b=bits .and .i32 (wrap32 a) (wrap32 b):=fun _ _=>rfl
 have e:∀ a b,gY 8 a b=bits .xor .i32 (wrap32 a) (wrap32 b):=fun _ _=>rfl
 rw[c,d,e,jn h3,jn h2,jn h1,jn h0,jn (CY _ _ _),jn (CY _ _ _)];rw[pk,lk,q_,nt,kF,rd];simp only[BitVec.ofInt_toInt];rw[i9 h3,i9 h2,i9 h1,i9 h0,←BitVec.signExtend_xor,←BitVec.signExtend_and,←BitVec.signExtend_or,BitVec.toInt_signExtend_of_le fZ]
theorem DP v s w (h:iZ w v s) (b:s.k=1∨s.k=2∨s.k=3) (L:s.q.length≤1000) :
 Calls gd 97 #[v] w fun e w'=>∃ i,e =fH (e_ (gX (ja s) i))∧gi (gl w' 1 s.q.length i (qL s))∧oV w.heap.size i∧Up w w':=by
 obtain⟨qv,rfl,o⟩:=h;obtain⟨Q,S,rfl⟩:=o.shape;have u:=gg o;clear o;have N:=wX s;obtain⟨E,p⟩:∃ E,en s=E:=⟨_,rfl⟩;rw[p] at N;have R:=gg p;clear p;obtain⟨Y,J,T,V,O⟩:=info_parts yT;obtain⟨n,a⟩:∃ n,s.q.length=n:=⟨_,rfl⟩;have K:=gg a;have HK:=gg b;rw[a] at u L ⊢
 clear a;unfold gX;rcases(by omega:(s.k=1∧0<n)∨(s.k=1∧n≤0)∨(s.k=2∧0≤n)∨(s.k=3∧0≤n)) with⟨b,a⟩|⟨b,a⟩|⟨b,a⟩|⟨b,a⟩
 all_goals
  go_in
  go_upto_region 1 with(fail)
  obtain⟨w0,m,c,F,y,aa⟩:=lU w (d_ #[b_ c_ s.k,b_ c_ s.r0,b_ c_ s.r1,b_ c_ s.r2,b_ c_ s.r3,a_ Q n S,b_ c_ s.sent,fJ s.ra] 75) (d_ #[b_ c_ 0,b_ c_ 0,b_ c_ 0,b_ c_ 0,b_ c_ 0,a_ none 0 0,b_ c_ 0,fJ false] 75);rw[b] at c m ⊢
  rw[←m];clear m;obtain⟨a0,a1,a2,a3,a4,a5,G,A,r,C,H,x,z,I,i6,i7⟩:=jz c;have D:=gg c;have t:=gg F;have j:=gg y;clear c F y;go_upto_region 2 with(at_builtin;refine jc _ rfl _ _ 24 3 rfl Y (b_ c_ 0) 1 8 Tryz.underlying24 J T V O rfl fZ rfl _ n _ rfl (u.o.below j.o) f_ ?_;intro v1 w1 f d;obtain⟨U,M,rfl⟩:=gN f;have W:=gg (iE d (gn D.o) D.o);have B:=gg (iE d (gn t.o) t.o);have l:=gg f;have P:=gg (gj j.o d);clear f d a0 a1 a2 a3 a4 a5 G A r C H x z I i6 i7;obtain⟨a0,a1,a2,a3,a4,a5,G,A,r,C,H,x,z,I,i6,i7⟩:=jz W.o)
  go_wp2_with (refine wpList_store_row rfl 75 _ _ rfl (w.heap.size+1) _ rfl rfl 75 _ (Eq.trans (by repeat rw[iY f_]) B.o) g_ rfl (by simp[Value.oneCell']) ?_)
  have Z:=P.o;refine bodyPost_ret (results_cell_row rfl _ _ (w.heap.size+1) 75 _ (0,0) _ rfl (setRow_heap _ _ _ _ _ _ (Eq.trans (by repeat rw[iY f_]) B.o)) Tryz.underlying75 rfl g_) rfl ⟨a_ U n M,?_,gg (gl.own (lH l.o fun g X=>?_) (oB s)),pI (jW l.o j.o.size),below_setRow (by repeat(first|(with_reducible exact Below.refl _ _)|(with_reducible refine gO ?_ ?_ _)|(with_reducible apply iS)|(with_reducible refine gj ?_ (by with_reducible assumption))|(with_reducible apply iR)|omega)) f_ _⟩
  · simp[ja,tl,b,K.o,R.o,a] <;> (intro;omega)
  · have:=(l.o.lt g X).1
    rw[setRow_other _ _ _ _ f_];repeat rw[iY f_]
theorem kd {P:Program} {fn} {p q:Tmp} {ty:TypeId} (h:fn.results = #[.tmp q,.cell p ty]) (tmps:Array Value) (w:World) g t (cs:Array Value) (fr:Nat×Nat) (d)
 (i:tmps.getD p undef = fG (some ⟨g,0,none⟩)) (k:w.heap[g]? = some (d_ cs t fr)) {v} (c:tmps.getD q undef=v)
 (e:P.underlying ty=some d) (f:(match d with|.struct _|.array _ _=>true|_=>false)=true) (j:(P.info? ty).map (·.size)=some cs.size) :
 (results fn tmps).run P w = .ok (fI #[v,e_ cs]) w:=by
 have a:tmps[p]?.getD undef = fG (some ⟨g,0,none⟩):=by simpa using i
 have b:tmps[q]?.getD undef=v:=by simpa using c
 simp[results,h,a,b,asAddr,run_loadVar_row w g t ty cs fr d k e f j]
theorem ki {B b w v s cs} (r:b<B) (h:gQ B w v s):gQ B (w.setRow b cs) v s:=by
 obtain⟨f,i,a,d⟩:=h;refine⟨f,i,⟨a.1,a.2.1,?_⟩,d⟩;rcases a.2.2 with k|⟨g,m,c,rfl,n,o,l,p⟩
 · exact .inl k
 · have:=d _ _ _ rfl
   refine .inr ⟨g,m,c,rfl,by simpa using n,o,l,fun j q e=>?_⟩;rw[←p j q e];simp only at this;simp only[World.cell?,Addr.add,setRow_other w b g cs f_]
theorem oV.le {B b v} (h:oV B v) (d:b≤B):oV b v:=fun a n c e=>fO d (h a n c e)
theorem yi {B w w' v s} (e:Up w w') (h:gQ B w v s):gQ B w' v s:=by
 obtain⟨c,d,a,b⟩:=h;exact⟨c,d,a.below e,b⟩
theorem kh k r0 r1 r2 r3 sent ra (q:List Int) (b:Option Addr) n f (w) (h:gl w 1 n (a_ b n f) (q.map (.int .i64))) (l:q.length=n) (g:k=1∨k=2∨k=3) (j:n≤1000) :
 Calls gd 97 #[e_ #[b_ c_ k,b_ c_ r0,b_ c_ r1,b_ c_ r2,b_ c_ r3,a_ b n f,b_ c_ sent,fJ ra]] w fun e w'=>∃ cs,e =fH (e_ cs)∧cs.size=8∧cs.all (·.oneCell')=true∧gi (gQ w.heap.size w' (e_ cs) (ja ⟨k,r0,r1,r2,r3,q,sent,ra⟩))∧gi (Up w w'):=by
 subst l;refine(DP _ ⟨k,r0,r1,r2,r3,q,sent,ra⟩ w ⟨_,rfl,h⟩ g j).mono ?_
 rintro e w' ⟨o,rfl,d,i,m⟩;obtain⟨a,c,rfl⟩:=d.o.shape;exact⟨_,rfl,rfl,by simp[gX,Value.oneCell'],gg ⟨_,rfl,d.o,i⟩,gg m⟩
theorem kB k r0 r1 r2 r3 sent reg ra a n b w (h1:1≤k) (h2:k≤3) (h3:0≤reg) (h4:reg≤3) :
 Calls gd 96 #[e_ #[b_ c_ k,b_ c_ r0,b_ c_ r1,b_ c_ r2,b_ c_ r3,a_ a n b,b_ c_ sent,fJ ra],b_ c_ reg] w fun e w'=>e =fH (fJ true)∧Up w w':=by
 go_in
 go_wp2
 go_ret;exact⟨gt (iO (by simp[*])),(by repeat(first|(with_reducible exact Below.refl _ _)|(with_reducible refine gO ?_ ?_ _)|(with_reducible apply iS)|(with_reducible refine gj ?_ (by with_reducible assumption))|(with_reducible apply iR)|omega))⟩
theorem rZ {w x l b o n c} (h:gl w 1 n (a_ (some ⟨b,o,none⟩) n c) (qL ⟨0,0,0,0,0,x :: l,0,false⟩)) (d:n=l.length+1):gl w 1 l.length (a_ (some ⟨b,o+1,none⟩) (n - 1) (c - 1)) (l.map (b_ c_)):=by
 subst d;refine⟨by simp,by simp[Value.oneCell'],?_⟩;rcases h.2.2 with⟨h,_⟩|⟨g,e,f,h,h1,h2,h3,h4⟩
 · cases h
 · cases h
   exact .inr ⟨_,_,_,rfl,h1,by omega,by omega,fun j u a=>by rw[Nat.add_assoc,Nat.add_comm 1];exact h4 (j+1) u (by simpa[qL] using a)⟩
theorem xC b (w):Calls gd 179 #[fJ b] w fun e w'=>e =fH (b_ c_ (lz b))∧w=w':=by
 cases b <;>
 · go_in
   go_wp2
   go_ret;exact⟨gt (io rfl),rfl⟩
theorem As (w):Calls gd 179 #[fJ true] w fun e w'=>e =fH (b_ c_ 1)∧w=w':=xC true w
theorem Ar (w):Calls gd 179 #[fJ false] w fun e w'=>e =fH (b_ c_ 0)∧w=w':=xC false w
def Aw (id:Nat):Nat:=if id=5 then 4 else if id=7 then 5 else if id=16 then 7 else 3
theorem DT {P id} {Q:Exit→Act→World→Prop} {a w l} (C) (c:P.follows .mixedOrders=true)
 (g:(Region.noSelect l.toArray && ((iT (List.replicate (Aw id) true) 0).all (fun k=>decide (k<l.toArray.size)) && (decide ((List.replicate (Aw id) true).length≤l.length) && (decide ((iT (List.replicate (Aw id) true) 0).length≤l.toArray.size) && nf .any l.toArray (iT (List.replicate (Aw id) true) 0) (Array.replicate l.toArray.size false)))))=true) (e:uW a.tmps.size (jd (List.replicate (Aw id) true) l)=true)
 (f:∀ w w',C w→Up w w'→C w') (hC:C w) (a')
 (h:∀ b,C b→wpQuiet P l.toArray (fun w'=>∃ x:Wd b,w'=x.val) (fun x=>x=a') (jd (List.replicate (Aw id) true) l) a)
 (d:l.toArray.size - (iT (List.replicate (Aw id) true) 0).length=3)
 (ht:kN P .any l.toArray C Q 3 (ni (iT (List.replicate (Aw id) true) 0) (Array.replicate l.toArray.size false)) a' w.drew):(Code.region id l.toArray true).wp P Q a w:=
 GJ C _ c g e f hC a' h (by rw[d];exact ht)
theorem Cz v s reg w (h:iZ w v s) (V:s.k=1∨s.k=2∨s.k=3) (l:s.q.length≤1000) (hr:reg=0∨reg=1∨reg=3∨reg=2) (r:s.k=1→reg=0→s.q.length≤0) :
 Calls gd 139 #[v,b_ c_ reg] w fun e w'=>∃ N,e =fH (fI #[b_ c_ (kV s reg),N])∧gQ w.heap.size w' N (ja (ls s reg))∧Up w w':=by
 obtain⟨qv,rfl,H⟩:=h;obtain⟨qa,qc,rfl⟩:=H.shape;have t:=gg H;clear H;obtain⟨k,r0,r1,r2,r3,q,sent,ra⟩:=s;simp only at V l r;obtain⟨n,b⟩:∃ n,q.length=n:=⟨_,rfl⟩;have d:=gg b;simp only[gX];simp only[b] at t l r ⊢
 clear b;obtain⟨w0,R,hx,hy,z,ai⟩:=lU w (d_ #[b_ c_ k,b_ c_ r0,b_ c_ r1,b_ c_ r2,b_ c_ r3,a_ qa n qc,b_ c_ sent,fJ ra] 75) (d_ #[b_ c_ 0,b_ c_ 0,b_ c_ 0,b_ c_ 0,b_ c_ 0,a_ none 0 0,b_ c_ 0,fJ false] 75);have D:=gg hx;have W:=gg hy;have O:=gg z;have Z:=gg (t.o.below z);clear hx hy z

 rcases V with rfl|rfl|rfl <;> rcases hr with rfl|rfl|rfl|rfl
 rotate_left
 rcases Nat.lt_or_ge 0 n with b|b
 rotate_right
 all_goals
  try have b:=r rfl rfl
  clear r
  go_in
  go_upto_region 1 with(fail)
  rw[←R];clear R;obtain⟨a0,a1,a2,a3,a4,a5,K,B,G,C,F,u,I,M,i6,i7⟩:=jz D.o;go_upto_region 2 with(go_at_call 96;refine(kB _ _ _ _ _ _ _ _ _ _ _ _ (by decide) (by decide) (by decide) (by decide)).mono ?_;rintro e w1 ⟨rfl,f⟩;have aa:=gg (gk f D.o);have p:=gg (gk f W.o);have y:=gg (gj O.o f);have S:=gg (Z.o.below f);clear f a0 a1 a2 a3 a4 a5 K B G C F u I M i6 i7 D W O t Z;obtain⟨a0,a1,a2,a3,a4,a5,K,B,G,C,F,u,I,M,i6,i7⟩:=jz aa.o)
  go_wp2_with fail
 · obtain rfl:q=[]:=fT (by have:=d.o;omega)
   refine(kh _ _ _ _ _ _ _ _ _ _ _ _ S.o d.o (by decide) l).mono ?_
   rintro e w3 ⟨cs,rfl,c,h1,o,a⟩;have P:=gk a.o p.o
   go_wp2_with (refine wpList_store_row rfl 75 _ _ rfl (w.heap.size+1) cs rfl rfl 75 #[b_ c_ 0,b_ c_ 0,b_ c_ 0,b_ c_ 0,b_ c_ 0,a_ none 0 0,b_ c_ 0,fJ false] P (by rw[c];exact g_) (by rw[c];rfl) h1 ?_)
   obtain⟨A,v6,e6,f6⟩:=ki (cs:=cs) (gn p.o) o.o;exact bodyPost_ret (kd rfl _ _ (w.heap.size+1) 75 cs (0,0) _ rfl (setRow_heap _ _ _ _ _ _ P) rfl Tryz.underlying75 rfl (by rw[c];exact g_)) rfl ⟨_,rfl,⟨A,v6,e6,oV.le f6 y.o.size⟩,below_setRow (gj y.o a.o) (Nat.le_succ _) cs⟩
 all_goals
  clear a0 a1 a2 a3 a4 a5 K B G C F u I M i6 i7;refine DT (fun w'=>w'.heap[w.heap.size]? = some (d_ _ 75 (0,0))) (by kernel_rfl) (by kernel_rfl) (by kernel_rfl) (fun _ _ h hu=>gk hu h) aa.o ?_ ?_ (by kernel_rfl) ?_
  rotate_left
  · intro x0 E
    obtain⟨Y,Q,b2,b3,X,b5,T,U,_⟩:=jz E;have hl:=gn E;have g0:=fun x=>gD hl Y x;have g1:=fun x=>gD hl Q x;have g2:=fun x=>gD hl b2 x;have g3:=fun x=>gD hl b3 x;have g4:=fun x=>gD hl X x;have g5:=fun x=>gD hl b5 x;have g6:=fun x=>gD hl T x;have g7:=fun x=>gD hl U x
    clear E Y Q b2 b3 X b5 T U hl;simp only[jd,Aw,List.replicate,reduceIte,Nat.reduceEqDiff];repeat(go_big_quiet_step ((go_at_call 179;(with_reducible (first|exact oA (As _)|exact oA (Ar _)|exact oA (xC _ _))))))
    refine wpQuiet_nil ?_
    rfl
  first|refine js (i:=5) (by decide +kernel) rfl ?_|refine js (i:=7) (by decide +kernel) rfl ?_|refine js (i:=3) (by decide +kernel) rfl ?_|refine js (i:=4) (by decide +kernel) rfl ?_
  intro w2 g hc2
  go_wp2_with (go_at_call 97;(with_reducible refine(kh _ _ _ _ _ _ _ q _ n _ _ (S.o.below (gj (iR fK) g)) d.o (by decide) l).mono ?_);rintro e w3 ⟨cs,rfl,c,h1,o,a⟩)
  refine⟨gk a.o hc2,?_⟩
  first|refine js (i:=6) (by decide +kernel) rfl ?_|refine js (i:=8) (by decide +kernel) rfl ?_|refine js (i:=4) (by decide +kernel) rfl ?_|refine js (i:=5) (by decide +kernel) rfl ?_
  intro w4 m ac;have ab:=gg (gk (gj (gj (gj (iR fK) g) a.o) m) p.o);have ag:=gg (yi m o.o);have ad:=gg (gj (gj y.o (iR fK)) (gj (gj g a.o) m));have l2:w.heap.size+1<w2.heap.size:=gn (gk g p.o);clear g m hc2 a o
  go_wp2_with fail
  refine⟨ac,?_⟩
  first|refine js (i:=7) (by decide +kernel) rfl ?_|refine js (i:=9) (by decide +kernel) rfl ?_|refine js (i:=5) (by decide +kernel) rfl ?_|refine js (i:=6) (by decide +kernel) rfl ?_
  intro w5 j ae
  go_wp2_with (refine wpList_store_row rfl 75 _ _ rfl (w.heap.size+1) cs rfl rfl 75 #[b_ c_ 0,b_ c_ 0,b_ c_ 0,b_ c_ 0,b_ c_ 0,a_ none 0 0,b_ c_ 0,fJ false] (gk j ab.o) (by rw[c];exact g_) (by rw[c];rfl) h1 ?_)
  have ah:(w5.setRow (w.heap.size+1) cs).heap[w.heap.size+1]? = some (d_ cs 75 (0,0)):=setRow_heap _ _ _ _ _ _ (gk j ab.o);have L:=ki (cs:=cs) l2 (yi j ag.o);have af:=below_setRow (gj ad.o j) (Nat.le_succ _) cs;refine⟨(setRow_other _ _ _ _ (by omega)).trans ae,?_⟩;refine od (by kernel_rfl) ?_
  intro w6 J _;have L:=gg L
  go_wp2_with fail
  obtain⟨A,v6,e6,f6⟩:=L.o;refine bodyPost_ret (kd rfl _ _ (w.heap.size+1) 75 cs (0,0) _ rfl (gk J ah) ?_ Tryz.underlying75 rfl (by rw[c];exact g_)) rfl ⟨_,rfl,⟨A,v6,e6.below J,oV.le f6 (by omega)⟩,gj af J⟩
  first|rfl|(refine congrArg (b_ c_) ?_;first|(simp[kV,d.o];omega)|(rw[decide_eq_false (Nat.not_lt.2 b)];exact(by kernel_rfl:wrap64 (2+lz false)=2).trans (by simp[kV,d.o];omega)))
end
section
open Go.RowKit
set_option maxRecDepth 100000
set_option maxHeartbeats 8000000
theorem lA {x} (h:iF x):-9223372036854775808≤x∧x≤9223372036854775807:=by unfold iF at h;omega
theorem sY (x):-9223372036854775808≤wrap32 x∧wrap32 x≤9223372036854775807:=lA (oi x)
theorem Au v s reg m w (h:iZ w v s) (D:s.k=1∨s.k=2∨s.k=3) (i:s.q.length≤1000) (V:reg=0∨reg=1∨reg=3∨reg=2) (W:0≤s.sent∧s.sent≤2147483647) (h3:iF s.r3) (B:iy m) :
 Calls gd 138 #[v,b_ c_ reg,b_ c_ m] w fun e w'=>∃ o,e =fH o∧gQ w.heap.size w' o (ja (kX s reg (wrap32 m)))∧Up w w':=by
 obtain⟨Z,rfl,j⟩:=h;obtain⟨P,T,rfl⟩:=j.shape;have l:=gg j;have Q:=gg B;clear j B;obtain⟨k,r0,r1,r2,r3,q,sent,ra⟩:=s;simp only at D i W h3;obtain⟨n,d⟩:∃ n,q.length=n:=⟨_,rfl⟩;have M:=gg d;simp only[gX];simp only[d] at l i ⊢
 have L:=gg (sY m);have N:=gg (lA h3);have Y:gi (-9223372036854775808≤lG 17 (wrap32 m)∧lG 17 (wrap32 m)≤9223372036854775807):=gg (by rw[show lG 17 (wrap32 m)=wrap32 (-(wrap32 (wrap32 m)) - 1) from rfl];exact sY _);have w1:wrap64 (sent+1)=sent+1:=by unfold wrap64;omega
 have X:=gg h3;clear d h3;obtain⟨w0,A,G,I,x,aa⟩:=lU w (d_ #[b_ c_ k,b_ c_ r0,b_ c_ r1,b_ c_ r2,b_ c_ r3,a_ P n T,b_ c_ sent,fJ ra] 75) (d_ #[b_ c_ 0,b_ c_ 0,b_ c_ 0,b_ c_ 0,b_ c_ 0,a_ none 0 0,b_ c_ 0,fJ false] 75);have f:=gg G;have F:=gg I;have r:=gg x;clear G I x;rcases D with rfl|rfl|rfl <;> rcases V with rfl|rfl|rfl|rfl
 all_goals
  go_in
  go_upto_region 1 with(fail)
  rw[←A];clear A;obtain⟨a0,a1,a2,a3,a4,a5,J,y,E,z,C,p,H,K,i6,i7⟩:=jz f.o;go_upto_region 2 with(go_at_call 96;refine(kB _ _ _ _ _ _ _ _ _ _ _ _ fZ fZ fZ fZ).mono ?_;rintro e w1 ⟨rfl,a⟩;have U:=gg (gk a f.o);have c:=gg (gk a F.o);have O:=gj r.o a;clear a a0 a1 a2 a3 a4 a5 J y E z C p H K i6 i7 f F r;obtain⟨a0,a1,a2,a3,a4,a5,J,y,E,z,C,p,H,K,i6,i7⟩:=jz U.o)
  go_upto_region 14 with(first|(go_at_call 95;refine(gI _ _ Q.o).mono ?_;rintro e w' ⟨rfl,rfl⟩)|(go_at_call 173;refine(qH _ _ _ L.o).mono ?_;rintro e w' ⟨rfl,rfl⟩)|(go_at_call 99;refine(iw _ _ _ _ N.o Y.o).mono ?_;rintro e w' ⟨rfl,rfl⟩))
  go_wp2_with (first|(go_at_call 97;(with_reducible refine(kh _ _ _ _ _ _ _ q _ n _ _ (l.o.below (by repeat(first|(with_reducible exact Below.refl _ _)|(with_reducible refine gO ?_ ?_ _)|(with_reducible apply iS)|(with_reducible refine gj ?_ (by with_reducible assumption))|(with_reducible apply iR)|omega))) M.o fZ i).mono ?_);rintro e w3 ⟨cs,rfl,g,h1,S,t⟩;have u:=gg (gk (b:=w.heap.size+1) t.o (by first|exact c.o|exact(iY (Nat.succ_ne_self _)).trans c.o)))|(refine wpList_store_row rfl 75 _ _ rfl (w.heap.size+1) cs rfl rfl 75 #[b_ c_ 0,b_ c_ 0,b_ c_ 0,b_ c_ 0,b_ c_ 0,a_ none 0 0,b_ c_ 0,fJ false] u.o (by rw[g];exact g_) (by rw[g];rfl) h1 ?_))
  obtain⟨R,v6,e6,f6⟩:=ki (cs:=cs) (gn (by first|exact c.o|exact(iY (Nat.succ_ne_self _)).trans c.o)) S.o;refine bodyPost_ret (results_cell_row rfl _ _ (w.heap.size+1) 75 cs (0,0) _ rfl (setRow_heap _ _ _ _ _ _ u.o) Tryz.underlying75 rfl (by rw[g];exact g_)) rfl ⟨_,rfl,?_,below_setRow (gj (by repeat(first|(with_reducible exact Below.refl _ _)|(with_reducible refine gO ?_ ?_ _)|(with_reducible apply iS)|(with_reducible refine gj ?_ (by with_reducible assumption))|(with_reducible apply iR)|omega)) t.o) (Nat.le_succ _) cs⟩;simp only[kX,reduceIte,Int.reduceEq,pT,←tP X.o];exact⟨R,v6,e6,oV.le f6 (by(try simp only[kj]);exact O.size)⟩
end
section
open Go.RowKit
set_option maxRecDepth 100000
set_option maxHeartbeats 8000000
theorem xE v r0 r1 r2 r3 x sent ra l w (h:iZ w v ⟨1,r0,r1,r2,r3,x :: l,sent,ra⟩) (hq:l.length<1000) :
 Calls gd 139 #[v,b_ c_ 0] w fun e w'=>∃ m,e =fH (fI #[b_ c_ x,m])∧gQ w.heap.size w' m (ja ⟨1,r0,r1,r2,r3,l,sent,ra⟩)∧Up w w':=by
 obtain⟨qv,rfl,a⟩:=h;obtain⟨b,o,I,rfl,U,D,H⟩:=a.cells (by simp);obtain⟨n,d⟩:∃ n,(x :: l).length=n:=⟨_,rfl⟩;have i:n=l.length+1:=by rw[←d];rfl
 simp only[gX];simp only[d] at a U D ⊢
 have V:=gg (by have:=rZ (by simpa[qL] using a) i;rwa [show l.length=n - 1 by omega] at this:gl w 1 (n - 1) (a_ (some ⟨b,o+1,none⟩) (n - 1) (I - 1)) (l.map (b_ c_)))
 have R:gi (n≤1→gl w 1 (n - 1) (a_ (some ⟨b,o,none⟩) (n - 1) 0) (l.map (b_ c_))):=gg (fun h=>by
  have e:l=[]:=fT (by omega);subst e;rw[show n - 1=0 by omega];rcases a.2.2 with⟨e,_⟩|⟨W,o',Z,e,k,_⟩
  · cases e
  · cases e;exact⟨rfl,by simp,.inr ⟨_,_,_,rfl,k,by omega,by unfold maxLen;omega,fun j u P=>by simp at P⟩⟩)
 have ab:b<w.heap.size:=by
  rcases a.2.2 with⟨e,_⟩|⟨W,o',Z,e,k,_⟩
  · cases e
  · cases e;exact k
 have h0:=H 0 (b_ c_ x) (by simp[qL]);obtain⟨w0,C,J,M,z,ac⟩:=lU w (d_ #[b_ c_ 1,b_ c_ r0,b_ c_ r1,b_ c_ r2,b_ c_ r3,a_ (some ⟨b,o,none⟩) n I,b_ c_ sent,fJ ra] 75) (d_ #[b_ c_ 0,b_ c_ 0,b_ c_ 0,b_ c_ 0,b_ c_ 0,a_ none 0 0,b_ c_ 0,fJ false] 75);have f:=gg J;have G:=gg M;have s:=gg z;have S:=gg i;have h1:1≤n:=by omega
 have ad:n≤1000:=by omega
 clear J M z a H d i
 go_in
 go_upto_region 1 with(fail)
 rw[←C];clear C;obtain⟨a0,a1,a2,a3,a4,a5,N,A,F,B,E,q,K,O,i6,i7⟩:=jz f.o;go_upto_region 2 with(go_at_call 96;refine(kB _ _ _ _ _ _ _ _ _ _ _ _ (by decide) (by decide) (by decide) (by decide)).mono ?_;rintro e w1 ⟨rfl,c⟩;have aa:=gg (gk c f.o);have L:=gg (gk c G.o);have r:=gj s.o c;have X:=(r.cell (p:=⟨b,o+0,none⟩) ab).trans h0;simp only[Nat.add_zero] at X;clear c a0 a1 a2 a3 a4 a5 N A F B E q K O i6 i7 f G s;obtain⟨a0,a1,a2,a3,a4,a5,N,A,F,B,E,q,K,O,i6,i7⟩:=jz aa.o)
 unfold maxLen at D
 go_wp2_with fail
 all_goals
  refine(kh _ _ _ _ _ _ _ l _ (n - 1) _ _ (by first|exact V.o.below (by repeat(first|(with_reducible exact Below.refl _ _)|(with_reducible refine gO ?_ ?_ _)|(with_reducible apply iS)|(with_reducible refine gj ?_ (by with_reducible assumption))|(with_reducible apply iR)|omega))|exact(R.o (by omega)).below (by repeat(first|(with_reducible exact Below.refl _ _)|(with_reducible refine gO ?_ ?_ _)|(with_reducible apply iS)|(with_reducible refine gj ?_ (by with_reducible assumption))|(with_reducible apply iR)|omega))) (by have:=S.o;omega) (by decide) (by omega)).mono ?_
  rintro e w3 ⟨cs,rfl,g,Q,Y,t⟩;have y:=gg (gk (b:=w.heap.size+1) t.o ((iY (Nat.succ_ne_self _)).trans L.o))
  go_wp2_with (refine wpList_store_row rfl 75 _ _ rfl (w.heap.size+1) cs rfl rfl 75 #[b_ c_ 0,b_ c_ 0,b_ c_ 0,b_ c_ 0,b_ c_ 0,a_ none 0 0,b_ c_ 0,fJ false] y.o (by rw[g];exact g_) (by rw[g];rfl) Q ?_)
  obtain⟨T,v6,e6,f6⟩:=ki (cs:=cs) (gn ((iY (Nat.succ_ne_self _)).trans L.o)) Y.o;exact bodyPost_ret (kd rfl _ _ (w.heap.size+1) 75 cs (0,0) _ rfl (setRow_heap _ _ _ _ _ _ y.o) rfl Tryz.underlying75 rfl (by rw[g];exact g_)) rfl ⟨_,rfl,⟨T,v6,e6,oV.le f6 (by simp only[kj];exact r.size)⟩,below_setRow (gj (by repeat(first|(with_reducible exact Below.refl _ _)|(with_reducible refine gO ?_ ?_ _)|(with_reducible apply iS)|(with_reducible refine gj ?_ (by with_reducible assumption))|(with_reducible apply iR)|omega)) t.o) (Nat.le_succ _) cs⟩
theorem rY v s reg w (h:iZ w v s) (f:s.k=1∨s.k=2∨s.k=3) (b:s.q.length≤1000) (i:reg=0∨reg=1∨reg=3∨reg=2) :
 Calls gd 139 #[v,b_ c_ reg] w fun e w'=>∃ c,e =fH (fI #[b_ c_ (kV s reg),c])∧gQ w.heap.size w' c (ja (ls s reg))∧Up w w':=by
 by_cases d:s.k=1∧reg=0∧¬ s.q.length≤0
 · obtain⟨a,rfl,g⟩:=d
   obtain⟨k,r0,r1,r2,r3,q,sent,ra⟩:=s;simp only at a;subst a;cases q with
   | nil=>exact absurd (Nat.le_refl 0) g
   | cons x l=>exact xE v r0 r1 r2 r3 x sent ra l w h (by have:(x :: l).length≤1000:=b;simp at this;omega)
 · exact Cz v s reg w h f b i (fun h1 h2=>Decidable.byContradiction fun h3=>d ⟨h1,h2,h3⟩)
end
section
open Go.RowKit
set_option maxRecDepth 100000
set_option maxHeartbeats 8000000
theorem te {e:Nat} (w:World) (u):∀ j v,[u][j]? = some v→(w.alloc (d_ #[u] e)).cell? ((⟨w.heap.size,0,none⟩:Addr).add j)=some v:=fun j v a=>by
 cases j with
 | zero=>rw[kx];exact gv (gH w _) (by simpa using a)
 | succ j=>simp at a
theorem At v s m w (h:iZ w v s) (hk:s.k=1∨s.k=2∨s.k=3) (hq:s.q.length≤16) (h0:iF s.r0) (h1:iF s.r1) (h2:iF s.r2) (h3:iF s.r3) (hm:iy m) :
 Calls gd 51 #[v,b_ c_ m] w fun e w'=>∃ v',e =fH v'∧gQ w.heap.size w' v' (ja (kL s (wrap32 m)))∧Up w w':=by
 obtain⟨qv,rfl,ab⟩:=h;obtain⟨qa,qc,rfl⟩:=ab.shape;have M:=gg ab;have O:=gg hm;clear ab hm;have ag:=wX s;obtain⟨E,hE⟩:∃ E,en s=E:=⟨_,rfl⟩;rw[hE] at ag;have HE:=gg hE;clear hE;obtain⟨F,S⟩:∃ F,(wrap32 (s.r0+1) == s.r1)=F:=⟨_,rfl⟩;obtain⟨k,r0,r1,r2,r3,q,sent,ra⟩:=s;simp only at hk hq h0 h1 h2 h3 ag S;obtain⟨n,Y⟩:∃ n,q.length=n:=⟨_,rfl⟩;have L:=gg Y;simp only[gX];simp only[Y] at M hq ⊢
 have w9:wrap64 (r0+1)=r0+1:=by unfold iF at h0;unfold wrap64;omega
 have P:gi (-9223372036854775808≤r0+1∧r0+1≤9223372036854775807):=gg (by unfold iF at h0;omega);have H1:=gg h1;have H2:=gg h2;have H3:=gg h3;have HW:gi (iF (wrap32 m)):=gg (oi m);have ak:=gg (CY .xor (wrap32 (wrap32 m)) (wrap32 r1));have an:=gg (CY .and (wrap32 (gY 8 (wrap32 m) r1)) (wrap32 r2));clear Y h0 h1 h2 h3;obtain⟨j0,hj,ai,af,ah⟩:=info_parts yT;obtain⟨w0,G,hx,hy,ae,ap⟩:=lU w (d_ #[b_ c_ k,b_ c_ r0,b_ c_ r1,b_ c_ r2,b_ c_ r3,a_ qa n qc,b_ c_ sent,fJ ra] 75) (d_ #[b_ c_ 0,b_ c_ 0,b_ c_ 0,b_ c_ 0,b_ c_ 0,a_ none 0 0,b_ c_ 0,fJ false] 75);have z:=gg hx;have H:=gg hy;have D:=gg ae;clear hx hy ae;rcases hk with rfl|rfl|rfl
 · rcases Nat.lt_or_ge n 16 with W|W
   · go_in
     go_upto_region 1 with(fail)
     rw[←G];clear G;obtain⟨a0,a1,a2,a3,a4,a5,x,i,p,l,o,f,r,y,i6,i7⟩:=jz z.o;go_upto_region 2 with(go_at_call 96;refine(kB _ _ _ _ _ _ _ _ _ _ _ _ fZ fZ fZ fZ).mono ?_;rintro e w1 ⟨rfl,c⟩;have I:=gg (gk c z.o);have t:=gg (gk c H.o);have C:=gj D.o c;clear c a0 a1 a2 a3 a4 a5 x i p l o f r y i6 i7 z H D;obtain⟨a0,a1,a2,a3,a4,a5,x,i,p,l,o,f,r,y,i6,i7⟩:=jz I.o)
     go_upto_region 12 with((go_at_call 95;refine(gI _ _ (by first|exact O.o|exact P.o)).mono ?_;rintro e w' ⟨rfl,rfl⟩))
     go_upto_region 17 with(first|(go_at_call 98;refine(iu _ _ (lA HW.o)).mono ?_;rintro e w' ⟨rfl,rfl⟩)|(at_builtin;refine jc _ rfl _ _ 24 3 rfl j0 (b_ c_ 0) 1 8 Tryz.underlying24 hj ai af ah rfl fZ rfl _ n _ rfl (M.o.below C) f_ ?_;intro v2 w2 ad R;obtain⟨x2,y2,rfl⟩:=gN ad;have T:=gg ad;have aa:=gg (gk R I.o);have Z:=gg (gk R t.o);have ao:=gg (gj C R);have L2:=gg R.size;clear ad R a0 a1 a2 a3 a4 a5 x i p l o f r y i6 i7)|(at_builtin;refine wpList_append_own _ rfl _ _ 24 rfl w1.heap.size 3 j0 (b_ c_ 0) 1 8 Tryz.underlying24 hj ai af ah rfl fZ _ _ _ rfl (gy T.o (gr w2 _)) ⟨w2.heap.size,0,none⟩ 1 1 [b_ c_ ((word (wrap32 m)).tmod 256)] rfl rfl (te w2 _) (by simp[Value.oneCell']) (by unfold maxLen;omega) f_ (by have:=L2.o;rw[World.size_alloc];omega) ?_;intro v3 N ac U _;obtain⟨V,X,rfl⟩:=gN ac;have aj:=gg ((U.block _ (gn (gk (gr w2 _) aa.o)) (fun e=>gS T.o aa.o fZ e.symm)).trans (gk (gr w2 _) aa.o));have t:=gg ((U.block _ (gn (gk (gr w2 _) Z.o)) (fun e=>gS T.o Z.o fZ e.symm)).trans (gk (gr w2 _) Z.o));have Q:=yY (gj ao.o (gr w2 _)) U (fun g e=>fO C.size (T.o.lt g e).1);have al:=gg ac;clear ac U;obtain⟨a0,a1,a2,a3,a4,a5,x,i,p,l,o,f,r,y,i6,i7⟩:=jz aj.o))
     have am:gi (gl (N.setCell ⟨w.heap.size,5,none⟩ (a_ V (n+1) X)) 1 (n+1) (a_ V (n+1) X) ((q ++ [(word (wrap32 m)).tmod 256]).map (b_ c_))):=gg (by have:=gl.own (h_ (j:=5) (u:=a_ V (n+1) X) al.o aj.o fZ) (by intro u hu;simp[qL] at hu;rcases hu with⟨a,_,rfl⟩|rfl <;> rfl);simpa[qL] using this)
     go_wp2_with (first|(go_at_call 97;(with_reducible refine(kh _ _ _ _ _ _ _ (q ++ [(word (wrap32 m)).tmod 256]) _ (n+1) _ _ (am.o) (by simp[L.o]) fZ f_).mono ?_);rintro e N ⟨cs,rfl,d,h1,K,A⟩;have B:=gg (gk (b:=w.heap.size+1) A.o (by repeat(first|exact t.o|refine(iY (Nat.succ_ne_self _)).trans ?_))))|(refine wpList_store_row rfl 75 _ _ rfl (w.heap.size+1) cs rfl rfl 75 #[b_ c_ 0,b_ c_ 0,b_ c_ 0,b_ c_ 0,b_ c_ 0,a_ none 0 0,b_ c_ 0,fJ false] B.o (by rw[d];exact g_) (by rw[d];rfl) h1 ?_))
     obtain⟨J,v6,e6,f6⟩:=ki (cs:=cs) (gn (by repeat(first|exact t.o|refine(iY (Nat.succ_ne_self _)).trans ?_))) K.o;refine bodyPost_ret (results_cell_row rfl _ _ (w.heap.size+1) 75 cs (0,0) _ rfl (setRow_heap _ _ _ _ _ _ B.o) Tryz.underlying75 rfl (by rw[d];exact g_)) rfl ⟨_,rfl,?_,below_setRow (gj (by repeat(first|(with_reducible exact Below.refl _ _)|(with_reducible refine gO ?_ ?_ _)|(with_reducible apply iS)|(with_reducible refine gj ?_ (by with_reducible assumption))|(with_reducible apply iR)|omega)) A.o) (Nat.le_succ _) cs⟩
     have e9:(word (wrap32 m)).tmod 256=bits .and .i64 (wrap32 m) 255:=by
      rw[BT,Int.tmod_eq_emod_of_nonneg (by unfold word;omega)];unfold word;omega
     simp only[kL,reduceIte,Int.reduceEq,L.o,if_pos W,←e9];exact⟨J,v6,e6,oV.le f6 (by(try simp only[kj]);first|exact C.size|exact Q.size)⟩
   · go_in
     go_upto_region 1 with(fail)
     rw[←G];clear G;obtain⟨a0,a1,a2,a3,a4,a5,x,i,p,l,o,f,r,y,i6,i7⟩:=jz z.o;go_upto_region 2 with(go_at_call 96;refine(kB _ _ _ _ _ _ _ _ _ _ _ _ fZ fZ fZ fZ).mono ?_;rintro e w1 ⟨rfl,c⟩;have I:=gg (gk c z.o);have t:=gg (gk c H.o);have C:=gj D.o c;clear c a0 a1 a2 a3 a4 a5 x i p l o f r y i6 i7 z H D;obtain⟨a0,a1,a2,a3,a4,a5,x,i,p,l,o,f,r,y,i6,i7⟩:=jz I.o)
     go_upto_region 17 with((go_at_call 95;refine(gI _ _ (by first|exact O.o|exact P.o)).mono ?_;rintro e w' ⟨rfl,rfl⟩))
     go_wp2_with (first|(go_at_call 97;(with_reducible refine(kh _ _ _ _ _ _ _ (q) _ (n) _ _ (M.o.below (by repeat(first|(with_reducible exact Below.refl _ _)|(with_reducible refine gO ?_ ?_ _)|(with_reducible apply iS)|(with_reducible refine gj ?_ (by with_reducible assumption))|(with_reducible apply iR)|omega))) (L.o) fZ f_).mono ?_);rintro e N ⟨cs,rfl,d,h1,K,A⟩;have B:=gg (gk (b:=w.heap.size+1) A.o (by repeat(first|exact t.o|refine(iY (Nat.succ_ne_self _)).trans ?_))))|(refine wpList_store_row rfl 75 _ _ rfl (w.heap.size+1) cs rfl rfl 75 #[b_ c_ 0,b_ c_ 0,b_ c_ 0,b_ c_ 0,b_ c_ 0,a_ none 0 0,b_ c_ 0,fJ false] B.o (by rw[d];exact g_) (by rw[d];rfl) h1 ?_))
     obtain⟨J,v6,e6,f6⟩:=ki (cs:=cs) (gn (by repeat(first|exact t.o|refine(iY (Nat.succ_ne_self _)).trans ?_))) K.o;refine bodyPost_ret (results_cell_row rfl _ _ (w.heap.size+1) 75 cs (0,0) _ rfl (setRow_heap _ _ _ _ _ _ B.o) Tryz.underlying75 rfl (by rw[d];exact g_)) rfl ⟨_,rfl,?_,below_setRow (gj (by repeat(first|(with_reducible exact Below.refl _ _)|(with_reducible refine gO ?_ ?_ _)|(with_reducible apply iS)|(with_reducible refine gj ?_ (by with_reducible assumption))|(with_reducible apply iR)|omega)) A.o) (Nat.le_succ _) cs⟩;simp only[kL,reduceIte,Int.reduceEq,L.o,if_neg (Nat.not_lt.2 W)];exact⟨J,v6,e6,oV.le f6 (by(try simp only[kj]);first|exact C.size|exact Q.size)⟩
 · cases F
   · go_in
     go_upto_region 1 with(fail)
     rw[←G];clear G;obtain⟨a0,a1,a2,a3,a4,a5,x,i,p,l,o,f,r,y,i6,i7⟩:=jz z.o;go_upto_region 2 with(go_at_call 96;refine(kB _ _ _ _ _ _ _ _ _ _ _ _ fZ fZ fZ fZ).mono ?_;rintro e w1 ⟨rfl,c⟩;have I:=gg (gk c z.o);have t:=gg (gk c H.o);have C:=gj D.o c;clear c a0 a1 a2 a3 a4 a5 x i p l o f r y i6 i7 z H D;obtain⟨a0,a1,a2,a3,a4,a5,x,i,p,l,o,f,r,y,i6,i7⟩:=jz I.o)
     go_upto_region 17 with((go_at_call 95;refine(gI _ _ (by first|exact O.o|exact P.o)).mono ?_;rintro e w' ⟨rfl,rfl⟩))
     go_wp2_with (first|(go_at_call 97;(with_reducible refine(kh _ _ _ _ _ _ _ (q) _ (n) _ _ (M.o.below (by repeat(first|(with_reducible exact Below.refl _ _)|(with_reducible refine gO ?_ ?_ _)|(with_reducible apply iS)|(with_reducible refine gj ?_ (by with_reducible assumption))|(with_reducible apply iR)|omega))) (L.o) fZ f_).mono ?_);rintro e N ⟨cs,rfl,d,h1,K,A⟩;have B:=gg (gk (b:=w.heap.size+1) A.o (by repeat(first|exact t.o|refine(iY (Nat.succ_ne_self _)).trans ?_))))|(refine wpList_store_row rfl 75 _ _ rfl (w.heap.size+1) cs rfl rfl 75 #[b_ c_ 0,b_ c_ 0,b_ c_ 0,b_ c_ 0,b_ c_ 0,a_ none 0 0,b_ c_ 0,fJ false] B.o (by rw[d];exact g_) (by rw[d];rfl) h1 ?_))
     obtain⟨J,v6,e6,f6⟩:=ki (cs:=cs) (gn (by repeat(first|exact t.o|refine(iY (Nat.succ_ne_self _)).trans ?_))) K.o;refine bodyPost_ret (results_cell_row rfl _ _ (w.heap.size+1) 75 cs (0,0) _ rfl (setRow_heap _ _ _ _ _ _ B.o) Tryz.underlying75 rfl (by rw[d];exact g_)) rfl ⟨_,rfl,?_,below_setRow (gj (by repeat(first|(with_reducible exact Below.refl _ _)|(with_reducible refine gO ?_ ?_ _)|(with_reducible apply iS)|(with_reducible refine gj ?_ (by with_reducible assumption))|(with_reducible apply iR)|omega)) A.o) (Nat.le_succ _) cs⟩;simp only[kL,reduceIte,Int.reduceEq,S,Bool.false_and,Bool.or_false];exact⟨J,v6,e6,oV.le f6 (by(try simp only[kj]);first|exact C.size|exact Q.size)⟩
   · cases E
     · go_in
       go_upto_region 1 with(fail)
       rw[←G];clear G;obtain⟨a0,a1,a2,a3,a4,a5,x,i,p,l,o,f,r,y,i6,i7⟩:=jz z.o;go_upto_region 2 with(go_at_call 96;refine(kB _ _ _ _ _ _ _ _ _ _ _ _ fZ fZ fZ fZ).mono ?_;rintro e w1 ⟨rfl,c⟩;have I:=gg (gk c z.o);have t:=gg (gk c H.o);have C:=gj D.o c;clear c a0 a1 a2 a3 a4 a5 x i p l o f r y i6 i7 z H D;obtain⟨a0,a1,a2,a3,a4,a5,x,i,p,l,o,f,r,y,i6,i7⟩:=jz I.o)
       go_upto_region 17 with((go_at_call 95;refine(gI _ _ (by first|exact O.o|exact P.o)).mono ?_;rintro e w' ⟨rfl,rfl⟩))
       go_wp2_with (first|(go_at_call 97;(with_reducible refine(kh _ _ _ _ _ _ _ (q) _ (n) _ _ (M.o.below (by repeat(first|(with_reducible exact Below.refl _ _)|(with_reducible refine gO ?_ ?_ _)|(with_reducible apply iS)|(with_reducible refine gj ?_ (by with_reducible assumption))|(with_reducible apply iR)|omega))) (L.o) fZ f_).mono ?_);rintro e N ⟨cs,rfl,d,h1,K,A⟩;have B:=gg (gk (b:=w.heap.size+1) A.o (by repeat(first|exact t.o|refine(iY (Nat.succ_ne_self _)).trans ?_))))|(refine wpList_store_row rfl 75 _ _ rfl (w.heap.size+1) cs rfl rfl 75 #[b_ c_ 0,b_ c_ 0,b_ c_ 0,b_ c_ 0,b_ c_ 0,a_ none 0 0,b_ c_ 0,fJ false] B.o (by rw[d];exact g_) (by rw[d];rfl) h1 ?_))
       obtain⟨J,v6,e6,f6⟩:=ki (cs:=cs) (gn (by repeat(first|exact t.o|refine(iY (Nat.succ_ne_self _)).trans ?_))) K.o;refine bodyPost_ret (results_cell_row rfl _ _ (w.heap.size+1) 75 cs (0,0) _ rfl (setRow_heap _ _ _ _ _ _ B.o) Tryz.underlying75 rfl (by rw[d];exact g_)) rfl ⟨_,rfl,?_,below_setRow (gj (by repeat(first|(with_reducible exact Below.refl _ _)|(with_reducible refine gO ?_ ?_ _)|(with_reducible apply iS)|(with_reducible refine gj ?_ (by with_reducible assumption))|(with_reducible apply iR)|omega)) A.o) (Nat.le_succ _) cs⟩;simp only[kL,reduceIte,Int.reduceEq,S,HE.o,Bool.and_false,Bool.or_false];exact⟨J,v6,e6,oV.le f6 (by(try simp only[kj]);first|exact C.size|exact Q.size)⟩
     · go_in
       go_upto_region 1 with(fail)
       rw[←G];clear G;obtain⟨a0,a1,a2,a3,a4,a5,x,i,p,l,o,f,r,y,i6,i7⟩:=jz z.o;go_upto_region 2 with(go_at_call 96;refine(kB _ _ _ _ _ _ _ _ _ _ _ _ fZ fZ fZ fZ).mono ?_;rintro e w1 ⟨rfl,c⟩;have I:=gg (gk c z.o);have t:=gg (gk c H.o);have C:=gj D.o c;clear c a0 a1 a2 a3 a4 a5 x i p l o f r y i6 i7 z H D;obtain⟨a0,a1,a2,a3,a4,a5,x,i,p,l,o,f,r,y,i6,i7⟩:=jz I.o)
       go_upto_region 17 with((go_at_call 95;refine(gI _ _ (by first|exact O.o|exact P.o)).mono ?_;rintro e w' ⟨rfl,rfl⟩))
       go_wp2_with (first|(go_at_call 97;(with_reducible refine(kh _ _ _ _ _ _ _ (q) _ (n) _ _ (M.o.below (by repeat(first|(with_reducible exact Below.refl _ _)|(with_reducible refine gO ?_ ?_ _)|(with_reducible apply iS)|(with_reducible refine gj ?_ (by with_reducible assumption))|(with_reducible apply iR)|omega))) (L.o) fZ f_).mono ?_);rintro e N ⟨cs,rfl,d,h1,K,A⟩;have B:=gg (gk (b:=w.heap.size+1) A.o (by repeat(first|exact t.o|refine(iY (Nat.succ_ne_self _)).trans ?_))))|(refine wpList_store_row rfl 75 _ _ rfl (w.heap.size+1) cs rfl rfl 75 #[b_ c_ 0,b_ c_ 0,b_ c_ 0,b_ c_ 0,b_ c_ 0,a_ none 0 0,b_ c_ 0,fJ false] B.o (by rw[d];exact g_) (by rw[d];rfl) h1 ?_))
       obtain⟨J,v6,e6,f6⟩:=ki (cs:=cs) (gn (by repeat(first|exact t.o|refine(iY (Nat.succ_ne_self _)).trans ?_))) K.o;refine bodyPost_ret (results_cell_row rfl _ _ (w.heap.size+1) 75 cs (0,0) _ rfl (setRow_heap _ _ _ _ _ _ B.o) Tryz.underlying75 rfl (by rw[d];exact g_)) rfl ⟨_,rfl,?_,below_setRow (gj (by repeat(first|(with_reducible exact Below.refl _ _)|(with_reducible refine gO ?_ ?_ _)|(with_reducible apply iS)|(with_reducible refine gj ?_ (by with_reducible assumption))|(with_reducible apply iR)|omega)) A.o) (Nat.le_succ _) cs⟩;simp only[kL,reduceIte,Int.reduceEq,S,HE.o,Bool.true_and,Bool.or_true];exact⟨J,v6,e6,oV.le f6 (by(try simp only[kj]);first|exact C.size|exact Q.size)⟩
 · go_in
   go_upto_region 1 with(fail)
   rw[←G];clear G;obtain⟨a0,a1,a2,a3,a4,a5,x,i,p,l,o,f,r,y,i6,i7⟩:=jz z.o;go_upto_region 2 with(go_at_call 96;refine(kB _ _ _ _ _ _ _ _ _ _ _ _ fZ fZ fZ fZ).mono ?_;rintro e w1 ⟨rfl,c⟩;have I:=gg (gk c z.o);have t:=gg (gk c H.o);have C:=gj D.o c;clear c a0 a1 a2 a3 a4 a5 x i p l o f r y i6 i7 z H D;obtain⟨a0,a1,a2,a3,a4,a5,x,i,p,l,o,f,r,y,i6,i7⟩:=jz I.o)
   go_upto_region 17 with(first|(go_at_call 95;refine(gI _ _ (by first|exact O.o|exact P.o)).mono ?_;rintro e w' ⟨rfl,rfl⟩)|(go_at_call 99;refine(iw _ _ _ _ (by first|exact lA HW.o|exact lA ak.o|exact lA H3.o) (by first|exact lA H1.o|exact lA H2.o|exact lA an.o)).mono ?_;rintro e w' ⟨rfl,rfl⟩))
   go_wp2_with (first|(go_at_call 97;(with_reducible refine(kh _ _ _ _ _ _ _ (q) _ (n) _ _ (M.o.below (by repeat(first|(with_reducible exact Below.refl _ _)|(with_reducible refine gO ?_ ?_ _)|(with_reducible apply iS)|(with_reducible refine gj ?_ (by with_reducible assumption))|(with_reducible apply iR)|omega))) (L.o) fZ f_).mono ?_);rintro e N ⟨cs,rfl,d,h1,K,A⟩;have B:=gg (gk (b:=w.heap.size+1) A.o (by repeat(first|exact t.o|refine(iY (Nat.succ_ne_self _)).trans ?_))))|(refine wpList_store_row rfl 75 _ _ rfl (w.heap.size+1) cs rfl rfl 75 #[b_ c_ 0,b_ c_ 0,b_ c_ 0,b_ c_ 0,b_ c_ 0,a_ none 0 0,b_ c_ 0,fJ false] B.o (by rw[d];exact g_) (by rw[d];rfl) h1 ?_))
   obtain⟨J,v6,e6,f6⟩:=ki (cs:=cs) (gn (by repeat(first|exact t.o|refine(iY (Nat.succ_ne_self _)).trans ?_))) K.o;refine bodyPost_ret (results_cell_row rfl _ _ (w.heap.size+1) 75 cs (0,0) _ rfl (setRow_heap _ _ _ _ _ _ B.o) Tryz.underlying75 rfl (by rw[d];exact g_)) rfl ⟨_,rfl,?_,below_setRow (gj (by repeat(first|(with_reducible exact Below.refl _ _)|(with_reducible refine gO ?_ ?_ _)|(with_reducible apply iS)|(with_reducible refine gj ?_ (by with_reducible assumption))|(with_reducible apply iR)|omega)) A.o) (Nat.le_succ _) cs⟩;simp only[kL,reduceIte,Int.reduceEq,←zK HW.o H1.o H2.o H3.o];exact⟨J,v6,e6,oV.le f6 (by(try simp only[kj]);first|exact C.size|exact Q.size)⟩
end
section
open Go.RowKit
set_option maxRecDepth 100000
set_option maxHeartbeats 8000000
theorem DO k w (a:1≤k∧k≤3) :
 Calls gd 37 #[b_ c_ k] w fun e w'=>e =fH (e_ (gX (ix k) (a_ none 0 0)))∧Up w w':=by
 obtain⟨h1,h2⟩:=a;unfold gX ix
 go_in
 go_wp2_with (refine wpList_store_row rfl 75 _ _ rfl w.heap.size #[b_ c_ k,b_ c_ 0,b_ c_ 0,b_ c_ 0,b_ c_ 0,a_ none 0 0,b_ c_ 0,fJ false] rfl rfl 75 #[b_ c_ 0,b_ c_ 0,b_ c_ 0,b_ c_ 0,b_ c_ 0,a_ none 0 0,b_ c_ 0,fJ false] (gH w _) g_ rfl (by simp[Value.oneCell']) ?_)
 exact bodyPost_ret (results_cell_row rfl _ _ w.heap.size 75 _ (0,0) _ rfl (setRow_heap _ _ _ _ _ _ (gH w _)) Tryz.underlying75 rfl g_) rfl ⟨rfl,below_setRow (by repeat(first|(with_reducible exact Below.refl _ _)|(with_reducible refine gO ?_ ?_ _)|(with_reducible apply iS)|(with_reducible refine gj ?_ (by with_reducible assumption))|(with_reducible apply iR)|omega)) fL _⟩
theorem CC v E s t w (h:iZ w v s) (h':iZ w E t) :
 Calls gd 40 #[v,E] w fun e w'=>e =fH (fJ (oD s t))∧Up w w':=by
 obtain⟨qv,rfl,z⟩:=h;obtain⟨Z,qc,rfl⟩:=z.shape;obtain⟨ae,rfl,A⟩:=h';obtain⟨Q,W,rfl⟩:=A.shape;have ha:=fun w=>sO w s t
 obtain⟨w0,j,c,J,m,ag⟩:=lU w (d_ (gX s (a_ Z s.q.length qc)) 75) (d_ (gX t (a_ Q t.q.length W)) 75);have K:=gg (z.below m);have D:=gg (A.below m);have d:=gg c;have P:=gg J;have H:=gg m;clear z A c J m;unfold gX at *
 obtain⟨n,l⟩:∃ n,s.q.length=n:=⟨_,rfl⟩;obtain⟨O,f⟩:∃ n,t.q.length=n:=⟨_,rfl⟩;have y:=gg l;have r:=gg f;rw[l] at K d j;rw[f] at D P j;rw[l,f];clear l f;have HQ:gi (¬ n=O→decide (s.q=t.q)=false):=gg fun h=>decide_eq_false fun e=>h (by rw[←y.o,←r.o,e])
 by_cases hl:n=O
 rotate_left
 all_goals
  try subst hl
  go_in
  go_upto_region 1 with(fail)
  rw[←j];clear j;obtain⟨a0,a1,a2,a3,a4,a5,a6,a7,i0,i1,i2,i3,i4,i5,i6,i7⟩:=jz d.o;obtain⟨b0,b1,b2,b3,b4,b5,b6,b7,j0,j1,j2,j3,j4,j5,j6,j7⟩:=jz P.o
  go_wp2
  all_goals try (go_ret;exact⟨gt (iO (by first|(simp[oD, *];done)|(rw[oD,HQ.o hl];simp))),H.o⟩)
 have N:oD s t=decide (s.q=t.q):=by simp[oD, *]
 have L:=gg N;clear N
 go_loopw [5] (fun i wr=>∃ k:Nat,k≤n∧i =b_ c_ k∧gi (s.q.take k=t.q.take k)∧gi (Up w wr)∧(∀ a,wr.cell? a=w0.cell? a)) (fun i _=>n - (intOf i).toNat)
 case atStart=>exact⟨0,fM,rfl,gg rfl,H,fun _=>rfl⟩
 case round=>
  obtain⟨k,hk,rfl,F,C,g⟩:=hrel;have e5:=(g ⟨w.heap.size,5,none⟩).trans a5;have f5:=(g ⟨w.heap.size+1,5,none⟩).trans b5;have p:=gg g;clear g;by_cases G:k<n
  · obtain⟨b,o,c0,R,hc,V,I⟩:=K.o.cells f_
    obtain⟨b',o',af,S,ad,U,M⟩:=D.o.cells f_;injection R with z1 z2 z3;injection S with z4 z5 z6
    subst z1 z3 z4 z6;clear z2 z5;have B:k<s.q.length:=by rw[y.o];exact G
    have u:k<t.q.length:=by rw[r.o];exact G
    have g1:wr.cell? ⟨b,o+k,none⟩=some (b_ c_ (s.q[k])):=by rw[p.o];exact I k _ (by simp[qL,B])
    have g2:wr.cell? ⟨b',o'+k,none⟩=some (b_ c_ (t.q[k])):=by rw[p.o];exact M k _ (by simp[qL,u])
    clear I M;unfold maxLen at V U;have T:gi (s.q.take (k+1)=s.q.take k ++ [s.q[k]]):=gg (fP B);have aa:gi (t.q.take (k+1)=t.q.take k ++ [t.q[k]]):=gg (fP u);have ac:gi (¬ s.q[k]=t.q[k]→decide (s.q=t.q)=false):=gg fun h=>decide_eq_false fun e=>h (by simp only[e])
    generalize s.q[k]=X at *
    generalize t.q[k]=Y at *
    clear B u;by_cases c:X=Y
    · have ab:(X != Y)=false:=by simp[c]
      have d:=gg c;clear c
      go_wp2_with fail
      go_quiet (fail)
      go_wp2_with fail
      refine⟨⟨k+1,by omega,by go_num,gg ?_,gg (lJ C.o _),p.o⟩,by simp[intOf];omega⟩;rw[T.o,aa.o,F.o,d.o]
    · have ab:(X != Y)=true:=by simp[c]
      have x:=gg (ac.o c);clear c
      go_wp2_with fail
      go_quiet (fail)
      go_wp2
      go_ret;exact⟨gt (iO (L.o.trans x.o).symm),lJ C.o _⟩
  · have x:gi (decide (s.q=t.q)=true):=gg (decide_eq_true (by
     have e:=F.o
     rwa [show k=n by omega,List.take_of_length_le (by rw[y.o];exact fL),List.take_of_length_le (by rw[r.o];exact fL)] at e))
    go_wp2
    go_ret;exact⟨gt (iO (L.o.trans x.o).symm),C.o⟩
end
