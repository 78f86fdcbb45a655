/- What the walks of this statement lean on: shown. -/
import Derived.Test.YtdobddiibgfeaaaGreatZt
set_option linter.all false
set_option maxRecDepth 100000
set_option maxHeartbeats 16000000
namespace Go.Proofs.YtdobddiibgfeaaaGreat
open Value renaming slice→a_,int→b_,agg→e_,pointer→fG,tuple→fI,bool→fJ
open IntKind renaming i64→c_
open Obj renaming cells→d_
open Ending renaming returned→fH
open Go.Proofs.Tryz renaming prog→gd
section
open Go.RowKit
instance:DecidableEq Ln:=fun x y=>decidable_of_iff (x.h=y.h∧x.p=y.p∧x.r=y.r) (by cases x;cases y;simp)
theorem wH (x y:Ln):decide (x=y)=(x.h == y.h && x.p == y.p && x.r == y.r):=by
 rw[Bool.eq_iff_iff];cases x;cases y;simp[and_assoc]
theorem Fe r (x y:Ln) (h:decide (x=y)=r) (w):(Op.equalIn 10000 64 (e_ #[b_ c_ x.h,b_ c_ x.p,fJ x.r]) (e_ #[b_ c_ y.h,b_ c_ y.p,fJ y.r])).run gd w = .ok r w:=by
 have u3:=Tryz.underlying3;have a3:=Tryz.isAgg3;have c:=Tryz.sizeOf3;have u4:=Tryz.underlying4;have a4:=Tryz.isAgg4;have d:=Tryz.sizeOf4;have b:gd.underlying 64=some (.struct (gd.fieldsOf 64)):=by kernel_rfl
 have a:gd.stoodInHeld 64=false:=by kernel_rfl
 rw[←h,wH,show (10000:Nat)=9999+1 from rfl,run_equalIn_agg w 9999 64 _ _ b a];simp only[Program.fieldsOf,Tryz.underlying64]
 go_simp
 cases h0:(x.h == y.h) <;> cases h1:(x.p == y.p) <;> cases h2:(x.r == y.r) <;> simp_all
theorem Mg v E xs d (w) (h:gl w 3 xs.length v (iC j_ xs)) (t:gl w 3 d.length E (iC j_ d)) :
 Calls gd 57 #[v,E] w fun e w'=>e =fH (fJ (decide (xs=d)))∧Up w w':=by
 obtain⟨a,c,rfl⟩:=h.shape;obtain⟨a',Y,rfl⟩:=t.shape;have N:=gg h;have X:=gg t;clear h t;by_cases hl:xs.length=d.length
 · have R:(((xs.length:Nat):Int) != ((d.length:Nat):Int))=false:=by simp[hl]
   by_cases h0:xs.length=0
   · have S:xs=[]:=fT h0
     have Q:d=[]:=fT f_;subst S Q;simp only[List.length_nil] at *
     go_in
     go_wp2_with fail
     refine wp_loop_rounds 1 ?_
     rw[rounds_succ]
     go_wp2
     go_ret;exact⟨gt (iO gb),fK⟩
   · obtain⟨b,o,c0,T,hc,U,D⟩:=Bs N.o f_
     obtain⟨C,A,aa,W,ac,M,G⟩:=Bs X.o f_;injection T with q _ e2;injection W with e3 _ e4
     subst q e2 e3 e4;have I:=gg hl;have B:=gg D;have u:=gg G;clear D G hl;unfold maxLen at U M;go_in
     go_wp2_with fail
     go_loopw [13] (fun i wr=>∃ k:Nat,k≤xs.length∧i =b_ c_ k∧xs.take k=d.take k∧Up w wr∧(∀ a,wr.cell? a=w.cell? a)) (fun i _=>xs.length - (intOf i).toNat)
     case atStart=>exact⟨0,fM,rfl,rfl,fK,fun _=>rfl⟩
     case round=>
      obtain⟨k,Z,rfl,ht,F,J⟩:=hrel;have H:=gg ht;have s:=gg F;have m:=gg J;clear ht F J;by_cases K:k<xs.length
      · have L:k<d.length:=by rw[←I.o];exact K
        have ah:wr.cell? ⟨b,o+k*3,none⟩=some (b_ c_ (xs[k]).h):=by rw[m.o];exact B.o _ _ ((lI (f:=j_) (k:=3) (fun y _=>rfl) (l:=xs) (i:=k) (x:=xs[k]) (fQ (by assumption)) (j:=0) fZ).trans rfl)
        have af:wr.cell? ⟨C,A+k*3,none⟩=some (b_ c_ (d[k]).h):=by rw[m.o];exact u.o _ _ ((lI (f:=j_) (k:=3) (fun y _=>rfl) (l:=d) (i:=k) (x:=d[k]) (fQ (by assumption)) (j:=0) fZ).trans rfl)
        have ag:wr.cell? ⟨b,o+k*3+1,none⟩=some (b_ c_ (xs[k]).p):=by rw[m.o];exact B.o _ _ ((lI (f:=j_) (k:=3) (fun y _=>rfl) (l:=xs) (i:=k) (x:=xs[k]) (fQ (by assumption)) (j:=1) fZ).trans rfl)
        have ad:wr.cell? ⟨C,A+k*3+1,none⟩=some (b_ c_ (d[k]).p):=by rw[m.o];exact u.o _ _ ((lI (f:=j_) (k:=3) (fun y _=>rfl) (l:=d) (i:=k) (x:=d[k]) (fQ (by assumption)) (j:=1) fZ).trans rfl)
        have ab:wr.cell? ⟨b,o+k*3+2,none⟩=some (fJ (xs[k]).r):=by rw[m.o];exact B.o _ _ ((lI (f:=j_) (k:=3) (fun y _=>rfl) (l:=xs) (i:=k) (x:=xs[k]) (fQ (by assumption)) (j:=2) fZ).trans rfl)
        have ae:wr.cell? ⟨C,A+k*3+2,none⟩=some (fJ (d[k]).r):=by rw[m.o];exact u.o _ _ ((lI (f:=j_) (k:=3) (fun y _=>rfl) (l:=d) (i:=k) (x:=d[k]) (fQ (by assumption)) (j:=2) fZ).trans rfl)
        by_cases n:xs[k]=d[k]
        · have O:=fun w=>Fe true xs[k] d[k] (by simp[n]) w
          have V:=gg n;clear n
          go_wp2_with fail
          go_quiet (fail)
          go_wp2_with fail
          refine⟨⟨k+1,by omega,by go_num,?_,lJ s.o _,m.o⟩,by simp[intOf];omega⟩;rw[fP K,fP L,H.o,V.o]
        · have O:=fun w=>Fe false xs[k] d[k] (by simp[n]) w
          have g:decide (xs=d)=false:=decide_eq_false (fun e=>n (by subst e;rfl));have z:=gg g;clear n g
          go_wp2_with fail
          go_quiet (fail)
          go_wp2
          go_ret;exact⟨gt (iO z.o.symm),lJ s.o _⟩
      · have g:decide (xs=d)=true:=decide_eq_true (by
         have q:=H.o;have P:k=xs.length:=by omega
         rw[P,List.take_length,I.o,List.take_length] at q;exact q)
        have z:=gg g;clear g
        go_wp2
        go_ret;exact⟨gt (iO z.o.symm),s.o⟩
 · have R:(((xs.length:Nat):Int) != ((d.length:Nat):Int))=true:=by simp;omega
   have g:decide (xs=d)=false:=decide_eq_false (fun e=>hl (by rw[e]));rw[g];clear hl g;go_in
   go_wp2
   go_ret;exact⟨gt (iO rfl),fK⟩
instance:DecidableEq Ac:=fun x y=>decidable_of_iff (x.h=y.h∧x.d=y.d∧x.g=y.g∧x.w=y.w∧x.n=y.n) (by cases x;cases y;simp)
theorem y_ (x y:Ac):decide (x=y)=(x.h == y.h && x.d == y.d && x.g == y.g && x.w == y.w && x.n == y.n):=by
 rw[Bool.eq_iff_iff];cases x;cases y;simp[and_assoc]
theorem o0 r (x y:Ac) (h:decide (x=y)=r) (w):(Op.equalIn 10000 59 (e_ #[b_ c_ x.h,b_ c_ x.d,b_ c_ x.g,fJ x.w,b_ c_ x.n]) (e_ #[b_ c_ y.h,b_ c_ y.d,b_ c_ y.g,fJ y.w,b_ c_ y.n])).run gd w = .ok r w:=by
 have u3:=Tryz.underlying3;have a3:=Tryz.isAgg3;have c:=Tryz.sizeOf3;have u4:=Tryz.underlying4;have a4:=Tryz.isAgg4;have e:=Tryz.sizeOf4;have b:gd.underlying 59=some (.struct (gd.fieldsOf 59)):=by kernel_rfl
 have a:gd.stoodInHeld 59=false:=by kernel_rfl
 rw[←h,y_,show (10000:Nat)=9999+1 from rfl,run_equalIn_agg w 9999 59 _ _ b a];simp only[Program.fieldsOf,Tryz.underlying59]
 go_simp
 cases h0:(x.h == y.h) <;> cases h1:(x.d == y.d) <;> cases h2:(x.g == y.g) <;> cases h3:(x.w == y.w) <;> cases h4:(x.n == y.n) <;> simp_all
theorem Nu v F xs m (w) (h:gl w 5 xs.length v (iC mK xs)) (C:gl w 5 m.length F (iC mK m)) :
 Calls gd 58 #[v,F] w fun e w'=>e =fH (fJ (decide (xs=m)))∧Up w w':=by
 obtain⟨a,c,rfl⟩:=h.shape;obtain⟨a',Z,rfl⟩:=C.shape;have O:=gg h;have Y:=gg C;clear h C;by_cases hl:xs.length=m.length
 · have S:(((xs.length:Nat):Int) != ((m.length:Nat):Int))=false:=by simp[hl]
   by_cases h0:xs.length=0
   · have T:xs=[]:=fT h0
     have R:m=[]:=fT f_;subst T R;simp only[List.length_nil] at *
     go_in
     go_wp2_with fail
     refine wp_loop_rounds 1 ?_
     rw[rounds_succ]
     go_wp2
     go_ret;exact⟨gt (iO gb),fK⟩
   · obtain⟨b,o,c0,U,hc,V,E⟩:=Bs O.o f_
     obtain⟨z,t,aa,X,ad,N,H⟩:=Bs Y.o f_;injection U with A _ e2;injection X with e3 _ e4
     subst A e2 e3 e4;have J:=gg hl;have u:=gg E;have s:=gg H;clear E H hl;unfold maxLen at V N;go_in
     go_wp2_with fail
     go_loopw [13] (fun i wr=>∃ k:Nat,k≤xs.length∧i =b_ c_ k∧xs.take k=m.take k∧Up w wr∧(∀ a,wr.cell? a=w.cell? a)) (fun i _=>xs.length - (intOf i).toNat)
     case atStart=>exact⟨0,fM,rfl,rfl,fK,fun _=>rfl⟩
     case round=>
      obtain⟨k,hk,rfl,ht,G,K⟩:=hrel;have I:=gg ht;have B:=gg G;have p:=gg K;clear ht G K;by_cases L:k<xs.length
      · have M:k<m.length:=by rw[←J.o];exact L
        have al:wr.cell? ⟨b,o+k*5,none⟩=some (b_ c_ (xs[k]).h):=by rw[p.o];exact u.o _ _ ((lI (f:=mK) (k:=5) (fun y _=>rfl) (l:=xs) (i:=k) (x:=xs[k]) (fQ (by assumption)) (j:=0) fZ).trans rfl)
        have ai:wr.cell? ⟨z,t+k*5,none⟩=some (b_ c_ (m[k]).h):=by rw[p.o];exact s.o _ _ ((lI (f:=mK) (k:=5) (fun y _=>rfl) (l:=m) (i:=k) (x:=m[k]) (fQ (by assumption)) (j:=0) fZ).trans rfl)
        have aj:wr.cell? ⟨b,o+k*5+1,none⟩=some (b_ c_ (xs[k]).d):=by rw[p.o];exact u.o _ _ ((lI (f:=mK) (k:=5) (fun y _=>rfl) (l:=xs) (i:=k) (x:=xs[k]) (fQ (by assumption)) (j:=1) fZ).trans rfl)
        have ae:wr.cell? ⟨z,t+k*5+1,none⟩=some (b_ c_ (m[k]).d):=by rw[p.o];exact s.o _ _ ((lI (f:=mK) (k:=5) (fun y _=>rfl) (l:=m) (i:=k) (x:=m[k]) (fQ (by assumption)) (j:=1) fZ).trans rfl)
        have ab:wr.cell? ⟨b,o+k*5+2,none⟩=some (b_ c_ (xs[k]).g):=by rw[p.o];exact u.o _ _ ((lI (f:=mK) (k:=5) (fun y _=>rfl) (l:=xs) (i:=k) (x:=xs[k]) (fQ (by assumption)) (j:=2) fZ).trans rfl)
        have ag:wr.cell? ⟨z,t+k*5+2,none⟩=some (b_ c_ (m[k]).g):=by rw[p.o];exact s.o _ _ ((lI (f:=mK) (k:=5) (fun y _=>rfl) (l:=m) (i:=k) (x:=m[k]) (fQ (by assumption)) (j:=2) fZ).trans rfl)
        have ac:wr.cell? ⟨b,o+k*5+3,none⟩=some (fJ (xs[k]).w):=by rw[p.o];exact u.o _ _ ((lI (f:=mK) (k:=5) (fun y _=>rfl) (l:=xs) (i:=k) (x:=xs[k]) (fQ (by assumption)) (j:=3) fZ).trans rfl)
        have ak:wr.cell? ⟨z,t+k*5+3,none⟩=some (fJ (m[k]).w):=by rw[p.o];exact s.o _ _ ((lI (f:=mK) (k:=5) (fun y _=>rfl) (l:=m) (i:=k) (x:=m[k]) (fQ (by assumption)) (j:=3) fZ).trans rfl)
        have af:wr.cell? ⟨b,o+k*5+4,none⟩=some (b_ c_ (xs[k]).n):=by rw[p.o];exact u.o _ _ ((lI (f:=mK) (k:=5) (fun y _=>rfl) (l:=xs) (i:=k) (x:=xs[k]) (fQ (by assumption)) (j:=4) fZ).trans rfl)
        have ah:wr.cell? ⟨z,t+k*5+4,none⟩=some (b_ c_ (m[k]).n):=by rw[p.o];exact s.o _ _ ((lI (f:=mK) (k:=5) (fun y _=>rfl) (l:=m) (i:=k) (x:=m[k]) (fQ (by assumption)) (j:=4) fZ).trans rfl)
        by_cases r:xs[k]=m[k]
        · have P:=fun w=>o0 true xs[k] m[k] (by simp[r]) w
          have W:=gg r;clear r
          go_wp2_with fail
          go_quiet (fail)
          go_wp2_with fail
          refine⟨⟨k+1,by omega,by go_num,?_,lJ B.o _,p.o⟩,by simp[intOf];omega⟩;rw[fP L,fP M,I.o,W.o]
        · have P:=fun w=>o0 false xs[k] m[k] (by simp[r]) w
          have q:decide (xs=m)=false:=decide_eq_false (fun e=>r (by subst e;rfl));have D:=gg q;clear r q
          go_wp2_with fail
          go_quiet (fail)
          go_wp2
          go_ret;exact⟨gt (iO D.o.symm),lJ B.o _⟩
      · have q:decide (xs=m)=true:=decide_eq_true (by
         have A:=I.o;have Q:k=xs.length:=by omega
         rw[Q,List.take_length,J.o,List.take_length] at A;exact A)
        have D:=gg q;clear q
        go_wp2
        go_ret;exact⟨gt (iO D.o.symm),B.o⟩
 · have S:(((xs.length:Nat):Int) != ((m.length:Nat):Int))=true:=by simp;omega
   have q:decide (xs=m)=false:=decide_eq_false (fun e=>hl (by rw[e]));rw[q];clear hl q;go_in
   go_wp2
   go_ret;exact⟨gt (iO rfl),fK⟩
theorem Mp d xs c (f g:Nat→Int) (w):∀ (l:List Nat),(∀ i∈l,xs[i]? = some (b_ c_ (f i))∧c[i]? = some (b_ c_ (g i)))→(Op.eqItems (d+1) 3 (gd.cellsOf 3) xs c l).run gd w = .ok (l.all fun i=>f i == g i) w:=by
 have n:gd.cellsOf 3=1:=by kernel_rfl
 intro l
 induction l with
 | nil=>intro _;simp[Op.eqItems]
 |
  cons i l ih=>
  intro h;obtain⟨h1,h2⟩:=h i gb;have m:=ry xs i _ h1;have o:=ry c i _ h2;have e:=fun a b w=>Jp d a b w
  have k:=ih fun j p=>h j (by simp[p])
  rw[n] at k ⊢
  simp only[Op.eqItems,Sem.run_bind,Nat.mul_one,m,o,e,Result.andThen_ok,List.all_cons];cases (f i == g i)
  · simp
  · simpa using k
theorem BS (x y:List Int) (a:x.length=32) (b:y.length=32):((List.range 32).all fun i=>x.getD i 0 == y.getD i 0)=decide (x=y):=by
 rw[Bool.eq_iff_iff];simp only[List.all_eq_true,List.mem_range,beq_iff_eq,decide_eq_true_eq];constructor
 · intro h
   refine List.ext_getElem f_ fun i h1 h2=>?_
   have:=h i f_
   simpa[List.getD_eq_getElem?_getD,h1,h2] using this
 · rintro rfl i _;rfl
theorem vP d x y (b:x.length=32) (c:y.length=32) (w):(Op.equalIn (d+1+1) 54 (e_ (rA x)) (e_ (rA y))).run gd w = .ok (decide (x=y)) w:=by
 obtain⟨i,a⟩:∃ i,gd.info? 3=some i:=info_of_underlying Tryz.underlying3;rw[run_equalIn_array w (d+1) _ _ Tryz.underlying54 a,Mp d (rA x) (rA y) (fun i=>x.getD i 0) (fun i=>y.getD i 0) w (List.range 32) (fun i a=>⟨xu x b i (by simpa using a),xu y c i (by simpa using a)⟩),BS x y b c]
instance:DecidableEq Ht:=fun x y=>decidable_of_iff (x.r=y.r∧x.pc=y.pc∧x.st=y.st∧x.ve=y.ve∧x.sc=y.sc∧x.ep=y.ep∧x.ca=y.ca∧x.le=y.le) (by cases x;cases y;simp)
theorem vZ (x y:Ht):decide (x=y)=(decide (x.r=y.r) && x.pc == y.pc && x.st == y.st && x.ve == y.ve && x.sc == y.sc && x.ep == y.ep && x.ca == y.ca && x.le == y.le):=by
 rw[Bool.eq_iff_iff];cases x;cases y;simp[and_assoc]
theorem o1 r x y (d:x.r.length=32) (c:y.r.length=32) (h:decide (x=y)=r) (w):(Op.equalIn 10000 56 (e_ (hA x)) (e_ (hA y))).run gd w = .ok r w:=by
 have G:gd.underlying 56=some (.struct (gd.fieldsOf 56)):=by kernel_rfl
 have I:gd.stoodInHeld 56=false:=by kernel_rfl
 have z:=fun w=>Ho x d w
 have E:=fun w=>Ho y c w
 obtain⟨n,F,v,N,o,K,A⟩:=lT x d;obtain⟨M,j,L,D,k,p,C⟩:=lT y c;have u:=ry _ _ _ n;have H:=ry _ _ _ F;have Q:=ry _ _ _ v;have R:=ry _ _ _ N;have l:=ry _ _ _ o;have t:=ry _ _ _ K;have q:=ry _ _ _ A;have B:=ry _ _ _ M;have P:=ry _ _ _ j;have i:=ry _ _ _ L;have S:=ry _ _ _ D;have g:=ry _ _ _ k;have J:=ry _ _ _ p;have m:=ry _ _ _ C;have O:=fun w=>vP 9997 x.r y.r d c w
 have e:=fun a b w=>Jp 9998 a b w
 rw[←h,vZ,show (10000:Nat)=9999+1 from rfl,run_equalIn_agg w 9999 56 _ _ G I];simp only[Program.fieldsOf,Tryz.underlying56];simp[Op.eqFields,z,E,O,e,u,H,Q,R,l,t,q,B,P,i,S,g,J,m];clear z E O e u H Q R l t q B P i S g J m n F v N o K A M j L D k p C G I;by_cases h0:x.r=y.r
 case neg=>simp[h0]
 by_cases h1:x.pc=y.pc
 case neg=>simp[h0,h1]
 by_cases h2:x.st=y.st
 case neg=>simp[h0,h1,h2]
 by_cases h3:x.ve=y.ve
 case neg=>simp[h0,h1,h2,h3]
 by_cases h4:x.sc=y.sc
 case neg=>simp[h0,h1,h2,h3,h4]
 by_cases h5:x.ep=y.ep
 case neg=>simp[h0,h1,h2,h3,h4,h5]
 by_cases f:x.ca=y.ca
 case neg=>simp[h0,h1,h2,h3,h4,h5,f]
 by_cases s:x.le=y.le
 case neg=>simp[h0,h1,h2,h3,h4,h5,f,s]
 simp[h0,h1,h2,h3,h4,h5,f,s]
theorem D0 {w w' b o cs} (d:b<w.heap.size) (c:Up w w') (h:w.rangeAt b o cs):w'.rangeAt b o cs:=fun j v a=>by rw[c.cell (p:=⟨b,o+j,none⟩) d];exact h j v a
theorem EK {w:World} {b o k} {xs:List Value} {cs} (c:∀ j u,xs[j]? = some u→w.cell? ⟨b,o+j,none⟩=some u) i (d:cs.length=k) (e:∀ j,j<k→xs[i*k+j]? = cs[j]?):w.rangeAt b (o+i*k) cs:=by
 intro j u a;have f:j<k:=by rw[←d];exact(fR a).1
 have:=c (i*k+j) u (by rw[e j f,a])
 rwa [←Nat.add_assoc] at this
theorem Mh v Q xs d (w) (h:gl w 39 xs.length v (iC hC xs)) (p:gl w 39 d.length Q (iC hC d)) (H:∀ x∈xs,x.r.length=32) (S:∀ x∈d,x.r.length=32) :
 Calls gd 53 #[v,Q] w fun e w'=>e =fH (fJ (decide (xs=d)))∧Up w w':=by
 obtain⟨a,c,rfl⟩:=h.shape;obtain⟨a',c',rfl⟩:=p.shape;have HR:=gg h;have ai:=gg p;have E:=gg H;have N:=gg S;clear h p H S;by_cases hl:xs.length=d.length
 · have ag:(((xs.length:Nat):Int) != ((d.length:Nat):Int))=false:=by simp[hl]
   by_cases h0:xs.length=0
   · have ac:xs=[]:=fT h0
     have ab:d=[]:=fT f_;subst ac ab;simp only[List.length_nil] at *
     go_in
     go_wp2_with fail
     refine wp_loop_rounds 1 ?_
     rw[rounds_succ]
     go_wp2
     go_ret;exact⟨gt (iO gb),fK⟩
   · obtain⟨b,o,c0,hv,F,hc,hm,P⟩:=HR.o.some f_
     obtain⟨B,s,aj,ad,U,al,Z,R⟩:=ai.o.some f_;injection hv with m _ e2;injection ad with e3 _ e4
     subst m e2 e3 e4;have T:=gg hl;have HC:=gg P;have ae:=gg R;clear P R hl;unfold maxLen at hm Z;go_in
     go_wp2_with fail
     go_loopw [13] (fun i wr=>∃ k:Nat,k≤xs.length∧i =b_ c_ k∧xs.take k=d.take k∧Up w wr) (fun i _=>xs.length - (intOf i).toNat)
     case atStart=>exact⟨0,fM,rfl,rfl,fK⟩
     case round=>
      obtain⟨k,hk,rfl,ht,G⟩:=hrel;have L:=gg ht;have l:=gg G;clear ht G;by_cases n:k<xs.length
      · have M:k<d.length:=by rw[←T.o];exact n
        have t:=E.o xs[k] (List.getElem_mem _);have A:=N.o d[k] (List.getElem_mem _);have O:w.rangeAt b (o+k*39) (hC xs[k]):=EK HC.o k (uT t) fun j u=>lI (fun y z=>uT (E.o y z)) (fQ n) u
        have J:w.rangeAt B (s+k*39) (hC d[k]):=EK ae.o k (uT A) fun j u=>lI (fun y z=>uT (N.o y z)) (fQ M) u
        have C:gi (∀ w':World,(∃ x:Wd wr,w'=x.val)→(loadVar 56 ⟨b,o+k*39,none⟩).run gd w' = .ok (e_ (hA xs[k])) w'):=gg (by
         rintro w' ⟨x,rfl⟩;exact By t (pN (fN F l.o.size) (D0 F l.o O) x))
        have D:gi (∀ w':World,(∃ x:Wd wr,w'=x.val)→(loadVar 56 ⟨B,s+k*39,none⟩).run gd w' = .ok (e_ (hA d[k])) w'):=gg (by
         rintro w' ⟨x,rfl⟩;exact By A (pN (fN U l.o.size) (D0 U l.o J) x))
        have d0:decide ((xs.length:Int)≤(k:Int))=false:=by simpa using n
        have ah:=gg (fP n);have W:=gg (fP M);have V:gi (xs[k]≠d[k]→decide (xs=d)=false):=gg fun g=>decide_eq_false (fun e=>g (by subst e;rfl))
        clear O J;generalize xs[k]=X at *
        generalize d[k]=Y at *
        have aa:=fun w=>o1 (decide (X=Y)) X Y t A rfl w
        go_wp2_with fail
        refine kK ga ga ?_
        iterate 3 (go_big_quiet_step (fail))
        go_big_quiet_want
        refine kY 56 _ ⟨b,o+k*39,none⟩ (e_ (hA X)) rfl rfl C.o ?_
        simp only[Act.put,fU,fV,fW]
        go_big_quiet_on
        iterate 3 (go_big_quiet_step (fail))
        go_big_quiet_want
        refine kY 56 _ ⟨B,s+k*39,none⟩ (e_ (hA Y)) rfl rfl D.o ?_
        simp only[Act.put,fU,fV,fW]
        go_big_quiet_on
        repeat(go_big_quiet_step (fail))
        refine wpQuiet_nil ?_
        rintro w6 ⟨⟨ak,I⟩,rfl⟩;have K:=gg I;clear C D aa I;by_cases g:X=Y
        · have f:decide (X=Y)=true:=decide_eq_true g
          have HX:=gg g;clear g;rw[f]
          go_wp2
          go_roundw
          case rel=>exact⟨k+1,by omega,by go_num,by rw[ah.o,W.o,L.o,HX.o],gj l.o K.o⟩
          case measure=>simp[intOf];omega
        · have f:decide (X=Y)=false:=decide_eq_false g
          have q:=gg (V.o g);clear g;rw[f]
          go_wp2
          go_ret;exact⟨gt (iO q.o.symm),gj l.o K.o⟩
      · have f:decide (xs=d)=true:=decide_eq_true (by
         have m:=L.o;have af:k=xs.length:=by omega
         rw[af,List.take_length,T.o,List.take_length] at m;exact m)
        have q:=gg f;clear f
        go_wp2
        go_ret;exact⟨gt (iO q.o.symm),l.o⟩
 · have ag:(((xs.length:Nat):Int) != ((d.length:Nat):Int))=true:=by simp;omega
   have f:decide (xs=d)=false:=decide_eq_false (fun e=>hl (by rw[e]));rw[f];clear hl f;go_in
   go_wp2
   go_ret;exact⟨gt (iO rfl),fK⟩
instance:DecidableEq St:=fun x y=>decidable_of_iff (x.k=y.k∧x.r0=y.r0∧x.r1=y.r1∧x.r2=y.r2∧x.r3=y.r3∧x.q=y.q∧x.sent=y.sent∧x.ra=y.ra) (by cases x;cases y;simp)
theorem GE (x y):oD x y=decide (x=y):=by
 rw[Bool.eq_iff_iff];cases x;cases y;simp[oD,Fa];intro _;constructor
 · rintro⟨⟨b,c,d,e⟩,f,g,h⟩;exact⟨b,c,d,e,h,f,g⟩
 · rintro⟨b,c,d,e,h,f,g⟩;exact⟨⟨b,c,d,e⟩,f,g,h⟩
theorem Is v a s t r w (h:iZ w v s) (b:iZ w a t) (c:decide (s=t)=r) :
 Calls gd 56 #[v,a] w fun e w'=>e =fH (fJ r)∧Up w w':=by
 subst c;rw[←GE];exact xY v a s t w h b
theorem Mi a a' c c' n l xs d (w) (h:gl w 8 xs.length (a_ a xs.length c) (iC sC (xs.zip n))) (h':gl w 8 d.length (a_ a' d.length c') (iC sC (d.zip l))) (hr:jl w n xs) (am:jl w l d) :
 Calls gd 55 #[a_ a xs.length c,a_ a' d.length c',.func (.func 56) #[] #[]] w fun e w'=>e =fH (fJ (decide (xs=d)))∧Up w w':=by
 have HR:=gg h;have aH:=gg h';have HA:=gg hr;have ad:=gg am;clear h h' hr am;by_cases hl:xs.length=d.length
 · have ak:(((xs.length:Nat):Int) != ((d.length:Nat):Int))=false:=by simp[hl]
   by_cases h0:xs.length=0
   · have ay:xs=[]:=fT h0
     have ax:d=[]:=fT f_;subst ay ax;simp only[List.length_nil] at *
     go_in
     go_wp2_with fail
     refine wp_loop_rounds 1 ?_
     rw[rounds_succ]
     go_wp2
     go_ret;exact⟨gt (iO gb),fK⟩
   · obtain⟨b,o,c0,hv,av,hc,hm,aj⟩:=HR.o.some f_
     obtain⟨b',o',aI,az,ap,aF,aw,al⟩:=aH.o.some f_;injection hv with z e1n e2;injection az with e3 e3n e4
     subst z e2 e3 e4;clear e1n e3n;obtain⟨r,J⟩:∃ r,xs.length=r:=⟨_,rfl⟩;have O:d.length=r:=by omega
     have F:=gg J;have ac:=gg O;have HC:=gg aj;have aC:=gg al;clear aj al hl ak;rw[J] at hc h0 ⊢
     rw[O] at aF ⊢
     clear J O;unfold maxLen at hm aw;go_in
     go_wp2_with fail
     go_loopw [17] (fun i wr=>∃ k:Nat,k≤r∧i =b_ c_ k∧xs.take k=d.take k∧Up w wr) (fun i _=>r - (intOf i).toNat)
     case atStart=>exact⟨0,fM,rfl,rfl,fK⟩
     case round=>
      obtain⟨k,hk,rfl,ht,hb⟩:=hrel;have HT:=gg ht;have m:=gg hb;clear ht hb;by_cases aq:k<r
      · have A:k<xs.length:=by rw[F.o];exact aq
        have v:k<d.length:=by rw[ac.o];exact aq
        have ai:k<n.length:=by rw[HA.o.1];exact A
        have af:k<l.length:=by rw[ad.o.1];exact v
        have ag:(xs.zip n)[k]? = some (xs[k],n[k]):=by rw[List.getElem?_zip_eq_some];exact⟨fQ A,fQ ai⟩
        have ae:(d.zip l)[k]? = some (d[k],l[k]):=by rw[List.getElem?_zip_eq_some];exact⟨fQ v,fQ af⟩
        have Q:=HA.o.2 k n[k] xs[k] (fQ ai) (fQ A);have E:=ad.o.2 k l[k] d[k] (fQ af) (fQ v);have f:wr.rangeAt b (o+k*8) (sC (xs[k],n[k])):=D0 av m.o (EK HC.o k (tK _) fun j P=>lI (fun y _=>tK y) ag P);have Z:wr.rangeAt b' (o'+k*8) (sC (d[k],l[k])):=D0 ap m.o (EK aC.o k (tK _) fun j P=>lI (fun y _=>tK y) ae P);have aG:=gg (fP A);have au:=gg (fP v);have ar:gi (xs[k]≠d[k]→decide (xs=d)=false):=gg fun p=>decide_eq_false (fun e=>p (by subst e;rfl))
        obtain⟨a1,a2,s1⟩:=Q.shape;obtain⟨a3,a4,s2⟩:=E.shape;have u:gi (iZ wr (e_ (gX xs[k] n[k])) xs[k]):=gg ⟨_,rfl,Q.below m.o⟩;have x:gi (iZ wr (e_ (gX d[k] l[k])) d[k]):=gg ⟨_,rfl,E.below m.o⟩;rw[s1] at f u;rw[s2] at Z x;clear s1 s2 Q E ag ae;generalize xs[k]=X at *
        generalize d[k]=Y at *
        obtain⟨I,C,S,H,R,x5,x6,x7⟩:=X;obtain⟨L,M,T,W,V,y5,B,G⟩:=Y;have GY:=gg Z;have p0:=f 0 _ rfl;have p1:=f 1 _ rfl;have p2:=f 2 _ rfl;have p3:=f 3 _ rfl;have p4:=f 4 _ rfl;have p5:=f 5 _ rfl;have p6:=f 6 _ rfl;have p7:=f 7 _ rfl;simp only[Nat.add_zero] at p0 p1 p2 p3 p4 p5 p6 p7;clear f Z;unfold gX at u x;obtain⟨w4,ab,aa,N,_⟩:=pC wr (d_ #[b_ c_ I,b_ c_ C,b_ c_ S,b_ c_ H,b_ c_ R,a_ a1 (St.mk I C S H R x5 x6 x7).q.length a2,b_ c_ x6,fJ x7] 75);have aA:=fN ap m.o.size;have g:=D0 aA N GY.o;have q0:=g 0 _ rfl;have q1:=g 1 _ rfl;have q2:=g 2 _ rfl;have q3:=g 3 _ rfl;have q4:=g 4 _ rfl;have q5:=g 5 _ rfl;have q6:=g 6 _ rfl;have q7:=g 7 _ rfl;simp only[Nat.add_zero] at q0 q1 q2 q3 q4 q5 q6 q7;have aD:=gg aa;have aB:=gg N;clear g aa N GY;go_upto_region 6 with(fail)
        rw[←ab];clear ab p0 p1 p2 p3 p4 p5 p6 p7;obtain⟨w5,ah,ao,U,_⟩:=pC w4 (d_ #[b_ c_ L,b_ c_ M,b_ c_ T,b_ c_ W,b_ c_ V,a_ a3 (St.mk L M T W V y5 B G).q.length a4,b_ c_ B,fJ G] 75);go_upto_region 7 with(fail)
        rw[←ah];clear ah q0 q1 q2 q3 q4 q5 q6 q7;have s:=gg (gj aB.o U);obtain⟨t0,t1,t2,t3,t4,t5,t6,t7,_⟩:=jz (gk U aD.o);obtain⟨u0,u1,u2,u3,u4,u5,u6,u7,_⟩:=jz ao;clear ao U;by_cases p:(St.mk I C S H R x5 x6 x7)=(St.mk L M T W V y5 B G)
        · have an:=gg p;clear p
          have D:=gg (decide_eq_true an.o)
          go_wp2_with (go_at_call 56;((with_reducible refine(Is _ _ _ _ true _ (u.o.below s.o) (x.o.below s.o) D.o).mono ?_);rintro e w1 ⟨rfl,K⟩))
          go_roundw
          case rel=>exact⟨k+1,by omega,by go_num,by rw[aG.o,au.o,HT.o,an.o],gj (gj m.o s.o) K⟩
          case measure=>simp[intOf];omega
        · have t:gi (decide (xs=d)=false):=gg (ar.o p)
          have D:=gg (decide_eq_false p);clear p
          go_wp2_with (go_at_call 56;((with_reducible refine(Is _ _ _ _ false _ (u.o.below s.o) (x.o.below s.o) D.o).mono ?_);rintro e w1 ⟨rfl,K⟩))
          go_ret;exact⟨gt (iO t.o.symm),gj (gj m.o s.o) K⟩
      · have t:gi (decide (xs=d)=true):=gg (decide_eq_true (by
         have z:=HT.o;have aE:k=r:=by omega
         rw[aE,←F.o,List.take_length,F.o,←ac.o,List.take_length] at z;exact z))
        go_wp2
        go_ret;exact⟨gt (iO t.o.symm),m.o⟩
 · have ak:(((xs.length:Nat):Int) != ((d.length:Nat):Int))=true:=by simp;omega
   have t:decide (xs=d)=false:=decide_eq_false (fun e=>hl (by rw[e]));rw[t];clear hl t;go_in
   go_wp2
   go_ret;exact⟨gt (iO rfl),fK⟩
instance:DecidableEq i8:=fun x y=>decidable_of_iff (x.words=y.words∧x.harts=y.harts∧x.ends=y.ends∧x.mem=y.mem∧x.devs=y.devs∧x.lines=y.lines∧x.trace=y.trace) (by cases x;cases y;simp)
theorem zY (x y:i8):decide (x=y)=(decide (x.words=y.words) && (decide (x.harts=y.harts) && (decide (x.ends=y.ends) && (decide (x.mem=y.mem) && (decide (x.devs=y.devs) && (decide (x.lines=y.lines) && decide (x.trace=y.trace))))))):=by
 rw[Bool.eq_iff_iff];cases x;cases y;simp
structure Fg (w:World) (cs:Array Value) (M:i8):Prop where
 shape:∃ x0 xn0 xc0 x1 xn1 xc1 x2 xn2 xc2 x3 xn3 xc3 x4 xn4 xc4 x5 xn5 xc5 x6 xn6 xc6 x7 xn7 xc7 x8 xn8 xc8 qs,cs = #[a_ x0 xn0 xc0,a_ x1 xn1 xc1,a_ x2 xn2 xc2,a_ x3 xn3 xc3,a_ x4 xn4 xc4,a_ x5 xn5 xc5,a_ x6 xn6 xc6,a_ x7 xn7 xc7,a_ x8 xn8 xc8] ∧
  gl w 1 M.words.length (a_ x0 xn0 xc0) (gz M.words)∧gl w 39 M.harts.length (a_ x1 xn1 xc1) (iC hC M.harts)∧gl w 1 M.ends.length (a_ x2 xn2 xc2) (gz M.ends) ∧
  gM w (e_ #[a_ x3 xn3 xc3,a_ x4 xn4 xc4,a_ x5 xn5 xc5]) M.mem∧(xn6=M.devs.length∧gl w 8 M.devs.length (a_ x6 xn6 xc6) (iC sC (M.devs.zip qs))∧jl w qs M.devs) ∧
  gl w 3 M.lines.length (a_ x7 xn7 xc7) (iC j_ M.lines)∧gl w 5 M.trace.length (a_ x8 xn8 xc8) (iC mK M.trace)
theorem D6 {w v M} (h:gJ w v M):∃ cs,v =e_ cs∧Fg w cs M:=by
 obtain⟨t,o,p,n,d,k,s,u,q,i,rfl,a⟩:=h;obtain⟨_,_,rfl⟩:=gN a.words;obtain⟨_,_,rfl⟩:=gN a.harts;obtain⟨_,_,rfl⟩:=gN a.ends;obtain⟨_,_,rfl⟩:=gN a.devs;obtain⟨_,_,rfl⟩:=gN a.lines;obtain⟨_,_,rfl⟩:=gN a.trace;obtain⟨c,j,g,m,f,l,r,b,_⟩:=a.mem.parts;have e:=a.mem;injection b with b
 have f1:n =a_ c M.mem.words.length j:=by have:=congrArg (·[0]?) b;simpa using this
 have f2:d =a_ g M.mem.pend.length m:=by have:=congrArg (·[1]?) b;simpa using this
 have f3:k =a_ f M.mem.res.length l:=by have:=congrArg (·[2]?) b;simpa using this
 subst f1 f2 f3;refine⟨_,rfl,⟨_,_,_,_,_,_,_,_,_,_,_,_,_,_,_,_,_,_,_,_,_,_,_,_,_,_,_,i,rfl,?_,?_,?_,e,⟨rfl,?_,a.ques⟩,?_,?_⟩⟩
 · exact gl.own a.words (by simp[gz,Value.oneCell'])
 · exact gl.own a.harts (DW fun x _=>o8 x)
 · exact gl.own a.ends (by simp[gz,Value.oneCell'])
 · exact gl.own a.devs (DW (Ih a.ques))
 · exact gl.own a.lines (DW fun x _=>Dk x)
 · exact gl.own a.trace (DW fun x _=>El x)
theorem ES v H M b w (h:gJ w v M) (P:gJ w H b) (Q:∀ x∈M.harts,x.r.length=32) (J:∀ x∈b.harts,x.r.length=32) :
 Calls gd 19 #[v,H] w fun e w'=>e =fH (fJ (decide (M=b)))∧Up w w':=by
 obtain⟨cs,rfl,⟨x0,az,aa,x1,aj,ae,x2,af,ay,x3,ax,an,x4,ap,aN,x5,aE,aK,x6,aO,aL,x7,ai,av,x8,ac,ab,qs,rfl,r1,r2,r3,C,⟨rn,O,E⟩,G,S⟩⟩:=D6 h;obtain⟨cs',rfl,⟨y0,aq,aA,y1,aC,am,y2,aB,aF,y3,ag,aH,y4,aM,al,y5,ao,ar,y6,aP,au,y7,ah,aJ,y8,aD,aG,aw,rfl,N,T,K,D,⟨sn,Y,Z⟩,W,X⟩⟩:=D6 P;subst rn sn;clear h P;obtain⟨w1,F,L,V,R,_⟩:=lU w (d_ #[a_ x0 az aa,a_ x1 aj ae,a_ x2 af ay,a_ x3 ax an,a_ x4 ap aN,a_ x5 aE aK,a_ x6 M.devs.length aL,a_ x7 ai av,a_ x8 ac ab] 37) (d_ #[a_ y0 aq aA,a_ y1 aC am,a_ y2 aB aF,a_ y3 ag aH,a_ y4 aM al,a_ y5 ao ar,a_ y6 b.devs.length au,a_ y7 ah aJ,a_ y8 aD aG] 37);have l:=gg R;have p:=gg L;have o:=gg V;have R1:=gg r1;have R2:=gg r2;have R3:=gg r3;have R4:=gg C;have R5:=gg O;have ak:=gg E;have R6:=gg G;have R7:=gg S;have S1:=gg N;have S2:=gg T;have S3:=gg K;have S4:=gg D;have S5:=gg Y;have ad:=gg Z;have S6:=gg W;have S7:=gg X;have H3:=gg Q;have aI:=gg J;clear r1 r2 r3 C O E G S N T K D Y Z W X Q J R L V;have c:=gg (zY M b);generalize decide (M=b)=res at *
 go_in;go_upto_region 1 with(fail)
 rw[←F];clear F;obtain⟨c0,_,_,_,_,_,_,_,_⟩:=gU p.o;obtain⟨d0,_,_,_,_,_,_,_,_⟩:=gU o.o
 go_wp2_with fail
 refine(FJ _ _ M.words b.words _ (R1.o.below l.o) (S1.o.below l.o)).mono ?_
 rintro e w2 ⟨rfl,a⟩;have g:=gg (gj l.o a);have y:=gg (gk a p.o);have q:=gg (gk a o.o);clear a p o l c0 d0;generalize decide (M.words=b.words)=q1 at *
 cases q1
 · have e:res=false:=by rw[c.o];simp
   subst e
   go_wp2
   go_ret;exact⟨gt (iO rfl),g.o⟩
 simp only[Bool.true_and] at c;obtain⟨_,c1,_,_,_,_,_,_,_⟩:=gU y.o;obtain⟨_,d1,_,_,_,_,_,_,_⟩:=gU q.o
 go_wp2_with fail
 refine(Mh _ _ M.harts b.harts _ (R2.o.below g.o) (S2.o.below g.o) H3.o aI.o).mono ?_
 rintro e w3 ⟨rfl,a⟩;have f:=gg (gj g.o a);have n:=gg (gk a y.o);have m:=gg (gk a q.o);clear a y q g c1 d1;generalize decide (M.harts=b.harts)=q2 at *
 cases q2
 · have e:res=false:=by rw[c.o];simp
   subst e
   go_wp2
   go_ret;exact⟨gt (iO rfl),f.o⟩
 simp only[Bool.true_and] at c;obtain⟨_,_,c2,_,_,_,_,_,_⟩:=gU n.o;obtain⟨_,_,d2,_,_,_,_,_,_⟩:=gU m.o
 go_wp2_with fail
 refine(FJ _ _ M.ends b.ends _ (R3.o.below f.o) (S3.o.below f.o)).mono ?_
 rintro e w4 ⟨rfl,a⟩;have k:=gg (gj f.o a);have B:=gg (gk a n.o);have A:=gg (gk a m.o);clear a n m f c2 d2;generalize decide (M.ends=b.ends)=q3 at *
 cases q3
 · have e:res=false:=by rw[c.o];simp
   subst e
   go_wp2
   go_ret;exact⟨gt (iO rfl),k.o⟩
 simp only[Bool.true_and] at c;obtain⟨_,_,_,c3,c4,c5,_,_,_⟩:=gU B.o;obtain⟨_,_,_,d3,d4,d5,_,_,_⟩:=gU A.o
 go_wp2_with fail
 refine(xZ _ _ M.mem b.mem _ (R4.o.below k.o) (S4.o.below k.o)).mono ?_
 rintro e w5 ⟨rfl,a⟩;have d:=gg (gj k.o a);have s:=gg (gk a B.o);have u:=gg (gk a A.o);clear a B A k c3 d3 c4 d4 c5 d5;generalize decide (M.mem=b.mem)=q4 at *
 cases q4
 · have e:res=false:=by rw[c.o];simp
   subst e
   go_wp2
   go_ret;exact⟨gt (iO rfl),d.o⟩
 simp only[Bool.true_and] at c;obtain⟨_,_,_,_,_,_,c6,_,_⟩:=gU s.o;obtain⟨_,_,_,_,_,_,d6,_,_⟩:=gU u.o
 go_wp2_with fail
 refine(Mi _ _ _ _ qs aw M.devs b.devs _ (R5.o.below d.o) (S5.o.below d.o) (ak.o.below d.o) (ad.o.below d.o)).mono ?_
 rintro e w6 ⟨rfl,a⟩;have i:=gg (gj d.o a);have t:=gg (gk a s.o);have z:=gg (gk a u.o);clear a s u d c6 d6;generalize decide (M.devs=b.devs)=q5 at *
 cases q5
 · have e:res=false:=by rw[c.o];simp
   subst e
   go_wp2
   go_ret;exact⟨gt (iO rfl),i.o⟩
 simp only[Bool.true_and] at c;obtain⟨_,_,_,_,_,_,_,c7,_⟩:=gU t.o;obtain⟨_,_,_,_,_,_,_,d7,_⟩:=gU z.o
 go_wp2_with fail
 refine(Mg _ _ M.lines b.lines _ (R6.o.below i.o) (S6.o.below i.o)).mono ?_
 rintro e w7 ⟨rfl,a⟩;have j:=gg (gj i.o a);have U:=gg (gk a t.o);have I:=gg (gk a z.o);clear a t z i c7 d7;generalize decide (M.lines=b.lines)=q6 at *
 cases q6
 · have e:res=false:=by rw[c.o];simp
   subst e
   go_wp2
   go_ret;exact⟨gt (iO rfl),j.o⟩
 simp only[Bool.true_and] at c;obtain⟨_,_,_,_,_,_,_,_,c8⟩:=gU U.o;obtain⟨_,_,_,_,_,_,_,_,d8⟩:=gU I.o
 go_wp2_with fail
 refine(Nu _ _ M.trace b.trace _ (R7.o.below j.o) (S7.o.below j.o)).mono ?_
 rintro e w8 ⟨rfl,a⟩;have B8:=gg (gj j.o a);clear a U I j c8 d8
 go_wp2
 go_ret;exact⟨gt (iO c.o.symm),B8.o⟩
theorem Gh {α:Type} p l (x:α):(l ++ [x]).any p=(l.any p || p x):=by simp
theorem CU {α:Type} {p} {l:List α} {j:Nat} {x} (a:l[j]? = some x) (h:p x=true):l.any p=true:=List.any_eq_true.2 ⟨x,List.mem_of_getElem? a,h⟩
def tM (w:World) (r:Bool) (e:Ending) (w':World):Prop:=(∃ n:Int,e =fH (b_ c_ n)∧decide (0≤n)=r)∧Up w w'
def mP (z:Int):Bool:=!(decide (0≤z) && decide (z<4294967296))
def jY (z:Int):Bool:=!(decide (1≤z) && decide (z≤3))
def jK (H:Int) (l:Ln):Bool:=decide (l.h<0) || (decide (H≤l.h) || (decide (l.p<0) || decide (7<l.p)))
theorem Jg z w (a:0≤z∧z<4294967296) r (b:mP z=r) :
 Calls gd 66 #[b_ c_ z] w fun e w'=>e =fH (fJ r)∧Up w w':=by
 have c:r=false:=by rw[←b];simp[mP,a]
 subst c;obtain⟨h0,h1⟩:=a;have a1:IntKind.u32.wrap z=z:=by rw[IntKind.wrap_u32];omega
 have a2:c_.wrap z=z:=IntWalk.i64_in _ f_;have a3:z % 4294967296=z:=by omega
 have a4:(z != z)=false:=by simp
 clear b;go_in
 go_wp2
 go_ret;exact⟨gt (iO (by simp[a1,a2])),fK⟩
theorem vU a b c d f g h k (w):(Instr.field 75 (e_ #[a,b,c,d,f,g,h,k]) 0).run gd w = .ok a w:=by kernel_rfl
theorem Jh z w r (a:jY z=r) :
 Calls gd 26 #[b_ c_ z] w fun e w'=>e =fH (fJ r)∧Up w w':=by
 obtain⟨K,i,m⟩:∃ K:Int,(∀ w,Calls gd 27 #[b_ c_ z] w fun e w'=>∃ j,e =fH j∧gQ w.heap.size w' j (ix K)∧Up w w')∧((ix K).k == 0)=r:=by
  by_cases h:1≤z∧z≤3
  · refine⟨z,fun w=>IN z w h,?_⟩
    rw[←a];have:z=1∨z=2∨z=3:=by omega
    rcases this with rfl|rfl|rfl <;> rfl
  · refine⟨0,fun w=>My z f_ f_ f_ w,?_⟩
    rw[←a];have:jY z=true:=by simp[jY];omega
    rw[this];rfl
 generalize ix K=S at *
 have n:=fun w=>gg (i w)
 clear a i;have q:=fun b c d f g h k w=>vU (b_ c_ S.k) b c d f g h k w
 go_in
 go_wp2_with (go_at_call 27;((with_reducible refine((n _).o).mono ?_);rintro e w1 ⟨p,rfl,⟨o,rfl,_,_⟩,l⟩;unfold gX))
 go_ret;exact⟨gt (iO (by first|rfl|exact m)),l⟩
theorem IQ l H d (w) (g:w.cell? ⟨d,0,none⟩=some (b_ c_ H)) (i:d<w.heap.size) (r) (f:jK H l=r) :
 Calls gd 28 #[e_ #[b_ c_ l.h,b_ c_ l.p,fJ l.r],fG (some ⟨d,0,none⟩)] w fun e w'=>e =fH (fJ r)∧Up w w':=by
 obtain⟨a,b,c⟩:=l;simp only at *
 subst f;by_cases h0:a<0
 · have e:jK H ⟨a,b,c⟩=true:=by simp[jK,h0]
   rw[e];go_in
   go_wp2
   go_ret;exact⟨gt (iO rfl),gr _ _⟩
 · by_cases h1:H≤a
   · have e:jK H ⟨a,b,c⟩=true:=by simp[jK,h1]
     rw[e];go_in
     go_wp2
     go_ret;exact⟨gt (iO rfl),gr _ _⟩
   · by_cases h2:b<0
     · have e:jK H ⟨a,b,c⟩=true:=by simp[jK,h2]
       rw[e];go_in
       go_wp2
       go_ret;exact⟨gt (iO rfl),gr _ _⟩
     · have e:jK H ⟨a,b,c⟩=decide (7<b):=by simp[jK,h0,h1,h2]
       rw[e];go_in
       go_wp2
       go_ret;exact⟨gt (iO gb),gr _ _⟩
theorem Mu v l (w) (h:gl w 1 l.length v (gz l)) (C:∀ z∈l,0≤z∧z<4294967296) :
 Calls gd 68 #[v,.func (.func 66) #[] #[]] w (tM w (l.any (mP))):=by
 obtain⟨a,c,rfl⟩:=h.shape;have E:=gg h;clear h;have D:=gg C;clear C;unfold tM;by_cases q:l=[]
 · subst q
   simp only[List.length_nil] at *
   go_in
   go_wp2_with fail
   refine wp_loop_rounds 1 ?_
   rw[rounds_succ]
   go_wp2
   go_ret;exact⟨⟨_,rfl,by simp⟩,fK⟩
 · obtain⟨b,o,S,H,P,O,L,u⟩:=E.o.some (by cases l;exact absurd rfl q;simp)
   injection H with e1 e1n e2
   subst e1 e2;clear e1n;have F:=gg u;obtain⟨k,g⟩:∃ k,l.length=k:=⟨_,rfl⟩;have B:=gg g;rw[g] at O ⊢
   clear u g q;unfold maxLen at L;go_in
   go_wp2_with fail
   go_loopw [8,5] (fun i _ wr=>∃ j:Nat,j≤k∧i =b_ c_ j∧(l.take j).any (mP)=false∧Up w wr) (fun i _ _=>k - (intOf i).toNat)
   case atStart=>exact⟨0,fM,rfl,rfl,fK⟩
   case round=>
    obtain⟨j,R,rfl,t,r⟩:=hrel;have A:=gg t;have f:=gg r;clear t r;by_cases K:j<k
    · have s:j<l.length:=by rw[B.o];exact K
      have Q:wr.cell? ⟨b,o+j,none⟩=some (b_ c_ l[j]):=(f.o.cell (p:=⟨b,o+j,none⟩) P).trans (F.o j _ (by simp[gz,s]));have y:gi (0≤l[j]∧l[j]<4294967296):=gg (D.o _ (List.getElem_mem _));have M:gi (l[j]? = some l[j]):=gg gb;have N:gi ((l.take (j+1)).any (mP)=((l.take j).any (mP) || (mP) l[j])):=gg (by rw[fP s,Gh]);generalize l[j]=x at *
      cases d:(mP) x
      · have J:gi ((l.take (j+1)).any (mP)=false):=gg (by rw[N.o,A.o,d];rfl)
        have m:=gg d;clear d
        go_wp2_with (go_at_call 66;((with_reducible refine(Jg x _ y.o false m.o).mono ?_);rintro e w1 ⟨rfl,n⟩))
        go_roundw
        case rel=>exact⟨j+1,by omega,by go_num,J.o,gj f.o n⟩
        case measure=>simp[intOf];omega
      · have I:gi (l.any (mP)=true):=gg (CU M.o d)
        have m:=gg d;clear d
        go_wp2_with (go_at_call 66;((with_reducible refine(Jg x _ y.o true m.o).mono ?_);rintro e w1 ⟨rfl,n⟩))
        go_ret;exact⟨⟨_,rfl,by rw[I.o];simp⟩,gj f.o n⟩
    · have G:j=k:=by omega
      subst G
      go_wp2
      go_ret;exact⟨⟨_,rfl,by have h1:=A.o;rw[show l.take j=l from by rw[←B.o,List.take_length]] at h1;rw[h1];rfl⟩,f.o⟩
theorem zL v l r (w) (f:l.any (mP)=r) (h:gl w 1 l.length v (gz l)) (b:∀ z∈l,0≤z∧z<4294967296) :
 Calls gd 31 #[v,.func (.func 66) #[] #[]] w fun e w'=>e =fH (fJ r)∧Up w w':=by
 subst f;have g:=gg (Mu v l w h b);clear h b;go_in
 go_wp2_with (go_at_call 68;((with_reducible refine(g.o).mono ?_);rintro e w1 ⟨⟨n,rfl,a⟩,c⟩;have d:=gg a;clear a))
 go_ret;exact⟨gt (iO (by first|exact d.o|rfl)),c⟩
theorem Nf v l (w) (h:iQ w 1 l.length v (gz l)) :
 Calls gd 68 #[v,.func (.func 26) #[] #[]] w (tM w (l.any (jY))):=by
 obtain⟨a,c,rfl⟩:=h.shape;have A:=gg h;clear h;unfold tM;by_cases q:l=[]
 · subst q
   simp only[List.length_nil] at *
   go_in
   go_wp2_with fail
   refine wp_loop_rounds 1 ?_
   rw[rounds_succ]
   go_wp2
   go_ret;exact⟨⟨_,rfl,by simp⟩,fK⟩
 · obtain⟨b,o,N,D,L,K,H,u⟩:=A.o.some (by cases l;exact absurd rfl q;simp)
   injection D with e1 e1n e2
   subst e1 e2;clear e1n;have B:=gg u;obtain⟨k,g⟩:∃ k,l.length=k:=⟨_,rfl⟩;have z:=gg g;rw[g] at K ⊢
   clear u g q;unfold maxLen at H;go_in
   go_wp2_with fail
   go_loopw [8,5] (fun i _ wr=>∃ j:Nat,j≤k∧i =b_ c_ j∧(l.take j).any (jY)=false∧Up w wr) (fun i _ _=>k - (intOf i).toNat)
   case atStart=>exact⟨0,fM,rfl,rfl,fK⟩
   case round=>
    obtain⟨j,O,rfl,t,r⟩:=hrel;have y:=gg t;have f:=gg r;clear t r;by_cases G:j<k
    · have s:j<l.length:=by rw[z.o];exact G
      have M:wr.cell? ⟨b,o+j,none⟩=some (b_ c_ l[j]):=(f.o.cell (p:=⟨b,o+j,none⟩) L).trans (B.o j _ (by simp[gz,s]));have I:gi (l[j]? = some l[j]):=gg gb;have J:gi ((l.take (j+1)).any (jY)=((l.take j).any (jY) || (jY) l[j])):=gg (by rw[fP s,Gh]);generalize l[j]=x at *
      cases d:(jY) x
      · have F:gi ((l.take (j+1)).any (jY)=false):=gg (by rw[J.o,y.o,d];rfl)
        have m:=gg d;clear d
        go_wp2_with (go_at_call 26;((with_reducible refine(Jh x _ false m.o).mono ?_);rintro e w1 ⟨rfl,n⟩))
        go_roundw
        case rel=>exact⟨j+1,by omega,by go_num,F.o,gj f.o n⟩
        case measure=>simp[intOf];omega
      · have E:gi (l.any (jY)=true):=gg (CU I.o d)
        have m:=gg d;clear d
        go_wp2_with (go_at_call 26;((with_reducible refine(Jh x _ true m.o).mono ?_);rintro e w1 ⟨rfl,n⟩))
        go_ret;exact⟨⟨_,rfl,by rw[E.o];simp⟩,gj f.o n⟩
    · have C:j=k:=by omega
      subst C
      go_wp2
      go_ret;exact⟨⟨_,rfl,by have h1:=y.o;rw[show l.take j=l from by rw[←z.o,List.take_length]] at h1;rw[h1];rfl⟩,f.o⟩
theorem nr v l r (w) (d:l.any (jY)=r) (h:iQ w 1 l.length v (gz l)) :
 Calls gd 31 #[v,.func (.func 26) #[] #[]] w fun e w'=>e =fH (fJ r)∧Up w w':=by
 subst d;have f:=gg (Nf v l w h );clear h;go_in
 go_wp2_with (go_at_call 68;((with_reducible refine(f.o).mono ?_);rintro e w1 ⟨⟨n,rfl,a⟩,b⟩;have c:=gg a;clear a))
 go_ret;exact⟨gt (iO (by first|exact c.o|rfl)),b⟩
theorem L8 H v l (w) (h:iQ w 3 l.length v (iC j_ l)) (g) (C:w.cell? ⟨g,0,none⟩=some (b_ c_ H)) (J:g<w.heap.size) :
 Calls gd 69 #[v,.func (.func 28) #[] #[fG (some ⟨g,0,none⟩)]] w (tM w (l.any (jK H))):=by
 obtain⟨a,c,rfl⟩:=h.shape;have N:=gg h;clear h;have M:=gg C;clear C;have F:=gg J;clear J;unfold tM;by_cases A:l=[]
 · subst A
   simp only[List.length_nil] at *
   go_in
   go_wp2_with fail
   refine wp_loop_rounds 1 ?_
   rw[rounds_succ]
   go_wp2
   go_ret;exact⟨⟨_,rfl,by simp⟩,fK⟩
 · obtain⟨b,o,Z,P,z,W,T,E⟩:=N.o.some (by cases l;exact absurd rfl A;simp)
   injection P with e1 e1n e2
   subst e1 e2;clear e1n;have t:=gg E;obtain⟨k,q⟩:∃ k,l.length=k:=⟨_,rfl⟩;have K:=gg q;rw[q] at W ⊢
   clear E q A;unfold maxLen at T;go_in
   go_wp2_with fail
   go_loopw [8,5] (fun i _ wr=>∃ j:Nat,j≤k∧i =b_ c_ j∧(l.take j).any (jK H)=false∧Up w wr) (fun i _ _=>k - (intOf i).toNat)
   case atStart=>exact⟨0,fM,rfl,rfl,fK⟩
   case round=>
    obtain⟨j,Y,rfl,D,B⟩:=hrel;have G:=gg D;have d:=gg B;clear D B;by_cases S:j<k
    · have n:j<l.length:=by rw[K.o];exact S
      have g0:wr.cell? ⟨b,o+j*3,none⟩=some (b_ c_ l[j].h):=(d.o.cell (p:=⟨b,o+j*3,none⟩) z).trans (t.o (j*3) _ ((lI (f:=j_) (k:=3) (fun y _=>rfl) (l:=l) (i:=j) (x:=l[j]) (fQ n) (j:=0) fZ).trans rfl));have X:wr.cell? ⟨b,o+j*3+1,none⟩=some (b_ c_ l[j].p):=(d.o.cell (p:=⟨b,o+j*3+1,none⟩) z).trans (t.o (j*3+1) _ ((lI (f:=j_) (k:=3) (fun y _=>rfl) (l:=l) (i:=j) (x:=l[j]) (fQ n) (j:=1) fZ).trans rfl));have g2:wr.cell? ⟨b,o+j*3+2,none⟩=some (fJ l[j].r):=(d.o.cell (p:=⟨b,o+j*3+2,none⟩) z).trans (t.o (j*3+2) _ ((lI (f:=j_) (k:=3) (fun y _=>rfl) (l:=l) (i:=j) (x:=l[j]) (fQ n) (j:=2) fZ).trans rfl));have L:gi (wr.cell? ⟨g,0,none⟩=some (b_ c_ H)):=gg ((d.o.cell (p:=⟨g,0,none⟩) F.o).trans M.o);have I:gi (g<wr.heap.size):=gg (fN F.o d.o.size);have U:gi (l[j]? = some l[j]):=gg gb;have V:gi ((l.take (j+1)).any (jK H)=((l.take j).any (jK H) || (jK H) l[j])):=gg (by rw[fP n,Gh]);generalize l[j]=x at *
      cases m:(jK H) x
      · have R:gi ((l.take (j+1)).any (jK H)=false):=gg (by rw[V.o,G.o,m];rfl)
        have s:=gg m;clear m
        go_wp2_with (go_at_call 28;((with_reducible refine(IQ x H g _ L.o I.o false s.o).mono ?_);rintro e w1 ⟨rfl,u⟩))
        go_roundw
        case rel=>exact⟨j+1,by omega,by go_num,R.o,gj d.o u⟩
        case measure=>simp[intOf];omega
      · have Q:gi (l.any (jK H)=true):=gg (CU U.o m)
        have s:=gg m;clear m
        go_wp2_with (go_at_call 28;((with_reducible refine(IQ x H g _ L.o I.o true s.o).mono ?_);rintro e w1 ⟨rfl,u⟩))
        go_ret;exact⟨⟨_,rfl,by rw[Q.o];simp⟩,gj d.o u⟩
    · have O:j=k:=by omega
      subst O
      go_wp2
      go_ret;exact⟨⟨_,rfl,by have h1:=G.o;rw[show l.take j=l from by rw[←K.o,List.take_length]] at h1;rw[h1];rfl⟩,d.o⟩
theorem qd H v l r (w) (j:l.any (jK H)=r) (h:iQ w 3 l.length v (iC j_ l)) (a) (b:w.cell? ⟨a,0,none⟩=some (b_ c_ H)) (c:a<w.heap.size) :
 Calls gd 32 #[v,.func (.func 28) #[] #[fG (some ⟨a,0,none⟩)]] w fun e w'=>e =fH (fJ r)∧Up w w':=by
 subst j;have g:=gg (L8 H v l w h a b c);clear h b c;go_in
 go_wp2_with (go_at_call 69;((with_reducible refine(g.o).mono ?_);rintro e w1 ⟨⟨n,rfl,d⟩,f⟩;have i:=gg d;clear d))
 go_ret;exact⟨gt (iO (by first|exact i.o|rfl)),f⟩
theorem KF n (w) :
 Calls gd 67 #[a_ none 0 0,b_ c_ n] w fun e w'=>e =fH (fJ true)∧Up w w':=by
 go_in
 go_wp2_with fail
 refine wp_loop_rounds 1 ?_
 rw[rounds_succ]
 go_wp2
 go_ret;exact⟨gt (iO rfl),fK⟩
structure kE (w:World) (v:Value) (ws:List Int) (mem:Nat):Prop where
 shape:∃ a c,v =e_ #[a_ a ws.length c,b_ c_ (mem:Int),a_ none 0 0]∧gl w 1 ws.length (a_ a ws.length c) (gz ws)
 words:∀ z∈ws,0≤z∧z<4294967296
 few:ws.length≤65536
 mem:mem≤4096
theorem kE.below {w w' v b m} (h:kE w v b m) (d:Up w w'):kE w' v b m:=by
 obtain⟨a,c,rfl,e⟩:=h.shape;exact⟨⟨a,c,rfl,e.below d⟩,h.words,h.few,h.mem⟩
theorem Dr v b mem w (h:kE w v b mem) :
 Calls gd 30 #[v] w fun e w'=>e =fH (fJ true)∧Up w w':=by
 obtain⟨a,c,rfl,l⟩:=h.shape;have k:=gg l;have j:=gg h.words;have t:=h.few;have E:=h.mem;clear l h
 have r:gi (b.any mP=false):=gg (by
  rw[List.any_eq_false];intro z A;have:=j.o z A;simp[mP,this])
 obtain⟨n,g⟩:∃ n,b.length=n:=⟨_,rfl⟩;have y:=gg g;rw[g] at t k ⊢
 clear g;obtain⟨w1,m,i,o,_⟩:=pC w (d_ #[a_ a n c,b_ c_ (mem:Int),a_ none 0 0] 43);have d:=gg o;obtain⟨u,c1,B⟩:=iv i;have p:=gg i;clear o i;go_in;go_upto_region 2 with(fail)
 rw[←m];clear m
 go_wp2_with fail
 refine(zL _ b false _ r.o (by rw[y.o];exact k.o.below d.o) j.o).mono ?_
 rintro e w2 ⟨rfl,f⟩;obtain⟨C,F,D⟩:=iv (gk f p.o);have x:=gg (gj d.o f);clear u c1 B f d p
 go_wp2_with fail
 refine(KF _ _).mono ?_
 rintro e G ⟨rfl,q⟩;have s:=gg (gj x.o q);clear q
 go_wp2
 go_ret;exact⟨gt (iO rfl),s.o⟩
section
def lM (l:Ln):Ln:={ l with r:=false }
def sK (k:Nat) (a:List Int) (mem:Nat) (b:List Int) (lines:List Ln):i8:=⟨a,List.replicate k nA,List.replicate k 0,mX k mem,b.map ix,lines.map lM,[]⟩
theorem LP:hC nA=List.replicate 39 (b_ c_ 0):=by
 simp[hC,hL,nA]
theorem MJ (n):iC hC (List.replicate n nA)=List.replicate (n*39) (b_ c_ 0):=by
 induction n with
 | zero=>simp[iC]
 |
  succ n ih=>
  rw[List.replicate_succ];have:iC hC (nA :: List.replicate n nA)=hC nA ++ iC hC (List.replicate n nA):=by simp[iC]
  rw[this,ih,LP,Nat.succ_mul,Nat.add_comm,List.replicate_append_replicate]
theorem CI i (h:i<39):zA[i]! =b_ c_ 0:=by
 have:zA=Array.replicate 39 (b_ c_ 0):=by rfl
 rw[this];simp[h]
theorem MC (n):(madeCells zA (n*39)).toList=iC hC (List.replicate n nA):=by
 rw[MJ];apply List.ext_getElem?;intro i;have a:zA.size=39:=rfl;simp only[madeCells,Array.toList_map,Array.toList_range,List.getElem?_map,List.getElem?_replicate,a];by_cases h:i<n*39
 · rw[List.getElem?_range h,if_pos h]
   simp only[Option.map_some];rw[CI _ (Nat.mod_lt _ fZ)]
 · rw[if_neg h,List.getElem?_eq_none (by simpa using by omega)];rfl
theorem MB (n):(madeCells #[b_ c_ 0] (n*1)).toList=gz (List.replicate n 0):=by rw[F_];simp[gz]
theorem Ii {w w' f devs} (h:jl w f devs) (m:∀ s∈devs,s.q=[]) (n:w.heap.size≤w'.heap.size):jl w' f devs:=by
 refine⟨h.1,fun i q s g d=>?_⟩;have a:=h.2 i q s g d;have e:=m s (List.mem_of_getElem? d);unfold qL at a ⊢
 rw[e] at a ⊢
 refine⟨a.1,a.2.1,?_⟩;rcases a.2.2 with h|⟨b,o,c,rfl,p,l,k,t⟩
 · exact .inl h
 · exact .inr ⟨b,o,c,rfl,fN p n,l,k,fun j u r=>by simp at r⟩
theorem MS {w a devs q s} (h:jl w a devs) (d:gl w 1 s.q.length q (qL s)):jl w (a ++ [q]) (devs ++ [s]):=by
 refine⟨by simp[h.1],fun i e s' h1 h2=>?_⟩;by_cases b:i<devs.length
 · rw[List.getElem?_append_left (by rw[h.1];exact b)] at h1
   rw[List.getElem?_append_left b] at h2;exact h.2 i e s' h1 h2
 · have hl:i<devs.length+1:=by have:=(fR h2).1;simpa using this
   have c:i=devs.length:=by omega
   subst c;rw[←h.1] at h1;rw[List.getElem?_append_right fL] at h1;rw[List.getElem?_append_right fL] at h2;simp at h1 h2;subst h1 h2;exact d
structure jo (w:World) (B b:Nat) (wv hv ev m1 m2 m3 dv lv:Value) (qs:List Value) (M:i8):Prop where
 at_:w.heap[b]? = some (d_ #[wv,hv,ev,m1,m2,m3,dv,lv,a_ none 0 0] 37 (0,0))
 base:B≤b
 parts:jH w B wv hv ev m1 m2 m3 dv lv (a_ none 0 0) qs M
 noq:∀ s∈M.devs,s.q=[]
section
variable {w w':World} {B b:Nat} {wv hv ev m1 m2 m3 dv lv:Value} {qs:List Value} {M:i8}
theorem jo.below (h:jo w B b wv hv ev m1 m2 m3 dv lv qs M) (a:Up w w'):jo w' B b wv hv ev m1 m2 m3 dv lv qs M:=
 ⟨iE a (gn h.at_) h.at_,h.base,h.parts.below a,h.noq⟩
theorem jo.isMac (h:jo w B b wv hv ev m1 m2 m3 dv lv qs M):gJ w (e_ #[wv,hv,ev,m1,m2,m3,dv,lv,a_ none 0 0]) M:=⟨_,_,_,_,_,_,_,_,_,_,rfl,h.parts.zero⟩
theorem jo.dev (h:jo w B b wv hv ev m1 m2 m3 dv lv qs M) (d:w.grownBy w' dv.ownBlock) {dv' q s} (A:s.q=[])
 (p:w'.ownsRow B 75 8 dv' (M.devs.length+1) (iC sC (M.devs.zip qs) ++ sC (s,q))) (v:gl w 1 s.q.length q (qL s)) :
 jo (w'.setCell ⟨b,6,none⟩ dv') B b wv hv ev m1 m2 m3 dv' lv (qs ++ [q]) { M with devs:=M.devs ++ [s] }:=by
 have T:=h.parts.devs
 have f:w'.heap[b]? = some (d_ #[wv,hv,ev,m1,m2,m3,dv,lv,a_ none 0 0] 37 (0,0)):=by
  rw[d.block b (gn h.at_) (fun e=>gS T h.at_ fZ e.symm)];exact h.at_
 have D:gM w' (e_ #[m1,m2,m3]) M.mem:=by
  obtain⟨a,b,c,z,e,n,k,k3,j⟩:=h.parts.mem;injection e with e
  have E:m1=a:=by have:=congrArg (·[0]?) e;simpa using this
  have y:m2=b:=by have:=congrArg (·[1]?) e;simpa using this
  have F:m3=c:=by have:=congrArg (·[2]?) e;simpa using this
  subst E y F;exact⟨_,_,_,z,rfl,nC n d fun g e=>ku T n fZ e,nC k d fun g e=>ku T k fZ e,nC k3 d fun g e=>ku T k3 fZ e,j.1,fun i r l m hl=>nC (j.2 i r l m hl) d fun g e=>ku T (j.2 i r l m hl) fZ e⟩
 have K:=nF w' b 6 dv';have r1:=nC h.parts.words d fun g e=>ku T h.parts.words fZ e
 have r2:=nC h.parts.harts d fun g e=>ku T h.parts.harts fZ e
 have r3:=nC h.parts.ends d fun g e=>ku T h.parts.ends fZ e
 have t:=nC h.parts.lines d fun g e=>ku T h.parts.lines fZ e
 have u:=nC h.parts.trace d fun g e=>ku T h.parts.trace fZ e
 have o:∀ x∈M.devs ++ [s],x.q=[]:=fun x f=>by
  rcases List.mem_append.1 f with h1|h1
  · exact h.noq x h1
  · simp at h1;subst h1;exact A
 have C:(M.devs ++ [s]).zip (qs ++ [q])=M.devs.zip qs ++ [(s,q)]:=by rw[List.zip_append h.parts.ques.1.symm];rfl
 refine⟨jb f 6 dv',h.base,⟨iG r1 K (gS r1 f fZ),iG r2 K (gS r2 f fZ),iG r3 K (gS r3 f fZ),yC D K f fZ fZ,?_,
  Ii (MS h.parts.ques v) o (fO d.size K.1),iG t K (gS t f fZ),iG u K (gS u f fZ)⟩,o⟩
 have e:(M.devs ++ [s]).length=M.devs.length+1:=by simp
 rw[C,rz];simp only;rw[e];have:=iG p K (gS p f fZ)
 simpa[iC] using this
theorem jo.line (h:jo w B b wv hv ev m1 m2 m3 dv lv qs M) {g n c} (f:lv =a_ (some ⟨g,0,none⟩) n c) {i} (m:i<M.lines.length) :
 jo (w.setCell ⟨g,i*3+2,none⟩ (fJ false)) B b wv hv ev m1 m2 m3 dv lv qs { M with lines:=M.lines.set i (lM M.lines[i]) }:=by
 have l:lv.ownBlock=some g:=by rw[f];rfl
 obtain⟨p,d⟩:=pE h.parts.lines l;have K:=nF w g (i*3+2) (fJ false);have k:b≠g:=by rintro rfl;have:=h.at_;rw[d] at this;injection this with e;injection e with _ e;exact absurd e fZ
 refine⟨(K.2 b k).trans h.at_,h.base,⟨iG h.parts.words K (gS h.parts.words d fZ),iG h.parts.harts K (gS h.parts.harts d fZ),iG h.parts.ends K (gS h.parts.ends d fZ),yC h.parts.mem K d fZ fZ,iG h.parts.devs K (gS h.parts.devs d fZ),
  Ii h.parts.ques h.noq K.1,?_,iG h.parts.trace K (gS h.parts.trace d fZ)⟩,h.noq⟩
 have j:n=M.lines.length:=by obtain⟨a,o,e⟩:=gN h.parts.lines;rw[f] at e;injection e
 have:=h.parts.lines;rw[f,j] at this;have:=(World.ownsRow.stored this (i*3+2) (fJ false)).1;rw[f,j];rw[Fy (fun y _=>A7 y) (x:=M.lines[i]) (y:=lM M.lines[i]) (fQ m) fZ rfl] at this
 simpa using this
end
theorem KW (l:List Ln) k (a:k<l.length) (h2:k<((l.take k).map lM ++ l.drop k).length):((l.take k).map lM ++ l.drop k).set k (lM ((l.take k).map lM ++ l.drop k)[k])=(l.take (k+1)).map lM ++ l.drop (k+1):=by
 have hl:((l.take k).map lM).length=k:=by simp;omega
 have e:((l.take k).map lM ++ l.drop k)[k]=l[k]:=by
  rw[List.getElem_append_right f_];simp only[List.getElem_drop,hl,Nat.sub_self,Nat.add_zero]
 rw[e];rw[List.set_append_right _ _ f_,hl,Nat.sub_self,List.drop_eq_getElem_cons a,List.set_cons_zero,fP a,List.map_append];simp
end
end
section
open Go.RowKit
section
theorem Eh w (a b c):∃ w0:World,w0=((w.alloc a).alloc b).alloc c∧w0.heap[w.heap.size]? = some a∧w0.heap[w.heap.size+1]? = some b∧w0.heap[w.heap.size+2]? = some c∧Up w w0∧w0.heap.size=w.heap.size+3:=by
 refine⟨_,rfl,?_,?_,?_,gj (gj (gr _ _) (gr _ _)) (gr _ _),by simp⟩
 · exact gk (gr _ _) (gk (gr _ _) (gH w a))
 · have:=gk (gr _ c) (gH (w.alloc a) b);simpa using this
 · have:=gH ((w.alloc a).alloc b) c;simpa using this
structure jJ (W:World) (B H:Nat) (ws:List Int) (lines:List Ln) (m1 m2 m3:Value) (fl:List Bool) (u56 u58 u60 u63 u64 u14:Value) (w:World):Prop where
 bel:Up W w
 f2:fl.getD 2 false=true→w.ownsRow B 3 1 u56 ws.length (gz ws)
 f4:fl.getD 4 false=true→w.ownsRow B 56 39 u58 H (iC hC (List.replicate H nA))
 f6:fl.getD 6 false=true→w.ownsRow B 3 1 u60 H (gz (List.replicate H 0))
 f9:fl.getD 9 false=true→w.ownsRow B 64 3 u63 lines.length (iC j_ lines)
 f10:fl.getD 10 false=true→u64 =e_ #[u56,u58,u60,m1,m2,m3,a_ none 0 0,u63,a_ none 0 0]
 f11:fl.getD 11 false=true → ∃ b,u14 = fG (some ⟨b,0,none⟩)∧B≤b∧W.heap.size≤b∧w.heap[b]? = some (d_ (if fl.getD 12 false=true then #[u56,u58,u60,m1,m2,m3,a_ none 0 0,u63,a_ none 0 0] else gq) 37 (0,0))
theorem jJ.up {W B H f lines i c g d u56 u58 u60 u63 u64 u14 w w1} (h:jJ W B H f lines i c g d u56 u58 u60 u63 u64 u14 w) (a:Up w w1):jJ W B H f lines i c g d u56 u58 u60 u63 u64 u14 w1:=
 ⟨gj h.bel a,fun x=>gy (h.f2 x) a,fun x=>gy (h.f4 x) a,fun x=>gy (h.f6 x) a,fun x=>gy (h.f9 x) a,h.f10,fun x=>by
  obtain⟨b,e,h1,h2,h3⟩:=h.f11 x;exact⟨b,e,h1,h2,gk a h3⟩⟩
def vl:List (List Bool):=
 [false,true].flatMap fun a=>[false,true].flatMap fun f=>[false,true].flatMap fun g=>[false,true].flatMap fun c=>[false,true].flatMap fun b=>[false,true].flatMap fun d=>[false,true].flatMap fun e=>
  if (a || !c) && ((!b || (a && (f && (g && c)))) && (!e || (b && d))) then [[true,true,a,true,f,true,g,true,true,c,b,d,e]] else []
def Bm (a:List Bool) (i:Nat):Bool:=
 i == 2 || i == 4 || i == 6 || (i == 9 && a.getD 2 false) || (i == 10 && (a.getD 2 false && (a.getD 4 false && (a.getD 6 false && a.getD 9 false)))) || i == 11 || (i == 12 && (a.getD 2 false && (a.getD 4 false && (a.getD 6 false && (a.getD 9 false && (a.getD 10 false && a.getD 11 false))))))
theorem I5:∀ a∈vl,a.length=13:=by
 have:(vl.all fun a=>a.length == 13)=true:=by kernel_rfl
 intro a h
 simpa using List.all_eq_true.1 this a h
theorem I6:∀ a∈vl,(a.getD 10 false=true→a.getD 2 false=true∧a.getD 4 false=true∧a.getD 6 false=true∧a.getD 9 false=true)∧(a.getD 12 false=true→a.getD 10 false=true∧a.getD 11 false=true):=by
 have:(vl.all fun a=>(!a.getD 10 false || (a.getD 2 false && (a.getD 4 false && (a.getD 6 false && a.getD 9 false)))) && (!a.getD 12 false || (a.getD 10 false && a.getD 11 false)))=true:=by kernel_rfl
 intro a h;have:=List.all_eq_true.1 this a h;simp only[Bool.and_eq_true,Bool.or_eq_true,Bool.not_eq_true'] at this;refine⟨fun h=>?_,fun h=>?_⟩
 · rcases this.1 with h1|h1
   · rw[h1] at h;cases h
   · exact h1
 · rcases this.2 with h1|h1
   · rw[h1] at h;cases h
   · exact h1
section
variable {W:World} {B H:Nat} {ws:List Int} {lines:List Ln} {m1 m2 m3:Value} {fl:List Bool} {u56 u58 u60 u63 u64 u14:Value} {w w1:World}
theorem jJ.off12 (f:fl∈vl) {i} (e:i=2∨i=4∨i=6∨i=9) (d:fl[i]? = some false):fl.getD 10 false=false∧fl.getD 12 false=false:=by
 obtain⟨h1,h2⟩:=I6 fl f;have h:=yK d
 have a:fl.getD 10 false=false:=by
  cases b:fl.getD 10 false
  · rfl
  · have:=h1 b
    rcases e with rfl|rfl|rfl|rfl
    · rw[this.1] at h;cases h
    · rw[this.2.1] at h;cases h
    · rw[this.2.2.1] at h;cases h
    · rw[this.2.2.2] at h;cases h
 refine⟨a,?_⟩;cases c:fl.getD 12 false
 · rfl
 · rw[(h2 c).1] at a;cases a
theorem jJ.put2 (c:jJ W B H ws lines m1 m2 m3 fl u56 u58 u60 u63 u64 u14 w) (k:fl∈vl) (f:fl[2]? = some false) {v} (j:w1.ownsRow B 3 1 v ws.length (gz ws)) (a:Up w w1):jJ W B H ws lines m1 m2 m3 (fl.set 2 true) v u58 u60 u63 u64 u14 w1:=by
 obtain⟨g,d⟩:=jJ.off12 k (i:=2) gb f;refine⟨gj c.bel a,fun _=>j,fun h=>gy (c.f4 (by rwa [iB _ 2 4 fZ] at h)) a,fun h=>gy (c.f6 (by rwa [iB _ 2 6 fZ] at h)) a,fun h=>gy (c.f9 (by rwa [iB _ 2 9 fZ] at h)) a,fun h=>(by rw[iB _ 2 10 fZ,g] at h;cases h),fun h=>?_⟩;obtain⟨b,e,h1,h2,h3⟩:=c.f11 (by rwa [iB _ 2 11 fZ] at h);refine⟨b,e,h1,h2,?_⟩;rw[iB _ 2 12 fZ,d,if_neg fZ];rw[d,if_neg fZ] at h3;exact gk a h3
theorem jJ.put4 (c:jJ W B H ws lines m1 m2 m3 fl u56 u58 u60 u63 u64 u14 w) (k:fl∈vl) (f:fl[4]? = some false) {v} (j:w1.ownsRow B 56 39 v H (iC hC (List.replicate H nA))) (a:Up w w1):jJ W B H ws lines m1 m2 m3 (fl.set 4 true) u56 v u60 u63 u64 u14 w1:=by
 obtain⟨g,d⟩:=jJ.off12 k (i:=4) gb f;refine⟨gj c.bel a,fun h=>gy (c.f2 (by rwa [iB _ 4 2 fZ] at h)) a,fun _=>j,fun h=>gy (c.f6 (by rwa [iB _ 4 6 fZ] at h)) a,fun h=>gy (c.f9 (by rwa [iB _ 4 9 fZ] at h)) a,fun h=>(by rw[iB _ 4 10 fZ,g] at h;cases h),fun h=>?_⟩;obtain⟨b,e,h1,h2,h3⟩:=c.f11 (by rwa [iB _ 4 11 fZ] at h);refine⟨b,e,h1,h2,?_⟩;rw[iB _ 4 12 fZ,d,if_neg fZ];rw[d,if_neg fZ] at h3;exact gk a h3
theorem jJ.put6 (c:jJ W B H ws lines m1 m2 m3 fl u56 u58 u60 u63 u64 u14 w) (k:fl∈vl) (f:fl[6]? = some false) {v} (j:w1.ownsRow B 3 1 v H (gz (List.replicate H 0))) (a:Up w w1):jJ W B H ws lines m1 m2 m3 (fl.set 6 true) u56 u58 v u63 u64 u14 w1:=by
 obtain⟨g,d⟩:=jJ.off12 k (i:=6) gb f;refine⟨gj c.bel a,fun h=>gy (c.f2 (by rwa [iB _ 6 2 fZ] at h)) a,fun h=>gy (c.f4 (by rwa [iB _ 6 4 fZ] at h)) a,fun _=>j,fun h=>gy (c.f9 (by rwa [iB _ 6 9 fZ] at h)) a,fun h=>(by rw[iB _ 6 10 fZ,g] at h;cases h),fun h=>?_⟩;obtain⟨b,e,h1,h2,h3⟩:=c.f11 (by rwa [iB _ 6 11 fZ] at h);refine⟨b,e,h1,h2,?_⟩;rw[iB _ 6 12 fZ,d,if_neg fZ];rw[d,if_neg fZ] at h3;exact gk a h3
theorem jJ.put9 (c:jJ W B H ws lines m1 m2 m3 fl u56 u58 u60 u63 u64 u14 w) (k:fl∈vl) (f:fl[9]? = some false) {v} (j:w1.ownsRow B 64 3 v lines.length (iC j_ lines)) (a:Up w w1):jJ W B H ws lines m1 m2 m3 (fl.set 9 true) u56 u58 u60 v u64 u14 w1:=by
 obtain⟨g,d⟩:=jJ.off12 k (i:=9) gb f;refine⟨gj c.bel a,fun h=>gy (c.f2 (by rwa [iB _ 9 2 fZ] at h)) a,fun h=>gy (c.f4 (by rwa [iB _ 9 4 fZ] at h)) a,fun h=>gy (c.f6 (by rwa [iB _ 9 6 fZ] at h)) a,fun _=>j,fun h=>(by rw[iB _ 9 10 fZ,g] at h;cases h),fun h=>?_⟩;obtain⟨b,e,h1,h2,h3⟩:=c.f11 (by rwa [iB _ 9 11 fZ] at h);refine⟨b,e,h1,h2,?_⟩;rw[iB _ 9 12 fZ,d,if_neg fZ];rw[d,if_neg fZ] at h3;exact gk a h3
theorem jJ.put10 (a:jJ W B H ws lines m1 m2 m3 fl u56 u58 u60 u63 u64 u14 w):jJ W B H ws lines m1 m2 m3 (fl.set 10 true) u56 u58 u60 u63 (e_ #[u56,u58,u60,m1,m2,m3,a_ none 0 0,u63,a_ none 0 0]) u14 w:=by
 refine⟨a.bel,fun h=>(a.f2 (by rwa [iB _ 10 2 fZ] at h)),fun h=>(a.f4 (by rwa [iB _ 10 4 fZ] at h)),fun h=>(a.f6 (by rwa [iB _ 10 6 fZ] at h)),fun h=>(a.f9 (by rwa [iB _ 10 9 fZ] at h)),fun _=>rfl,fun h=>?_⟩;obtain⟨b,e,h1,h2,h3⟩:=a.f11 (by rwa [iB _ 10 11 fZ] at h);refine⟨b,e,h1,h2,?_⟩;rw[iB _ 10 12 fZ];exact h3
theorem jJ.put11 (a:jJ W B H ws lines m1 m2 m3 fl u56 u58 u60 u63 u64 u14 w) (g:fl∈vl) (d:fl[11]? = some false) (i:B≤W.heap.size):jJ W B H ws lines m1 m2 m3 (fl.set 11 true) u56 u58 u60 u63 u64 (fG (some ⟨w.heap.size,0,none⟩)) (w.alloc (d_ gq 37)):=by
 have b:=gr w (d_ gq 37)
 have e:fl.getD 12 false=false:=by
  cases c:fl.getD 12 false
  · rfl
  · have:=((I6 fl g).2 c).2
    rw[yK d] at this;cases this
 have f:=a.bel.size;refine⟨gj a.bel b,fun h=>gy (a.f2 (by rwa [iB _ 11 2 fZ] at h)) b,fun h=>gy (a.f4 (by rwa [iB _ 11 4 fZ] at h)) b,fun h=>gy (a.f6 (by rwa [iB _ 11 6 fZ] at h)) b,fun h=>gy (a.f9 (by rwa [iB _ 11 9 fZ] at h)) b,fun h=>a.f10 (by rwa [iB _ 11 10 fZ] at h),fun _=>⟨_,rfl,by omega,f,?_⟩⟩;rw[iB _ 11 12 fZ,e,if_neg fZ];exact gH w _
theorem jJ.put12 (a:jJ W B H ws lines m1 m2 m3 fl u56 u58 u60 u63 u64 u14 w) (g:fl∈vl) {b f} (c:w.heap[b]? = some (d_ f 37 (0,0))) (i:u14 = fG (some ⟨b,0,none⟩)) (e:B≤b) (d:W.heap.size≤b) :
 jJ W B H ws lines m1 m2 m3 (fl.set 12 true) u56 u58 u60 u63 u64 u14 (w.setRow b #[u56,u58,u60,m1,m2,m3,a_ none 0 0,u63,a_ none 0 0]):=by
 have K:=BL w b #[u56,u58,u60,m1,m2,m3,a_ none 0 0,u63,a_ none 0 0];refine⟨below_setRow a.bel d _,fun h=>iG (a.f2 (by rwa [iB _ 12 2 fZ] at h)) K (gS (a.f2 (by rwa [iB _ 12 2 fZ] at h)) c fZ),fun h=>iG (a.f4 (by rwa [iB _ 12 4 fZ] at h)) K (gS (a.f4 (by rwa [iB _ 12 4 fZ] at h)) c fZ),fun h=>iG (a.f6 (by rwa [iB _ 12 6 fZ] at h)) K (gS (a.f6 (by rwa [iB _ 12 6 fZ] at h)) c fZ),fun h=>iG (a.f9 (by rwa [iB _ 12 9 fZ] at h)) K (gS (a.f9 (by rwa [iB _ 12 9 fZ] at h)) c fZ),fun h=>a.f10 (by rwa [iB _ 12 10 fZ] at h),fun h=>⟨b,i,e,d,?_⟩⟩;rw[if_pos ((FP fl 12).2 (by have:=I5 fl g;omega))];exact setRow_heap _ _ _ _ _ _ c
end
theorem Bl:(gd.info? 33).map (·.size)=some 3:=by kernel_rfl
theorem GD (H:Nat) v kv lv ws mem c lines w (hi:kE w v ws mem) (hk:iQ w 1 c.length kv (gz c)) (hl:iQ w 3 lines.length lv (iC j_ lines)) (hH:1≤H∧H≤4)
 (cc:c.length≤8) (cm:lines.length≤8) (b0:c.any jY=false) (am:lines.any (jK H)=false) :
 Calls gd 11 #[b_ c_ (H:Int),v,kv,lv] w fun e w'=>∃ v',e =fH (fI #[v',b_ c_ 0])∧gJ w' v' (sK H ws mem c lines)∧Up w w':=by
 have HI:=gg hi;have cj:=hi.few;have cY:=hi.mem;obtain⟨ia,ic,rfl,bJ⟩:=hi.shape;obtain⟨ka,kc,rfl⟩:=hk.shape;obtain⟨la,lc,rfl⟩:=hl.shape;have HR:=gg bJ;have HK:=gg hk;have HL:=gg hl;have bD:=gg b0;have cf:=gg am;obtain⟨nk,aW⟩:∃ n,n=c.length:=⟨_,rfl⟩;obtain⟨N,a6⟩:∃ n,n=lines.length:=⟨_,rfl⟩;obtain⟨nw,aJ⟩:∃ n,n=ws.length:=⟨_,rfl⟩;have NK:=gg aW;have NL:=gg a6;have NW:=gg aJ;rw[←aW] at cc ⊢;rw[←a6] at cm ⊢;rw[←aJ] at cj ⊢
 have d1:(b_ c_ (nk:Int)) =b_ c_ (nk:Int):=rfl;obtain⟨cS,cQ⟩:=hH;clear hi bJ hk hl b0 am aW a6 aJ d1;obtain⟨w1,bd,bp,bX,bw,ae,aU⟩:=Eh w (d_ #[b_ c_ (H:Int)] 3) (d_ #[a_ ia nw ic,b_ c_ (mem:Int),a_ none 0 0] 43) (d_ gq 37);have aO:=gg bp;have aN:=gg bX;have aZ:=gg bw;have bN:=gg ae;clear bp bX bw ae aU;go_in;go_upto_region 3 with(fail)
 rw[←bd];clear bd;have q0:=gv aO.o (j:=0) rfl;obtain⟨r0,r1,r2⟩:=iv aN.o;have E2:gi (oo (H:Int) (mem:Int)=(mX H mem,0)):=gg (by unfold oo;rw[if_pos f_];simp);have HN:gi (∀ w,Calls gd 29 #[b_ c_ (H:Int),b_ c_ (mem:Int)] w (oj w w.heap.size (mX H mem,0))):=gg (fun w=>by have:=td (H:Int) (mem:Int) w;rw[E2.o] at this;exact this);go_upto_region 4 with(first|(go_at_call 29;((with_reducible refine(HN.o _).mono ?_);rintro e w2 ⟨v2,rfl,a1,af⟩;obtain⟨d,r,m,o,l,B,C,z,y,rfl⟩:=AR a1;have Z:=gg a1;have aj:=gg af;clear a1 af))|(refine wpList_store_row rfl 33 _ _ rfl w2.heap.size #[a_ d r m,a_ o l B,a_ C z y] rfl rfl 33 #[a_ none 0 0,a_ none 0 0,a_ none 0 0] (gH w2 _) Bl rfl (by simp[Value.oneCell']) ?_))
 have ak:Up w2 ((w2.alloc zM).setRow w2.heap.size #[a_ d r m,a_ o l B,a_ C z y]):=below_setRow (gr w2 _) fL _;have aD:gi (((w2.alloc zM).setRow w2.heap.size #[a_ d r m,a_ o l B,a_ C z y]).heap[w2.heap.size]? = some (d_ #[a_ d r m,a_ o l B,a_ C z y] 33 (0,0))):=gg (setRow_heap _ _ _ _ _ _ (gH w2 _));have bW:=gg (gj bN.o aj.o);have au:=gg (gk ak (gk aj.o aO.o));have aB:=gg (gk ak (gk aj.o aN.o));have V:=gg (gk ak (gk aj.o aZ.o));have R:=gg (Z.o.below ak);have W:=gg (gj bW.o ak);have cx:w.heap.size+2<w2.heap.size:=gn (gk aj.o aZ.o);clear ak q0 r0 r1 r2 aO aN aZ bN Z bW aj;obtain⟨w3,bC⟩:∃ x,x=(w2.alloc zM).setRow w2.heap.size #[a_ d r m,a_ o l B,a_ C z y]:=⟨_,rfl⟩;rw[←bC] at aD au aB V R W ⊢
 clear bC;obtain⟨r0,r1,r2⟩:=iv aB.o;have cE:=gn aD.o;have cR:w.heap.size+2<w2.heap.size:=cx;generalize w2.heap.size=bm at *
 have bn:w3.cell? ⟨w.heap.size,0,none⟩=some (b_ c_ (H:Int)):=gv au.o (j:=0) rfl;have aX:=gn au.o;have bI:gi (iQ w 1 c.length (a_ ka nk kc) (gz c)):=gg (by rw[NK.o];exact HK.o);have bl:gi (iQ w 3 lines.length (a_ la N lc) (iC j_ lines)):=gg (by rw[NL.o];exact HL.o);clear HK HL;have g1:decide (8<(nk:Int))=false:=by simp;omega
 have g2:decide (8<(N:Int))=false:=by simp;omega
 go_upto_region 6 with(first|(go_at_call 30;((with_reducible refine(Dr _ ws mem _ (by rw[NW.o];exact HI.o.below W.o)).mono ?_);rintro e w4 ⟨rfl,bP⟩;have aL:=gg bP;clear bP))|(go_at_call 31;((with_reducible refine(nr _ c false _ bD.o (bI.o.below (gj W.o aL.o))).mono ?_);rintro e w5 ⟨rfl,bh⟩;have ar:=gg (gj aL.o bh);clear bh))|(go_at_call 32;((with_reducible refine(qd (H:Int) _ lines false _ cf.o (bl.o.below (gj W.o ar.o)) w.heap.size ((ar.o.cell (p:=⟨w.heap.size,0,none⟩) aX).trans bn) (fN aX ar.o.size)).mono ?_);rintro e w6 ⟨rfl,bv⟩;have aa:=gg (gj ar.o bv);clear bv)))
 have aA:=gg (gk aa.o au.o);have aG:=gg (gk aa.o aB.o);have aH:=gg (gk aa.o V.o);have aC:=gg (gk aa.o aD.o);have aY:=gg (R.o.below aa.o);have ai:=gg (gj W.o aa.o);clear r0 r1 r2 cE bn aX aL ar au aB V aD R W aa HN E2;obtain⟨w9,bE⟩:∃ x,x=w6:=⟨_,rfl⟩;rw[←bE] at aA aG aH aC aY ai ⊢
 clear bE;obtain⟨i0,bc,a9,bF,bg⟩:=info_parts EZ;obtain⟨i1,bY,bA,bM,bt⟩:=info_parts yT;refine fX (fun w'=>Up w9 w') [true,true,false,true,false,true,false,true,true] (fun a b h hu=>gj h hu) fK ?a' ?h ?ht
 case h=>
  intro w0 ag;have k0:w0.cell? ⟨w.heap.size,0,none⟩=some (b_ c_ (H:Int)):=gv (gk ag aA.o) (j:=0) rfl;obtain⟨k1,k2,k3⟩:=iv (gk ag aG.o);obtain⟨k4,k5,k6⟩:=iv (gk ag aC.o);have l0:=gn (gk ag aA.o);have l1:=gn (gk ag aG.o);have l2:=gn (gk ag aC.o);have x0:=fun x=>gD l0 k0 x;have d:=fun x=>gD l1 k1 x;have x4:=fun x=>gD l2 k4 x;have x5:=fun x=>gD l2 k5 x;have x6:=fun x=>gD l2 k6 x
  clear ag k0 k1 k2 k3 k4 k5 k6;simp only[jd];repeat(go_big_quiet_step (fail))
  refine wpQuiet_nil ?_
  rfl
 case ht=>
  change kN _ _ _ _ _ 7 _ _ _;have bG:gi (gl w9 1 ws.length (a_ ia nw ic) (gz ws)):=gg (by rw[NW.o];exact HR.o.below ai.o);have bo:gi (iQ w9 3 lines.length (a_ la N lc) (iC j_ lines)):=gg (bl.o.below ai.o);have ce:ws.length*8≤140737488355328:=by rw[←NW.o];omega
  have cn:lines.length*24≤140737488355328:=by rw[←NL.o];omega
  have br:w.heap.size≤w9.heap.size:=ai.o.size;refine Ek vl Bm [true,true,false,true,false,true,false,true,true,false,false,false,false] _ (fun a0 fl a w'=>∃ u56 u58 u60 u63 u64 u14,a=((((((a0.put (some 56) u56).put (some 58) u58).put (some 60) u60).put (some 63) u63).put (some 64) u64).put (some 14) u14)∧jJ w9 w.heap.size H ws lines (a_ d r m) (a_ o l B) (a_ C z y) fl u56 u58 u60 u63 u64 u14 w') ga ga ga (iR fK) ?s ?i ?e ?t
  case s=>
   refine⟨undef,undef,undef,undef,undef,undef,by simp only[Act.put,fU,fV,fW],⟨iR fK,?_,?_,?_,?_,?_,?_⟩⟩
   all_goals exact fun h=>absurd h fZ
  case i=>
   rintro fl a w7 w8 ⟨u56,u58,u60,u63,u64,u14,e,A⟩ hu;exact⟨u56,u58,u60,u63,u64,u14,e,A.up hu⟩
  case t=>
   rintro fl a w7 i X ⟨u56,u58,u60,u63,u64,u14,rfl,A⟩ U aK hf;have f:=gg A;have b3:=gg (bG.o.below A.bel);have ck:=gg (bo.o.below A.bel);have ad:w.heap.size≤w7.heap.size:=fO br A.bel.size;clear A;unfold Bm at aK;simp only[Bool.or_eq_true,Bool.and_eq_true,beq_iff_eq] at aK;rcases aK with(((((rfl|rfl)|rfl)|⟨rfl,h2⟩)|⟨rfl,h2,h4,h6,h9⟩)|rfl)|⟨rfl,h2,h4,h6,h9,b6,b2⟩
   · refine kZ (i:=2) rfl ?_
     simp only[Act.put,fU,fV,fW]
     go_wp2_with (go_at_call 33;((with_reducible refine(pD _ _ _ _ b3.o ce).mono ?_);rintro e w8 ⟨v8,rfl,G,aw⟩;have ac:=gg G;have F:=gg aw;clear G aw))
     exact⟨gj U F.o,v8,u58,u60,u63,u64,u14,rfl,f.o.put2 X hf (jW ac.o ad) F.o⟩
   · refine kZ (i:=4) rfl ?_
     simp only[Act.put,fU,fV,fW];obtain⟨w8,cK,G,ao⟩:=run_make_full (P:=gd) w7 w.heap.size 30 56 i0 (e_ zA) 39 Tryz.underlying30 bc a9 bF .i64 .i64 H (by rw[bg];omega) (by unfold maxLen;omega) ad;rw[show (e_ zA).cells=zA from rfl,MC] at G;have ac:=gg G;have F:=gg (EN ao);clear G ao
     go_wp2_with fail
     exact⟨gj U F.o,u56,_,u60,u63,u64,u14,rfl,f.o.put4 X hf ac.o F.o⟩
   · refine kZ (i:=6) rfl ?_
     simp only[Act.put,fU,fV,fW];obtain⟨w8,cK,G,ao⟩:=run_make_full (P:=gd) w7 w.heap.size 24 3 i1 (b_ c_ 0) 1 Tryz.underlying24 bY bA bM .i64 .i64 H (by rw[bt];omega) (by unfold maxLen;omega) ad;rw[show (b_ c_ 0:Value).cells = #[b_ c_ 0] from rfl,MB] at G;have ac:=gg G;have F:=gg (EN ao);clear G ao
     go_wp2_with fail
     exact⟨gj U F.o,u56,u58,_,u63,u64,u14,rfl,f.o.put6 X hf ac.o F.o⟩
   · refine kZ (i:=9) rfl ?_
     simp only[Act.put,fU,fV,fW]
     go_wp2_with (go_at_call 34;((with_reducible refine(FB _ _ _ _ ck.o cn).mono ?_);rintro e w8 ⟨v8,rfl,G,aw⟩;have ac:=gg G;have F:=gg aw;clear G aw))
     exact⟨gj U F.o,u56,u58,u60,v8,u64,u14,rfl,f.o.put9 X hf (jW ac.o ad) F.o⟩
   · refine kZ (i:=10) rfl ?_
     obtain⟨_,_,rfl⟩:=gN (f.o.f2 h2);obtain⟨_,_,rfl⟩:=gN (f.o.f4 h4);obtain⟨_,_,rfl⟩:=gN (f.o.f6 h6);obtain⟨_,_,rfl⟩:=gN (f.o.f9 h9);simp only[Act.put,fU,fV,fW]
     go_wp2_with fail
     exact⟨U,_,_,_,_,_,u14,rfl,f.o.put10⟩
   · refine kZ (i:=11) rfl ?_
     simp only[Act.put,fU,fV,fW]
     go_wp2_with fail
     exact⟨gj U (gr _ _),u56,u58,u60,u63,u64,_,rfl,f.o.put11 X hf br⟩
   · refine kZ (i:=12) rfl ?_
     have aP:=f.o.f10 b6;obtain⟨b,ay,ae,af,Y⟩:=f.o.f11 b2;have cr:=yK hf;rw[cr,if_neg fZ] at Y;have HX:=gg Y;have cH:=gg (f.o.put12 X Y ay ae af);obtain⟨_,_,rfl⟩:=gN (f.o.f2 h2);obtain⟨_,_,rfl⟩:=gN (f.o.f4 h4);obtain⟨_,_,rfl⟩:=gN (f.o.f6 h6);obtain⟨_,_,rfl⟩:=gN (f.o.f9 h9);subst aP ay;clear Y f;simp only[Act.put,fU,fV,fW]
     go_wp2_with (refine wpList_store_row rfl 37 _ _ rfl b _ rfl rfl 37 gq HX.o je rfl (by simp[Value.oneCell']) ?_)
     exact⟨below_setRow U af _,_,_,_,_,_,_,rfl,cH.o⟩
  case e=>
   rintro fl a w7 ha X ⟨u56,u58,u60,u63,u64,u14,rfl,A⟩ U;have ci:=I5 fl X;have T:=fun (i:Nat) (hi:i<13)=>Gi ha (i:=i) f_
   have aP:=A.f10 (T 10 fZ);obtain⟨b,ay,ae,af,Y⟩:=A.f11 (T 11 fZ);rw[if_pos (T 12 fZ)] at Y;have o2:=A.f2 (T 2 fZ);have o4:=A.f4 (T 4 fZ);have o6:=A.f6 (T 6 fZ);have o9:=A.f9 (T 9 fZ);obtain⟨I,Q,rfl⟩:=gN o2;obtain⟨J,M,rfl⟩:=gN o4;obtain⟨O,K,rfl⟩:=gN o6;obtain⟨S,L,rfl⟩:=gN o9;subst aP ay;have HP:gi (jo w7 w.heap.size b (a_ I ws.length Q) (a_ J H M) (a_ O H K) (a_ d r m) (a_ o l B) (a_ C z y) (a_ none 0 0) (a_ S lines.length L) [] ⟨ws,List.replicate H nA,List.replicate H 0,mX H mem,[],lines,[]⟩):=gg ⟨Y,ae,⟨o2,by simpa using o4,by simpa using o6,aY.o.below A.bel,World.ownsRow_nil _ _ _ _,⟨rfl,fun i q s h=>by simp at h⟩,o9,World.ownsRow_nil _ _ _ _⟩,fun s hs=>by cases hs⟩;have bz:=gg (gk A.bel aH.o);have F:=gg (gj ai.o A.bel);have cT:b≠w.heap.size+2:=by rintro rfl;have:=gn aH.o;omega
   clear A Y o2 o4 o6 o9 T ha X ci U ae af aY aA aG aH aC ai HR HI bG bo bc a9 bF bg bY bA bM bt;simp only[Act.put,fU,fV,fW]
   go_wp2_with fail
   go_loopw [67] (fun j wr=>∃ (k:Nat) (D:Option Addr) (E:Nat) (qs:List Value),k≤nk∧j =b_ c_ k∧jo wr w.heap.size b (a_ I ws.length Q) (a_ J H M) (a_ O H K) (a_ d r m) (a_ o l B) (a_ C z y) (a_ D k E) (a_ S lines.length L) qs ⟨ws,List.replicate H nA,List.replicate H 0,mX H mem,(c.take k).map ix,lines,[]⟩∧wr.heap[w.heap.size+2]? = some (d_ gq 37 (0,0))∧Up w wr) (fun j _=>nk - (intOf j).toNat)
   case atStart=>exact⟨0,none,0,[],fM,rfl,HP.o,bz.o,F.o⟩
   case round=>
    obtain⟨k,D,E,qs,hk,rfl,hp,hz,hb⟩:=hrel;have HM:=gg hp;have HZ:=gg hz;have HB:=gg hb;clear hp hz hb HP bz F;by_cases cd:k<nk
    · have aR:k<c.length:=by rw[←NK.o];exact cd
      obtain⟨kb,ko,cN,cL,cu,cX,cP,ba⟩:=bI.o.some f_;injection cL with e1 e1n e2
      subst e1 e2;clear e1n;have p0:wr.cell? ⟨kb,ko+k,none⟩=some (b_ c_ c[k]):=(HB.o.cell (p:=⟨kb,ko+k,none⟩) cu).trans (ba k _ (by simp[gz,aR]))
      have cC:1≤c[k]∧c[k]≤3:=by
       have:=List.any_eq_false.1 bD.o c[k] (List.getElem_mem _)
       simpa[jY] using this
      have co:=gg (fP aR);generalize c[k]=x at *
      clear ba aR;go_upto_region 10 with(fail)
      obtain⟨_,_,_,_,_,_,k6,_,_⟩:=gU HM.o.at_;have av:=gn HM.o.at_;refine fY (fun w'=>b<w'.heap.size∧w'.cell? ⟨b,6,none⟩=some (a_ D k E)) 6 [true,true,true] (fun a b' h hu=>⟨fN h.1 hu.size,by rw[hu.cell (p:=⟨b,6,none⟩) h.1];exact h.2⟩) ⟨av,k6⟩ ?a3 ?h3 ?ht3
      case h3=>
       intro w0 ⟨cs,q6⟩;have z6:=fun x=>gD cs q6 x
       clear q6;simp only[jd];repeat(go_big_quiet_step (fail))
       refine wpQuiet_nil ?_
       rfl
      case ht3=>
       change kD _ _ _ _ _ _ 3 _ _ _;refine jQ (i:=3) ga fZ rfl ?_
       intro wa cb ⟨am,bZ⟩;have az:Up wr wa:=zB;have bb:=gg (HM.o.below az);have bV:=gg (gk az HZ.o);have bx:=gg (gj HB.o az);clear az cb
       go_wp2_with (go_at_call 27;((with_reducible refine(IN x _ cC).mono ?_);rintro e wb ⟨vs,rfl,hst,bq⟩;have ah:=gg bq;obtain⟨q,b7,aM,_⟩:=hst;subst b7;obtain⟨qx,qy,rfl⟩:=aM.shape;have bR:=gg aM;clear bq aM))
       unfold gX;refine⟨⟨fN am ah.o.size,(ah.o.cell (p:=⟨b,6,none⟩) am).trans bZ⟩,?_⟩;refine jQ (i:=4) ga fZ rfl ?_
       intro wc ap ⟨aS,bH⟩;have bu:=gg (bb.o.below (gj ah.o ap));have bL:=gg (gk (gj ah.o ap) bV.o);have bU:=gg (gj bx.o (gj ah.o ap));have bQ:=gg (bR.o.below ap);clear ap ah bb bV bx bR bZ am
       go_wp2_with fail
       refine⟨⟨fN aS (gr wc _).size,((gr wc _).cell (p:=⟨b,6,none⟩) aS).trans bH⟩,?_⟩;refine jQ (i:=5) ga fZ rfl ?_
       intro wd a7 ⟨aQ,aI⟩;have an:=gj (gr wc (d_ (sC (ix x,a_ qx (ix x).q.length qy)).toArray 75)) a7;have aE:=gg (bu.o.below an);have a4:=gg (gk an bL.o);have bK:=gg (gj bU.o an);have ca:=gg (bQ.o.below an);have bs:wd.heap[wc.heap.size]? = some (d_ (sC (ix x,a_ qx (ix x).q.length qy)).toArray 75 (0,0)):=gk a7 (gH wc _)
       have HC:gi (∀ j u,(sC (ix x,a_ qx (ix x).q.length qy))[j]? = some u→wd.cell? ((⟨wc.heap.size,0,none⟩:Addr).add j)=some u):=gg (fun j u hj=>by
        rw[kx,Nat.zero_add];exact gv bs (by simpa using hj))
       have bB:((c.take k).map ix).length=k:=by simp;rw[←NK.o];omega
       have ax:gi (wd.ownsRow w.heap.size 75 8 (a_ D k E) k (iC sC (((c.take k).map ix).zip qs))):=gg (by have:=aE.o.parts.devs;rwa [bB] at this);have a8:=gS ax.o aE.o.at_ fZ;have cJ:(k+1)*80≤140737488355328:=by omega
       have cq:k+1≤maxLen:=by unfold maxLen;omega
       have ad:w.heap.size≤wd.heap.size:=bK.o.size;have cw:∀ u∈sC (ix x,a_ qx (ix x).q.length qy),u.oneCell'=true:=by simp[sC,gX,Value.oneCell']
       obtain⟨is,cg,cy,aU,b4⟩:=info_parts EH;clear a7 an bs bu bL bU bQ bH aS;refine wpList_append_own _ rfl _ _ 34 rfl w.heap.size 75 is (e_ #[b_ c_ 0,b_ c_ 0,b_ c_ 0,b_ c_ 0,b_ c_ 0,a_ none 0 0,b_ c_ 0,fJ false]) 8 80 Tryz.underlying34 cg cy aU b4 rfl fZ _ _ _ rfl ax.o ⟨wc.heap.size,0,none⟩ 1 1 (sC (ix x,a_ qx (ix x).q.length qy)) rfl rfl HC.o cw cq cJ ad ?_
       intro v' we a2 ab _;obtain⟨xt,yt,rfl⟩:=gN a2;have b1:=gg a2;have bf:=gg ab
       have bi:we.cell? ⟨b,6,none⟩=some (a_ D k E):=by
        simp only[World.cell?] at aI ⊢
        rw[ab.block b aQ (fun e=>a8 e.symm)];exact aI
       have b8:=gg ((ab.block b aQ (fun e=>a8 e.symm)).trans aE.o.at_);have bj:=gS ax.o a4.o fZ;have cp:=gg ((ab.block (w.heap.size+2) (gn a4.o) (fun e=>bj e.symm)).trans a4.o);have b5:gi (Up w we):=gg (bK.o.grown ab ad (fun g' e=>(ax.o.lt g' e).1));have cl:=gg (And.intro (fN aQ ab.size) bi);clear a2 ab bi aI bj a8
       go_wp2_with fail
       refine⟨cl.o,?_⟩;refine lR ga ?_
       intro wf al _
       have cB:=gg (aE.o.dev (w':=wf) (dv':=a_ xt (k+1) yt) (q:=a_ qx (ix x).q.length qy) (s:=ix x) (BA bf.o bf.o.size al) rfl (by
        rw[bB];exact gy b1.o al) ca.o)
       have aT:=gk al b8.o;have cW:=gv aT (j:=6) rfl;have cM:=gC aT 6;have cA:=gg (gk al cp.o);have cF:=gg (gj b5.o al);clear al aT
       try simp only[List.drop_succ_cons,List.drop_zero]
       go_wp2
       go_roundw
       case rel=>exact⟨k+1,_,_,_,by omega,by go_num,by rw[co.o,List.map_append];exact cB.o,(iY f_).trans cA.o,gO cF.o HM.o.base _⟩
       case measure=>simp[intOf];omega
    · have ct:k=nk:=by omega
      subst ct;have bO:gi (c.take k=c):=gg (by rw[NK.o,List.take_length]);have Z:gi (jo wr w.heap.size b (a_ I ws.length Q) (a_ J H M) (a_ O H K) (a_ d r m) (a_ o l B) (a_ C z y) (a_ D k E) (a_ S N L) qs ⟨ws,List.replicate H nA,List.replicate H 0,mX H mem,c.map ix,lines,[]⟩):=gg (by have:=HM.o;rw[bO.o,←NL.o] at this;exact this);obtain⟨_,_,_,_,_,_,_,k7,_⟩:=gU Z.o.at_;have av:=gn Z.o.at_;obtain⟨M2,bk⟩:∃ v,v=wr:=⟨_,rfl⟩;rw[←bk] at Z HZ HB k7 av ⊢
      clear HM bO bk
      go_wp2_with fail
      clear k7
      go_loopw [82] (fun i wr=>∃ j:Nat,j≤N∧i =b_ c_ j∧jo wr w.heap.size b (a_ I ws.length Q) (a_ J H M) (a_ O H K) (a_ d r m) (a_ o l B) (a_ C z y) (a_ D k E) (a_ S N L) qs ⟨ws,List.replicate H nA,List.replicate H 0,mX H mem,c.map ix,(lines.take j).map lM ++ lines.drop j,[]⟩∧wr.heap[w.heap.size+2]? = some (d_ gq 37 (0,0))∧Up w wr) (fun i _=>N - (intOf i).toNat)
      case atStart=>exact⟨0,fM,rfl,Z.o,HZ.o,HB.o⟩
      case round=>
       obtain⟨j,hj,rfl,hp,hz,hb⟩:=hrel;have R:=gg hp;have V:=gg hz;have W:=gg hb;clear hp hz hb Z HZ HB av;by_cases a5:j<N
       · have aq:((lines.take j).map lM ++ lines.drop j).length=N:=by simp;rw[←NL.o];omega
         have HJ:gi (j<lines.length):=gg (by rw[←NL.o];exact a5);obtain⟨g,gc,cU,cI,aV,cv⟩:=uO R.o.parts.lines (by rw[aq];omega);injection cI with e1 e2 e3
         subst e1 e3;clear e2;have aF:=R.o.line rfl (i:=j) (by rw[aq];exact a5);have HS:=gg (KW lines j HJ.o (by rw[aq];exact a5));have cG:gi (jo (wr.setCell ⟨g,j*3+2,none⟩ (fJ false)) w.heap.size b (a_ I ws.length Q) (a_ J H M) (a_ O H K) (a_ d r m) (a_ o l B) (a_ C z y) (a_ D k E) (a_ (some ⟨g,0,none⟩) N L) qs ⟨ws,List.replicate H nA,List.replicate H 0,mX H mem,c.map ix,(lines.take (j+1)).map lM ++ lines.drop (j+1),[]⟩):=gg (by simp only at aF;rw[HS.o] at aF;exact aF);obtain⟨_,_,_,_,_,_,_,k7,_⟩:=gU R.o.at_;have av:=gn R.o.at_
         have bT:∃ u,wr.cell? ⟨g,j*3+2,none⟩=some u:=by
          have:=R.o.parts.lines;simp only at this;rw[aq] at this;have h0:j*3+2<N*3:=by omega
          exact⟨_,(this.cellAt (j*3+2) h0).trans (fQ (by rw[this.1];exact h0))⟩
         obtain⟨u,bT⟩:=bT;have cO:=gC aV (j*3+2)
         have b9:w.heap.size+2≠g:=by
          intro e;have h1:=V.o;rw[e,aV] at h1;injection h1 with h1;injection h1 with _ h1;exact absurd h1 fZ
         have cD:gi ((wr.setCell ⟨g,j*3+2,none⟩ (fJ false)).heap[w.heap.size+2]? = some (d_ gq 37 (0,0))):=gg ((iY b9).trans V.o);clear aF HS aV aq
         go_wp2
         go_roundw
         case rel=>exact⟨j+1,by omega,by go_num,cG.o,cD.o,gO W.o cv _⟩
         case measure=>simp[intOf];omega
       · have cz:j=N:=by omega
         subst cz
         have bS:gi (jo wr w.heap.size b (a_ I ws.length Q) (a_ J H M) (a_ O H K) (a_ d r m) (a_ o l B) (a_ C z y) (a_ D k E) (a_ S j L) qs (sK H ws mem c lines)):=gg (by
          have:=R.o;rw[NL.o,List.take_length,List.drop_length,List.append_nil,←NL.o] at this;exact this)
         have HA:=gg bS.o.at_;have ch:=gg (bS.o.isMac.row9 (cs':=#[a_ I ws.length Q,a_ J H M,a_ O H K,a_ d r m,a_ o l B,a_ C z y,a_ D k E,a_ S j L,a_ none 0 0]) V.o (fun i v h=>⟨none,0,0,Gp h⟩));have be:gi ((wr.setRow (w.heap.size+2) #[a_ I ws.length Q,a_ J H M,a_ O H K,a_ d r m,a_ o l B,a_ C z y,a_ D k E,a_ S j L,a_ none 0 0]).heap[w.heap.size+2]? = some (d_ #[a_ I ws.length Q,a_ J H M,a_ O H K,a_ d r m,a_ o l B,a_ C z y,a_ D k E,a_ S j L,a_ none 0 0] 37 (0,0))):=gg (setRow_heap _ _ _ _ _ _ V.o);obtain⟨r0,r1,r2,r3,r4,r5,r6,r7,r8⟩:=gU be.o;have R0:=gg r0;have R1:=gg r1;have R2:=gg r2;have R3:=gg r3;have R4:=gg r4;have R5:=gg r5;have R6:=gg r6;have R7:=gg r7;have R8:=gg r8;clear r0 r1 r2 r3 r4 r5 r6 r7 r8 be R
         go_wp2_with (first|(refine wpList_load_row rfl 37 _ rfl b rfl 37 #[a_ I ws.length Q,a_ J H M,a_ O H K,a_ d r m,a_ o l B,a_ C z y,a_ D k E,a_ S j L,a_ none 0 0] (0,0) _ HA.o Tryz.underlying37 rfl je ?_)|(refine wpList_store_row rfl 37 _ _ rfl (w.heap.size+2) #[a_ I ws.length Q,a_ J H M,a_ O H K,a_ d r m,a_ o l B,a_ C z y,a_ D k E,a_ S j L,a_ none 0 0] rfl rfl 37 gq V.o je rfl (by simp[Value.oneCell']) ?_))
         exact bodyPost_ret (v:=fI #[e_ #[a_ I ws.length Q,a_ J H M,a_ O H K,a_ d r m,a_ o l B,a_ C z y,a_ D k E,a_ S j L,a_ none 0 0],b_ c_ 0]) (by simp[results,Tryz.results11,go_sem,R0.o,R1.o,R2.o,R3.o,R4.o,R5.o,R6.o,R7.o,R8.o]) rfl ⟨_,rfl,ch.o,below_setRow W.o f_ _⟩
end
end
