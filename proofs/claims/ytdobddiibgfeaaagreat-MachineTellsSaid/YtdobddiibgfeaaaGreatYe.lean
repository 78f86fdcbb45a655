/- What the walks of this statement lean on: shown. -/
import Derived.Test.YtdobddiibgfeaaaGreatZf
import Derived.Laws.Rows
set_option linter.all false
set_option maxRecDepth 100000
set_option maxHeartbeats 16000000
namespace Go.Proofs.YtdobddiibgfeaaaGreat
open Value renaming slice→a_,int→b_,agg→e_,pointer→fG,tuple→fI,bool→fJ
open IntKind renaming i64→c_
open Obj renaming cells→d_
open Ending renaming returned→fH
open Go.Proofs.Tryz renaming prog→gd
section
open Go.RowKit
set_option maxRecDepth 100000
def mg (m:Nat) (t:Int):Int:=if 2 ^ (m - 1)≤t then t - 2 ^ m else t
theorem mb x z k (h:x<2 ^ k):x ||| z*2 ^ k=x+z*2 ^ k:=by
 rw[Nat.or_comm,Nat.mul_comm,←Nat.two_pow_add_eq_or_of_lt h,Nat.add_comm]
theorem py l (hl:l<0) n (m:Nat) (a:0<m):jS l n m=mg m n:=by
 unfold jS mg;have h1:0<2 ^ (m - 1):=Nat.two_pow_pos _;rw[show ((m:Int) - 1).toNat=m - 1 by omega,show (m:Int).toNat=m by omega]
 have e:((n:Int) / 2 ^ (m - 1)≠0)↔((2:Int) ^ (m - 1)≤n):=by
  rw[AX,←Int.natCast_ediv];constructor
  · intro h
    have h3:n / 2 ^ (m - 1)≠0:=by omega
    have:=(Nat.div_ne_zero_iff.1 h3).2;omega
  · intro h
    have h3:n / 2 ^ (m - 1)≠0:=Nat.div_ne_zero_iff.2 ⟨by omega,by omega⟩;omega
 by_cases h:(2:Int) ^ (m - 1)≤n
 · rw[if_pos ⟨hl,e.2 h⟩,if_pos h]
 · rw[if_neg (fun x=>h (e.1 x.2)),if_neg h]
theorem ks l (h:0≤l) n (m):jS l n m=n:=by unfold jS;rw[if_neg f_]
set_option maxRecDepth 10000 in
theorem zp op (W):jh 82 op W=⟨op,((gu W 7 5:Nat):Int),((gu W 15 5:Nat):Int),((gu W 20 5:Nat):Int),0⟩:=by
 show (⟨op,((gu W 7 5:Nat):Int),((gu W 15 5:Nat):Int),((gu W 20 5:Nat):Int),jS (jt 82).least (jB W (gA 82 0)) (kP (gA 82 0))⟩:ju)=_
 rw[show (jt 82).least=0 from rfl,show kP (gA 82 0)=0 from rfl];congr 1
 all_goals(rw[ks _ fZ];try rfl)
set_option maxRecDepth 10000 in
theorem zm op (W):jh 73 op W=⟨op,((gu W 7 5:Nat):Int),((gu W 15 5:Nat):Int),0,mg 12 ((gu W 20 12:Nat):Int)⟩:=by
 show (⟨op,((gu W 7 5:Nat):Int),((gu W 15 5:Nat):Int),0,jS (jt 73).least (jB W (gA 73 0)) (kP (gA 73 0))⟩:ju)=_
 rw[show (jt 73).least = -2048 from rfl,show kP (gA 73 0)=12 from rfl];congr 1;have a:jB W (gA 73 0)=gu W 20 12:=by simp[jB,gA,rB]
 rw[a];exact py _ fZ _ 12 fZ
set_option maxRecDepth 10000 in
theorem zj op (W):jh 67 op W=⟨op,((gu W 7 5:Nat):Int),((gu W 15 5:Nat):Int),0,((gu W 20 12:Nat):Int)⟩:=by
 show (⟨op,((gu W 7 5:Nat):Int),((gu W 15 5:Nat):Int),0,jS (jt 67).least (jB W (gA 67 0)) (kP (gA 67 0))⟩:ju)=_
 rw[show (jt 67).least=0 from rfl,show kP (gA 67 0)=12 from rfl];congr 1;have a:jB W (gA 67 0)=gu W 20 12:=by simp[jB,gA,rB]
 rw[a];exact ks _ fZ _ _
set_option maxRecDepth 10000 in
theorem zl op (W):jh 72 op W=⟨op,((gu W 7 5:Nat):Int),((gu W 15 5:Nat):Int),0,((gu W 20 5:Nat):Int)⟩:=by
 show (⟨op,((gu W 7 5:Nat):Int),((gu W 15 5:Nat):Int),0,jS (jt 72).least (jB W (gA 72 0)) (kP (gA 72 0))⟩:ju)=_
 rw[show (jt 72).least=0 from rfl,show kP (gA 72 0)=5 from rfl];congr 1;have a:jB W (gA 72 0)=gu W 20 5:=by simp[jB,gA,rB]
 rw[a];exact ks _ fZ _ _
set_option maxRecDepth 10000 in
theorem zq op (W):jh 83 op W=⟨op,0,((gu W 15 5:Nat):Int),((gu W 20 5:Nat):Int),mg 12 ((gu W 7 5+gu W 25 7*32:Nat):Int)⟩:=by
 show (⟨op,0,((gu W 15 5:Nat):Int),((gu W 20 5:Nat):Int),jS (jt 83).least (jB W (gA 83 0)) (kP (gA 83 0))⟩:ju)=_
 rw[show (jt 83).least = -2048 from rfl,show kP (gA 83 0)=12 from rfl];congr 1
 have a:jB W (gA 83 0)=gu W 7 5+gu W 25 7*32:=by
  have h0:=kC W 7 5;have:=mb (gu W 7 5) (gu W 25 7) 5 h0;simp[jB,gA,rB] at this ⊢
  exact this
 rw[a];exact py _ fZ _ 12 fZ
set_option maxRecDepth 10000 in
theorem zi op (W):jh 66 op W=⟨op,0,((gu W 15 5:Nat):Int),((gu W 20 5:Nat):Int),mg 13 ((gu W 8 4*2+gu W 25 6*32+gu W 7 1*2048+gu W 31 1*4096:Nat):Int)⟩:=by
 show (⟨op,0,((gu W 15 5:Nat):Int),((gu W 20 5:Nat):Int),jS (jt 66).least (jB W (gA 66 0)) (kP (gA 66 0))⟩:ju)=_
 rw[show (jt 66).least = -4096 from rfl,show kP (gA 66 0)=13 from rfl];congr 1
 have f:jB W (gA 66 0)=gu W 8 4*2+gu W 25 6*32+gu W 7 1*2048+gu W 31 1*4096:=by
  have h0:=kC W 8 4;have h1:=kC W 25 6;have h2:=kC W 7 1;have h3:=kC W 31 1;simp only[Nat.reducePow] at h0 h1 h2 h3;have a:=mb (gu W 8 4*2) (gu W 25 6) 5 f_;have b:=mb (gu W 8 4*2+gu W 25 6*32) (gu W 7 1) 11 f_;have c:=mb (gu W 8 4*2+gu W 25 6*32+gu W 7 1*2048) (gu W 31 1) 12 f_;simp only[Nat.reducePow] at a b c
  have e:jB W (gA 66 0)=((gu W 8 4*2 ||| gu W 25 6*32) ||| gu W 7 1*2048) ||| gu W 31 1*4096:=by
   have d:jB W (gA 66 0)=((0 ||| gu W 7 1*2 ^ 11) ||| gu W 8 4*2 ^ 1 ||| gu W 25 6*2 ^ 5) ||| gu W 31 1*2 ^ 12:=rfl
   rw[d,Nat.zero_or];simp only[show (2:Nat) ^ 11=2048 from rfl,show (2:Nat) ^ 1=2 from rfl,show (2:Nat) ^ 5=32 from rfl,show (2:Nat) ^ 12=4096 from rfl];generalize gu W 8 4*2=x1;generalize gu W 7 1*2048=x2;generalize gu W 25 6*32=x3;rw[Nat.or_assoc x2,Nat.or_comm x2]
  rw[e,a,b,c]
 rw[f];exact py _ fZ _ 13 fZ
set_option maxRecDepth 10000 in
theorem zr op (W):jh 85 op W=⟨op,((gu W 7 5:Nat):Int),0,0,((gu W 12 20:Nat):Int)⟩:=by
 show (⟨op,((gu W 7 5:Nat):Int),0,0,jS (jt 85).least (jB W (gA 85 0)) (kP (gA 85 0))⟩:ju)=_
 rw[show (jt 85).least=0 from rfl,show kP (gA 85 0)=20 from rfl];congr 1;have a:jB W (gA 85 0)=gu W 12 20:=by simp[jB,gA,rB]
 rw[a];exact ks _ fZ _ _
set_option maxRecDepth 10000 in
theorem zn op (W):jh 74 op W=⟨op,((gu W 7 5:Nat):Int),0,0,mg 21 ((gu W 21 10*2+gu W 20 1*2048+gu W 12 8*4096+gu W 31 1*1048576:Nat):Int)⟩:=by
 show (⟨op,((gu W 7 5:Nat):Int),0,0,jS (jt 74).least (jB W (gA 74 0)) (kP (gA 74 0))⟩:ju)=_
 rw[show (jt 74).least = -1048576 from rfl,show kP (gA 74 0)=21 from rfl];congr 1
 have f:jB W (gA 74 0)=gu W 21 10*2+gu W 20 1*2048+gu W 12 8*4096+gu W 31 1*1048576:=by
  have h0:=kC W 21 10;have h1:=kC W 20 1;have h2:=kC W 12 8;have h3:=kC W 31 1;simp only[Nat.reducePow] at h0 h1 h2 h3;have a:=mb (gu W 21 10*2) (gu W 20 1) 11 f_;have b:=mb (gu W 21 10*2+gu W 20 1*2048) (gu W 12 8) 12 f_;have c:=mb (gu W 21 10*2+gu W 20 1*2048+gu W 12 8*4096) (gu W 31 1) 20 f_;simp only[Nat.reducePow] at a b c
  have e:jB W (gA 74 0)=((gu W 21 10*2 ||| gu W 20 1*2048) ||| gu W 12 8*4096) ||| gu W 31 1*1048576:=by
   have d:jB W (gA 74 0)=((0 ||| gu W 12 8*2 ^ 12) ||| gu W 20 1*2 ^ 11 ||| gu W 21 10*2 ^ 1) ||| gu W 31 1*2 ^ 20:=rfl
   rw[d,Nat.zero_or];simp only[show (2:Nat) ^ 11=2048 from rfl,show (2:Nat) ^ 1=2 from rfl,show (2:Nat) ^ 20=1048576 from rfl,show (2:Nat) ^ 12=4096 from rfl];generalize gu W 21 10*2=x1;generalize gu W 20 1*2048=x2;generalize gu W 12 8*4096=x3;rw[Nat.or_assoc x3,Nat.or_comm x3,Nat.or_comm x2 x1]
  rw[e,a,b,c]
 rw[f];exact py _ fZ _ 21 fZ
set_option maxRecDepth 10000 in
theorem zk op (W):jh 70 op W=⟨op,0,0,0,((gu W 20 8:Nat):Int)⟩:=by
 show (⟨op,0,0,0,jS (jt 70).least (jB W (gA 70 0)) (kP (gA 70 0))⟩:ju)=_
 rw[show (jt 70).least=0 from rfl,show kP (gA 70 0)=8 from rfl];congr 1;have a:jB W (gA 70 0)=gu W 20 8:=by simp[jB,gA,rB]
 rw[a];exact ks _ fZ _ _
set_option maxRecDepth 10000 in
theorem zo op (W):jh 76 op W=⟨op,((gu W 7 5:Nat):Int),((gu W 15 5:Nat):Int),0,((gu W 25 2:Nat):Int)⟩:=by
 show (⟨op,((gu W 7 5:Nat):Int),((gu W 15 5:Nat):Int),0,jS (jt 76).least (jB W (gA 76 0)) (kP (gA 76 0))⟩:ju)=_
 rw[show (jt 76).least=0 from rfl,show kP (gA 76 0)=2 from rfl];congr 1;have a:jB W (gA 76 0)=gu W 25 2:=by simp[jB,gA,rB]
 rw[a];exact ks _ fZ _ _
set_option maxRecDepth 10000 in
theorem zh op (W):jh 65 op W=⟨op,((gu W 7 5:Nat):Int),((gu W 15 5:Nat):Int),((gu W 20 5:Nat):Int),((gu W 25 2:Nat):Int)⟩:=by
 show (⟨op,((gu W 7 5:Nat):Int),((gu W 15 5:Nat):Int),((gu W 20 5:Nat):Int),jS (jt 65).least (jB W (gA 65 0)) (kP (gA 65 0))⟩:ju)=_
 rw[show (jt 65).least=0 from rfl,show kP (gA 65 0)=2 from rfl];congr 1;have a:jB W (gA 65 0)=gu W 25 2:=by simp[jB,gA,rB]
 rw[a];exact ks _ fZ _ _
set_option maxRecDepth 10000 in
theorem zt op (W):jh 90 op W=⟨op,0,0,0,0⟩:=by
 show (⟨op,0,0,0,jS (jt 90).least (jB W (gA 90 0)) (kP (gA 90 0))⟩:ju)=_
 rw[show (jt 90).least=0 from rfl,show kP (gA 90 0)=0 from rfl];congr 1
 all_goals(rw[ks _ fZ];try rfl)
end
section
open Go.RowKit
set_option maxRecDepth 100000
theorem gZ W (a b:Int) (fr mn t:Nat) w (h:W<4294967296) (f:a=fr) (g:b=mn) (d:fr<32) (c:mn<32) (ht:gu W fr mn=t) :
 Calls gd 63 #[b_ c_ W,b_ c_ a,b_ c_ b] w fun e w'=>e =fH (b_ c_ (t:Nat)) ∧ ∃ q,w'=w.drewN q:=by
 subst f g ht;have:=pV W fr mn w ⟨by omega,by omega⟩ d c
 rwa [show ((W:Int) % 4294967296).toNat=W by omega] at this
theorem mE (n m v:Int) (k:Nat) w (a:m=k) (b:m=12∨m=13∨m=21) (c:0≤n∧n<4294967296) (d:mg k n=v) :
 Calls gd 171 #[b_ c_ n,b_ c_ m] w fun e w'=>e =fH (b_ c_ v)∧w=w':=by
 subst a d;exact sz n k w b c
theorem iJ f c r w (d:mr f) (b:c=68∨c=65∨c=66) (a:Ba f c=r) :
 Calls gd 104 #[.int .u8 f,.int .u8 c] w fun e w'=>e =fH (fJ r)∧w=w':=by
 subst a;exact qb f c w d b
theorem jE {X:World} {b} {t:TypeId} {a0 a1 a2 a3 a4 a v1 v2 v3 v4} (h:X.heap[b]? = some (d_ #[a0,a1,a2,a3,a4] t (0,0))) :
 (((((X.setCell ⟨b,0,none⟩ a).setCell ⟨b,1,none⟩ v1).setCell ⟨b,2,none⟩ v2).setCell ⟨b,3,none⟩ v3).setCell ⟨b,4,none⟩ v4).heap[b]? = some (d_ #[a,v1,v2,v3,v4] t (0,0)):=by
 have:=jb (jb (jb (jb (jb h 0 a) 1 v1) 2 v2) 3 v3) 4 v4
 simpa using this
theorem ji {w:World} {b q:Nat} {x} (h:w.heap[b]? = x):(w.drewN q).heap[b]? = x:=h
set_option maxRecDepth 100000 in
theorem sk op (W:Nat) w (c:W<4294967296) (a:(gB op).form=82) :
 Calls gd 127 #[b_ c_ op,b_ c_ W] w fun e w'=>e =fH (gK (ig op W))∧Up w w':=by
 have s:gi (ig op W=⟨op,((gu W 7 5:Nat):Int),((gu W 15 5:Nat):Int),((gu W 20 5:Nat):Int),0⟩):=by
  have e:ig op W=jh (gB op).form op W:=rfl;rw[e,a];exact zp op W
 have A:=kC W 7 5;have p:=kC W 15 5;have E:=kC W 20 5;simp only[Nat.reducePow] at A p E;generalize k:gu W 7 5=v7_5 at *
 have t:=gg k;clear k;generalize l:gu W 15 5=v15_5 at *
 have D:=gg l;clear l;generalize h:gu W 20 5=v20_5 at *
 have x:=gg h;clear h;generalize i:gB op=r at *
 have u:=gg i;clear i;obtain⟨nm,f,y,C,z⟩:=r;simp only at a;subst a;have G:=fun w=>uX nm 82 y C z w
 go_enter Tryz.func127,Tryz.ntmps127
 go_wp2_with fail
 refine(pA op _).mono ?_
 rw[u.o];rintro e w1 ⟨rfl,d⟩;obtain⟨c1,f1⟩:=jR d;have B:=d.size;simp at B;have F:w.heap.size<w1.heap.size:=by omega
 have H:w.heap.size+1<w1.heap.size:=by omega
 have m:=iE (b:=w.heap.size) (o:=d_ #[b_ c_ 0,b_ c_ 0,b_ c_ 0,b_ c_ 0,b_ c_ 0] 72 (0,0)) d (by simp <;> omega) (heap_alloc2_old w _ _);have n:=gg m;clear m;have j:mr 82:=by unfold mr;simp
 have g:=gg j;clear j;unfold mD
 go_wp2_with (first|(go_at_call 104;first|((with_reducible refine(iJ 82 68 true _ g.o fZ rfl).mono ?_);rintro e w' ⟨rfl,rfl⟩)|((with_reducible refine(iJ 82 65 true _ g.o fZ rfl).mono ?_);rintro e w' ⟨rfl,rfl⟩)|((with_reducible refine(iJ 82 66 true _ g.o fZ rfl).mono ?_);rintro e w' ⟨rfl,rfl⟩))|(go_at_call 63;first|((with_reducible refine(gZ W 7 5 7 5 v7_5 _ c rfl rfl fZ fZ t.o).mono ?_);rintro e w' ⟨rfl,q,rfl⟩)|((with_reducible refine(gZ W 15 5 15 5 v15_5 _ c rfl rfl fZ fZ D.o).mono ?_);rintro e w' ⟨rfl,q,rfl⟩)|((with_reducible refine(gZ W 20 5 20 5 v20_5 _ c rfl rfl fZ fZ x.o).mono ?_);rintro e w' ⟨rfl,q,rfl⟩)))
 refine bodyPost_ret (v:=gK ⟨op,v7_5,v15_5,v20_5,0⟩) (results_cell_row rfl _ _ w.heap.size 72 #[b_ c_ op,b_ c_ v7_5,b_ c_ v15_5,b_ c_ v20_5,b_ c_ 0] (0,0) _ rfl ?_ Tryz.underlying72 rfl ga) rfl ⟨by rw[s.o],?_⟩
 · refine jE (a0:=b_ c_ 0) (a1:=b_ c_ 0) (a2:=b_ c_ 0) (a3:=b_ c_ 0) (a4:=b_ c_ 0) ?_
   repeat(first|(with_reducible exact n.o)|(with_reducible apply ji)|(with_reducible refine jL f_ ?_))
 · repeat(first|(with_reducible exact Below.refl _ _)|(with_reducible refine gO ?_ f_ _)|(with_reducible apply lJ)|(with_reducible apply iS)|(with_reducible refine gj ?_ (by with_reducible assumption)))
set_option maxRecDepth 100000 in
theorem sh op (W:Nat) w (c:W<4294967296) (a:(gB op).form=73) :
 Calls gd 127 #[b_ c_ op,b_ c_ W] w fun e w'=>e =fH (gK (ig op W))∧Up w w':=by
 have x:gi (ig op W=⟨op,((gu W 7 5:Nat):Int),((gu W 15 5:Nat):Int),0,mg 12 ((gu W 20 12:Nat):Int)⟩):=by
  have e:ig op W=jh (gB op).form op W:=rfl;rw[e,a];exact zm op W
 have E:=kC W 7 5;have u:=kC W 15 5;have z:=kC W 20 12;simp only[Nat.reducePow] at E u z;generalize m:gu W 7 5=v7_5 at *
 have y:=gg m;clear m;generalize p:gu W 15 5=v15_5 at *
 have H:=gg p;clear p;generalize h:gu W 20 12=l at *
 have A:=gg h;clear h;generalize i:mg 12 ((l:Nat):Int)=sv at *
 have n:=gg i;clear i
 try simp only[Int.natCast_add,Int.natCast_mul,Int.cast_ofNat_Int] at n
 generalize j:gB op=r at *
 have B:=gg j;clear j;obtain⟨nm,f,C,G,D⟩:=r;simp only at a;subst a;have J:=fun w=>uX nm 73 C G D w
 go_enter Tryz.func127,Tryz.ntmps127
 go_wp2_with fail
 refine(pA op _).mono ?_
 rw[B.o];rintro e w1 ⟨rfl,d⟩;obtain⟨c1,f1⟩:=jR d;have F:=d.size;simp at F;have I:w.heap.size<w1.heap.size:=by omega
 have K:w.heap.size+1<w1.heap.size:=by omega
 have s:=iE (b:=w.heap.size) (o:=d_ #[b_ c_ 0,b_ c_ 0,b_ c_ 0,b_ c_ 0,b_ c_ 0] 72 (0,0)) d (by simp <;> omega) (heap_alloc2_old w _ _);have t:=gg s;clear s;have k:mr 73:=by unfold mr;simp
 have g:=gg k;clear k;unfold mD
 go_wp2_with (first|(go_at_call 104;first|((with_reducible refine(iJ 73 68 true _ g.o fZ rfl).mono ?_);rintro e w' ⟨rfl,rfl⟩)|((with_reducible refine(iJ 73 65 true _ g.o fZ rfl).mono ?_);rintro e w' ⟨rfl,rfl⟩)|((with_reducible refine(iJ 73 66 false _ g.o fZ rfl).mono ?_);rintro e w' ⟨rfl,rfl⟩))|(go_at_call 63;first|((with_reducible refine(gZ W 7 5 7 5 v7_5 _ c rfl rfl fZ fZ y.o).mono ?_);rintro e w' ⟨rfl,q,rfl⟩)|((with_reducible refine(gZ W 15 5 15 5 v15_5 _ c rfl rfl fZ fZ H.o).mono ?_);rintro e w' ⟨rfl,q,rfl⟩)|((with_reducible refine(gZ W 20 12 20 12 l _ c rfl rfl fZ fZ A.o).mono ?_);rintro e w' ⟨rfl,q,rfl⟩))|(go_at_call 171;((refine(mE _ 12 sv 12 _ rfl fZ f_ n.o).mono ?_);rintro e w' ⟨rfl,rfl⟩)))
 refine bodyPost_ret (v:=gK ⟨op,v7_5,v15_5,0,sv⟩) (results_cell_row rfl _ _ w.heap.size 72 #[b_ c_ op,b_ c_ v7_5,b_ c_ v15_5,b_ c_ 0,b_ c_ sv] (0,0) _ rfl ?_ Tryz.underlying72 rfl ga) rfl ⟨by rw[x.o],?_⟩
 · refine jE (a0:=b_ c_ 0) (a1:=b_ c_ 0) (a2:=b_ c_ 0) (a3:=b_ c_ 0) (a4:=b_ c_ 0) ?_
   repeat(first|(with_reducible exact t.o)|(with_reducible apply ji)|(with_reducible refine jL f_ ?_))
 · repeat(first|(with_reducible exact Below.refl _ _)|(with_reducible refine gO ?_ f_ _)|(with_reducible apply lJ)|(with_reducible apply iS)|(with_reducible refine gj ?_ (by with_reducible assumption)))
set_option maxRecDepth 100000 in
theorem se op (W:Nat) w (c:W<4294967296) (a:(gB op).form=67) :
 Calls gd 127 #[b_ c_ op,b_ c_ W] w fun e w'=>e =fH (gK (ig op W))∧Up w w':=by
 have s:gi (ig op W=⟨op,((gu W 7 5:Nat):Int),((gu W 15 5:Nat):Int),0,((gu W 20 12:Nat):Int)⟩):=by
  have e:ig op W=jh (gB op).form op W:=rfl;rw[e,a];exact zj op W
 have B:=kC W 7 5;have p:=kC W 15 5;have u:=kC W 20 12;simp only[Nat.reducePow] at B p u;generalize k:gu W 7 5=v7_5 at *
 have t:=gg k;clear k;generalize l:gu W 15 5=v15_5 at *
 have E:=gg l;clear l;generalize h:gu W 20 12=v20_12 at *
 have x:=gg h;clear h;generalize i:gB op=r at *
 have y:=gg i;clear i;obtain⟨nm,f,z,D,A⟩:=r;simp only at a;subst a;have G:=fun w=>uX nm 67 z D A w
 go_enter Tryz.func127,Tryz.ntmps127
 go_wp2_with fail
 refine(pA op _).mono ?_
 rw[y.o];rintro e w1 ⟨rfl,d⟩;obtain⟨c1,f1⟩:=jR d;have C:=d.size;simp at C;have F:w.heap.size<w1.heap.size:=by omega
 have H:w.heap.size+1<w1.heap.size:=by omega
 have m:=iE (b:=w.heap.size) (o:=d_ #[b_ c_ 0,b_ c_ 0,b_ c_ 0,b_ c_ 0,b_ c_ 0] 72 (0,0)) d (by simp <;> omega) (heap_alloc2_old w _ _);have n:=gg m;clear m;have j:mr 67:=by unfold mr;simp
 have g:=gg j;clear j;unfold mD
 go_wp2_with (first|(go_at_call 104;first|((with_reducible refine(iJ 67 68 true _ g.o fZ rfl).mono ?_);rintro e w' ⟨rfl,rfl⟩)|((with_reducible refine(iJ 67 65 true _ g.o fZ rfl).mono ?_);rintro e w' ⟨rfl,rfl⟩)|((with_reducible refine(iJ 67 66 false _ g.o fZ rfl).mono ?_);rintro e w' ⟨rfl,rfl⟩))|(go_at_call 63;first|((with_reducible refine(gZ W 7 5 7 5 v7_5 _ c rfl rfl fZ fZ t.o).mono ?_);rintro e w' ⟨rfl,q,rfl⟩)|((with_reducible refine(gZ W 15 5 15 5 v15_5 _ c rfl rfl fZ fZ E.o).mono ?_);rintro e w' ⟨rfl,q,rfl⟩)|((with_reducible refine(gZ W 20 12 20 12 v20_12 _ c rfl rfl fZ fZ x.o).mono ?_);rintro e w' ⟨rfl,q,rfl⟩)))
 refine bodyPost_ret (v:=gK ⟨op,v7_5,v15_5,0,v20_12⟩) (results_cell_row rfl _ _ w.heap.size 72 #[b_ c_ op,b_ c_ v7_5,b_ c_ v15_5,b_ c_ 0,b_ c_ v20_12] (0,0) _ rfl ?_ Tryz.underlying72 rfl ga) rfl ⟨by rw[s.o],?_⟩
 · refine jE (a0:=b_ c_ 0) (a1:=b_ c_ 0) (a2:=b_ c_ 0) (a3:=b_ c_ 0) (a4:=b_ c_ 0) ?_
   repeat(first|(with_reducible exact n.o)|(with_reducible apply ji)|(with_reducible refine jL f_ ?_))
 · repeat(first|(with_reducible exact Below.refl _ _)|(with_reducible refine gO ?_ f_ _)|(with_reducible apply lJ)|(with_reducible apply iS)|(with_reducible refine gj ?_ (by with_reducible assumption)))
set_option maxRecDepth 100000 in
theorem sg op (W:Nat) w (c:W<4294967296) (a:(gB op).form=72) :
 Calls gd 127 #[b_ c_ op,b_ c_ W] w fun e w'=>e =fH (gK (ig op W))∧Up w w':=by
 have s:gi (ig op W=⟨op,((gu W 7 5:Nat):Int),((gu W 15 5:Nat):Int),0,((gu W 20 5:Nat):Int)⟩):=by
  have e:ig op W=jh (gB op).form op W:=rfl;rw[e,a];exact zl op W
 have A:=kC W 7 5;have p:=kC W 15 5;have E:=kC W 20 5;simp only[Nat.reducePow] at A p E;generalize k:gu W 7 5=v7_5 at *
 have t:=gg k;clear k;generalize l:gu W 15 5=v15_5 at *
 have D:=gg l;clear l;generalize h:gu W 20 5=v20_5 at *
 have x:=gg h;clear h;generalize i:gB op=r at *
 have u:=gg i;clear i;obtain⟨nm,f,y,C,z⟩:=r;simp only at a;subst a;have G:=fun w=>uX nm 72 y C z w
 go_enter Tryz.func127,Tryz.ntmps127
 go_wp2_with fail
 refine(pA op _).mono ?_
 rw[u.o];rintro e w1 ⟨rfl,d⟩;obtain⟨c1,f1⟩:=jR d;have B:=d.size;simp at B;have F:w.heap.size<w1.heap.size:=by omega
 have H:w.heap.size+1<w1.heap.size:=by omega
 have m:=iE (b:=w.heap.size) (o:=d_ #[b_ c_ 0,b_ c_ 0,b_ c_ 0,b_ c_ 0,b_ c_ 0] 72 (0,0)) d (by simp <;> omega) (heap_alloc2_old w _ _);have n:=gg m;clear m;have j:mr 72:=by unfold mr;simp
 have g:=gg j;clear j;unfold mD
 go_wp2_with (first|(go_at_call 104;first|((with_reducible refine(iJ 72 68 true _ g.o fZ rfl).mono ?_);rintro e w' ⟨rfl,rfl⟩)|((with_reducible refine(iJ 72 65 true _ g.o fZ rfl).mono ?_);rintro e w' ⟨rfl,rfl⟩)|((with_reducible refine(iJ 72 66 false _ g.o fZ rfl).mono ?_);rintro e w' ⟨rfl,rfl⟩))|(go_at_call 63;first|((with_reducible refine(gZ W 7 5 7 5 v7_5 _ c rfl rfl fZ fZ t.o).mono ?_);rintro e w' ⟨rfl,q,rfl⟩)|((with_reducible refine(gZ W 15 5 15 5 v15_5 _ c rfl rfl fZ fZ D.o).mono ?_);rintro e w' ⟨rfl,q,rfl⟩)|((with_reducible refine(gZ W 20 5 20 5 v20_5 _ c rfl rfl fZ fZ x.o).mono ?_);rintro e w' ⟨rfl,q,rfl⟩)))
 refine bodyPost_ret (v:=gK ⟨op,v7_5,v15_5,0,v20_5⟩) (results_cell_row rfl _ _ w.heap.size 72 #[b_ c_ op,b_ c_ v7_5,b_ c_ v15_5,b_ c_ 0,b_ c_ v20_5] (0,0) _ rfl ?_ Tryz.underlying72 rfl ga) rfl ⟨by rw[s.o],?_⟩
 · refine jE (a0:=b_ c_ 0) (a1:=b_ c_ 0) (a2:=b_ c_ 0) (a3:=b_ c_ 0) (a4:=b_ c_ 0) ?_
   repeat(first|(with_reducible exact n.o)|(with_reducible apply ji)|(with_reducible refine jL f_ ?_))
 · repeat(first|(with_reducible exact Below.refl _ _)|(with_reducible refine gO ?_ f_ _)|(with_reducible apply lJ)|(with_reducible apply iS)|(with_reducible refine gj ?_ (by with_reducible assumption)))
set_option maxRecDepth 100000 in
theorem sm op (W:Nat) w (a:W<4294967296) (c:(gB op).form=83) :
 Calls gd 127 #[b_ c_ op,b_ c_ W] w fun e w'=>e =fH (gK (ig op W))∧Up w w':=by
 have x:gi (ig op W=⟨op,0,((gu W 15 5:Nat):Int),((gu W 20 5:Nat):Int),mg 12 ((gu W 7 5+gu W 25 7*32:Nat):Int)⟩):=by
  have e:ig op W=jh (gB op).form op W:=rfl;rw[e,c];exact zq op W
 have u:=kC W 15 5;have J:=kC W 20 5;have E:=kC W 7 5;have F:=kC W 25 7;simp only[Nat.reducePow] at u J E F;generalize n:gu W 15 5=v15_5 at *
 have I:=gg n;clear n;generalize i:gu W 20 5=v20_5 at *
 have B:=gg i;clear i;generalize l:gu W 7 5=v7_5 at *
 have y:=gg l;clear l;generalize p:gu W 25 7=v25_7 at *
 have z:=gg p;clear p;generalize h:mg 12 ((v7_5+v25_7*32:Nat):Int)=sv at *
 have m:=gg h;clear h
 try simp only[Int.natCast_add,Int.natCast_mul,Int.cast_ofNat_Int] at m
 generalize j:gB op=r at *
 have A:=gg j;clear j;obtain⟨nm,f,C,H,D⟩:=r;simp only at c;subst c;have L:=fun w=>uX nm 83 C H D w
 go_enter Tryz.func127,Tryz.ntmps127
 go_wp2_with fail
 refine(pA op _).mono ?_
 rw[A.o];rintro e w1 ⟨rfl,d⟩;obtain⟨c1,f1⟩:=jR d;have G:=d.size;simp at G;have K:w.heap.size<w1.heap.size:=by omega
 have M:w.heap.size+1<w1.heap.size:=by omega
 have s:=iE (b:=w.heap.size) (o:=d_ #[b_ c_ 0,b_ c_ 0,b_ c_ 0,b_ c_ 0,b_ c_ 0] 72 (0,0)) d (by simp <;> omega) (heap_alloc2_old w _ _);have t:=gg s;clear s;have k:mr 83:=by unfold mr;simp
 have g:=gg k;clear k;unfold mD
 go_wp2_with (first|(go_at_call 104;first|((with_reducible refine(iJ 83 68 false _ g.o fZ rfl).mono ?_);rintro e w' ⟨rfl,rfl⟩)|((with_reducible refine(iJ 83 65 true _ g.o fZ rfl).mono ?_);rintro e w' ⟨rfl,rfl⟩)|((with_reducible refine(iJ 83 66 true _ g.o fZ rfl).mono ?_);rintro e w' ⟨rfl,rfl⟩))|(go_at_call 63;first|((with_reducible refine(gZ W 15 5 15 5 v15_5 _ a rfl rfl fZ fZ I.o).mono ?_);rintro e w' ⟨rfl,q,rfl⟩)|((with_reducible refine(gZ W 20 5 20 5 v20_5 _ a rfl rfl fZ fZ B.o).mono ?_);rintro e w' ⟨rfl,q,rfl⟩)|((with_reducible refine(gZ W 7 5 7 5 v7_5 _ a rfl rfl fZ fZ y.o).mono ?_);rintro e w' ⟨rfl,q,rfl⟩)|((with_reducible refine(gZ W 25 7 25 7 v25_7 _ a rfl rfl fZ fZ z.o).mono ?_);rintro e w' ⟨rfl,q,rfl⟩))|(go_at_call 171;((refine(mE _ 12 sv 12 _ rfl fZ f_ m.o).mono ?_);rintro e w' ⟨rfl,rfl⟩)))
 refine bodyPost_ret (v:=gK ⟨op,0,v15_5,v20_5,sv⟩) (results_cell_row rfl _ _ w.heap.size 72 #[b_ c_ op,b_ c_ 0,b_ c_ v15_5,b_ c_ v20_5,b_ c_ sv] (0,0) _ rfl ?_ Tryz.underlying72 rfl ga) rfl ⟨by rw[x.o],?_⟩
 · refine jE (a0:=b_ c_ 0) (a1:=b_ c_ 0) (a2:=b_ c_ 0) (a3:=b_ c_ 0) (a4:=b_ c_ 0) ?_
   repeat(first|(with_reducible exact t.o)|(with_reducible apply ji)|(with_reducible refine jL f_ ?_))
 · repeat(first|(with_reducible exact Below.refl _ _)|(with_reducible refine gO ?_ f_ _)|(with_reducible apply lJ)|(with_reducible apply iS)|(with_reducible refine gj ?_ (by with_reducible assumption)))
set_option maxRecDepth 100000 in
theorem r_ op (W:Nat) w (a:W<4294967296) (c:(gB op).form=66) :
 Calls gd 127 #[b_ c_ op,b_ c_ W] w fun e w'=>e =fH (gK (ig op W))∧Up w w':=by
 have z:gi (ig op W=⟨op,0,((gu W 15 5:Nat):Int),((gu W 20 5:Nat):Int),mg 13 ((gu W 8 4*2+gu W 25 6*32+gu W 7 1*2048+gu W 31 1*4096:Nat):Int)⟩):=by
  have e:ig op W=jh (gB op).form op W:=rfl;rw[e,c];exact zi op W
 have y:=kC W 15 5;have P:=kC W 20 5;have J:=kC W 8 4;have A:=kC W 25 6;have M:=kC W 7 1;have B:=kC W 31 1;simp only[Nat.reducePow] at y P J A M B;generalize l:gu W 15 5=v15_5 at *
 have O:=gg l;clear l;generalize i:gu W 20 5=v20_5 at *
 have F:=gg i;clear i;generalize u:gu W 8 4=v8_4 at *
 have I:=gg u;clear u;generalize n:gu W 25 6=v25_6 at *
 have C:=gg n;clear n;generalize s:gu W 7 1=v7_1 at *
 have K:=gg s;clear s;generalize t:gu W 31 1=v31_1 at *
 have D:=gg t;clear t;generalize h:mg 13 ((v8_4*2+v25_6*32+v7_1*2048+v31_1*4096:Nat):Int)=sv at *
 have m:=gg h;clear h
 try simp only[Int.natCast_add,Int.natCast_mul,Int.cast_ofNat_Int] at m
 generalize j:gB op=r at *
 have E:=gg j;clear j;obtain⟨nm,f,G,N,H⟩:=r;simp only at c;subst c;have R:=fun w=>uX nm 66 G N H w
 go_enter Tryz.func127,Tryz.ntmps127
 go_wp2_with fail
 refine(pA op _).mono ?_
 rw[E.o];rintro e w1 ⟨rfl,d⟩;obtain⟨c1,f1⟩:=jR d;have L:=d.size;simp at L;have Q:w.heap.size<w1.heap.size:=by omega
 have S:w.heap.size+1<w1.heap.size:=by omega
 have p:=iE (b:=w.heap.size) (o:=d_ #[b_ c_ 0,b_ c_ 0,b_ c_ 0,b_ c_ 0,b_ c_ 0] 72 (0,0)) d (by simp <;> omega) (heap_alloc2_old w _ _);have x:=gg p;clear p;have k:mr 66:=by unfold mr;simp
 have g:=gg k;clear k;unfold mD
 go_wp2_with (first|(go_at_call 104;first|((with_reducible refine(iJ 66 68 false _ g.o fZ rfl).mono ?_);rintro e w' ⟨rfl,rfl⟩)|((with_reducible refine(iJ 66 65 true _ g.o fZ rfl).mono ?_);rintro e w' ⟨rfl,rfl⟩)|((with_reducible refine(iJ 66 66 true _ g.o fZ rfl).mono ?_);rintro e w' ⟨rfl,rfl⟩))|(go_at_call 63;first|((with_reducible refine(gZ W 15 5 15 5 v15_5 _ a rfl rfl fZ fZ O.o).mono ?_);rintro e w' ⟨rfl,q,rfl⟩)|((with_reducible refine(gZ W 20 5 20 5 v20_5 _ a rfl rfl fZ fZ F.o).mono ?_);rintro e w' ⟨rfl,q,rfl⟩)|((with_reducible refine(gZ W 8 4 8 4 v8_4 _ a rfl rfl fZ fZ I.o).mono ?_);rintro e w' ⟨rfl,q,rfl⟩)|((with_reducible refine(gZ W 25 6 25 6 v25_6 _ a rfl rfl fZ fZ C.o).mono ?_);rintro e w' ⟨rfl,q,rfl⟩)|((with_reducible refine(gZ W 7 1 7 1 v7_1 _ a rfl rfl fZ fZ K.o).mono ?_);rintro e w' ⟨rfl,q,rfl⟩)|((with_reducible refine(gZ W 31 1 31 1 v31_1 _ a rfl rfl fZ fZ D.o).mono ?_);rintro e w' ⟨rfl,q,rfl⟩))|(go_at_call 171;((refine(mE _ 13 sv 13 _ rfl fZ f_ m.o).mono ?_);rintro e w' ⟨rfl,rfl⟩)))
 refine bodyPost_ret (v:=gK ⟨op,0,v15_5,v20_5,sv⟩) (results_cell_row rfl _ _ w.heap.size 72 #[b_ c_ op,b_ c_ 0,b_ c_ v15_5,b_ c_ v20_5,b_ c_ sv] (0,0) _ rfl ?_ Tryz.underlying72 rfl ga) rfl ⟨by rw[z.o],?_⟩
 · refine jE (a0:=b_ c_ 0) (a1:=b_ c_ 0) (a2:=b_ c_ 0) (a3:=b_ c_ 0) (a4:=b_ c_ 0) ?_
   repeat(first|(with_reducible exact x.o)|(with_reducible apply ji)|(with_reducible refine jL f_ ?_))
 · repeat(first|(with_reducible exact Below.refl _ _)|(with_reducible refine gO ?_ f_ _)|(with_reducible apply lJ)|(with_reducible apply iS)|(with_reducible refine gj ?_ (by with_reducible assumption)))
set_option maxRecDepth 100000 in
theorem sq op (W:Nat) w (l:W<4294967296) (a:(gB op).form=85) :
 Calls gd 127 #[b_ c_ op,b_ c_ W] w fun e w'=>e =fH (gK (ig op W))∧Up w w':=by
 have s:gi (ig op W=⟨op,((gu W 7 5:Nat):Int),0,0,((gu W 12 20:Nat):Int)⟩):=by
  have e:ig op W=jh (gB op).form op W:=rfl;rw[e,a];exact zr op W
 have y:=kC W 7 5;have B:=kC W 12 20;simp only[Nat.reducePow] at y B;generalize k:gu W 7 5=v7_5 at *
 have u:=gg k;clear k;generalize i:gu W 12 20=v12_20 at *
 have m:=gg i;clear i;generalize h:gB op=r at *
 have p:=gg h;clear h;obtain⟨nm,f,t,A,x⟩:=r;simp only at a;subst a;have D:=fun w=>uX nm 85 t A x w
 go_enter Tryz.func127,Tryz.ntmps127
 go_wp2_with fail
 refine(pA op _).mono ?_
 rw[p.o];rintro e w1 ⟨rfl,c⟩;obtain⟨c1,f1⟩:=jR c;have z:=c.size;simp at z;have C:w.heap.size<w1.heap.size:=by omega
 have E:w.heap.size+1<w1.heap.size:=by omega
 have g:=iE (b:=w.heap.size) (o:=d_ #[b_ c_ 0,b_ c_ 0,b_ c_ 0,b_ c_ 0,b_ c_ 0] 72 (0,0)) c (by simp <;> omega) (heap_alloc2_old w _ _);have n:=gg g;clear g;have j:mr 85:=by unfold mr;simp
 have d:=gg j;clear j;unfold mD
 go_wp2_with (first|(go_at_call 104;first|((with_reducible refine(iJ 85 68 true _ d.o fZ rfl).mono ?_);rintro e w' ⟨rfl,rfl⟩)|((with_reducible refine(iJ 85 65 false _ d.o fZ rfl).mono ?_);rintro e w' ⟨rfl,rfl⟩)|((with_reducible refine(iJ 85 66 false _ d.o fZ rfl).mono ?_);rintro e w' ⟨rfl,rfl⟩))|(go_at_call 63;first|((with_reducible refine(gZ W 7 5 7 5 v7_5 _ l rfl rfl fZ fZ u.o).mono ?_);rintro e w' ⟨rfl,q,rfl⟩)|((with_reducible refine(gZ W 12 20 12 20 v12_20 _ l rfl rfl fZ fZ m.o).mono ?_);rintro e w' ⟨rfl,q,rfl⟩)))
 refine bodyPost_ret (v:=gK ⟨op,v7_5,0,0,v12_20⟩) (results_cell_row rfl _ _ w.heap.size 72 #[b_ c_ op,b_ c_ v7_5,b_ c_ 0,b_ c_ 0,b_ c_ v12_20] (0,0) _ rfl ?_ Tryz.underlying72 rfl ga) rfl ⟨by rw[s.o],?_⟩
 · refine jE (a0:=b_ c_ 0) (a1:=b_ c_ 0) (a2:=b_ c_ 0) (a3:=b_ c_ 0) (a4:=b_ c_ 0) ?_
   repeat(first|(with_reducible exact n.o)|(with_reducible apply ji)|(with_reducible refine jL f_ ?_))
 · repeat(first|(with_reducible exact Below.refl _ _)|(with_reducible refine gO ?_ f_ _)|(with_reducible apply lJ)|(with_reducible apply iS)|(with_reducible refine gj ?_ (by with_reducible assumption)))
set_option maxRecDepth 100000 in
theorem si op (W:Nat) w (a:W<4294967296) (c:(gB op).form=74) :
 Calls gd 127 #[b_ c_ op,b_ c_ W] w fun e w'=>e =fH (gK (ig op W))∧Up w w':=by
 have x:gi (ig op W=⟨op,((gu W 7 5:Nat):Int),0,0,mg 21 ((gu W 21 10*2+gu W 20 1*2048+gu W 12 8*4096+gu W 31 1*1048576:Nat):Int)⟩):=by
  have e:ig op W=jh (gB op).form op W:=rfl;rw[e,c];exact zn op W
 have I:=kC W 7 5;have A:=kC W 21 10;have K:=kC W 20 1;have E:=kC W 12 8;have B:=kC W 31 1;simp only[Nat.reducePow] at I A K E B;generalize l:gu W 7 5=v7_5 at *
 have y:=gg l;clear l;generalize n:gu W 21 10=v21_10 at *
 have J:=gg n;clear n;generalize s:gu W 20 1=v20_1 at *
 have z:=gg s;clear s;generalize h:gu W 12 8=v12_8 at *
 have G:=gg h;clear h;generalize t:gu W 31 1=v31_1 at *
 have C:=gg t;clear t;generalize i:mg 21 ((v21_10*2+v20_1*2048+v12_8*4096+v31_1*1048576:Nat):Int)=sv at *
 have m:=gg i;clear i
 try simp only[Int.natCast_add,Int.natCast_mul,Int.cast_ofNat_Int] at m
 generalize j:gB op=r at *
 have D:=gg j;clear j;obtain⟨nm,f,F,M,H⟩:=r;simp only at c;subst c;have O:=fun w=>uX nm 74 F M H w
 go_enter Tryz.func127,Tryz.ntmps127
 go_wp2_with fail
 refine(pA op _).mono ?_
 rw[D.o];rintro e w1 ⟨rfl,d⟩;obtain⟨c1,f1⟩:=jR d;have L:=d.size;simp at L;have N:w.heap.size<w1.heap.size:=by omega
 have P:w.heap.size+1<w1.heap.size:=by omega
 have p:=iE (b:=w.heap.size) (o:=d_ #[b_ c_ 0,b_ c_ 0,b_ c_ 0,b_ c_ 0,b_ c_ 0] 72 (0,0)) d (by simp <;> omega) (heap_alloc2_old w _ _);have u:=gg p;clear p;have k:mr 74:=by unfold mr;simp
 have g:=gg k;clear k;unfold mD
 go_wp2_with (first|(go_at_call 104;first|((with_reducible refine(iJ 74 68 true _ g.o fZ rfl).mono ?_);rintro e w' ⟨rfl,rfl⟩)|((with_reducible refine(iJ 74 65 false _ g.o fZ rfl).mono ?_);rintro e w' ⟨rfl,rfl⟩)|((with_reducible refine(iJ 74 66 false _ g.o fZ rfl).mono ?_);rintro e w' ⟨rfl,rfl⟩))|(go_at_call 63;first|((with_reducible refine(gZ W 7 5 7 5 v7_5 _ a rfl rfl fZ fZ y.o).mono ?_);rintro e w' ⟨rfl,q,rfl⟩)|((with_reducible refine(gZ W 21 10 21 10 v21_10 _ a rfl rfl fZ fZ J.o).mono ?_);rintro e w' ⟨rfl,q,rfl⟩)|((with_reducible refine(gZ W 20 1 20 1 v20_1 _ a rfl rfl fZ fZ z.o).mono ?_);rintro e w' ⟨rfl,q,rfl⟩)|((with_reducible refine(gZ W 12 8 12 8 v12_8 _ a rfl rfl fZ fZ G.o).mono ?_);rintro e w' ⟨rfl,q,rfl⟩)|((with_reducible refine(gZ W 31 1 31 1 v31_1 _ a rfl rfl fZ fZ C.o).mono ?_);rintro e w' ⟨rfl,q,rfl⟩))|(go_at_call 171;((refine(mE _ 21 sv 21 _ rfl fZ f_ m.o).mono ?_);rintro e w' ⟨rfl,rfl⟩)))
 refine bodyPost_ret (v:=gK ⟨op,v7_5,0,0,sv⟩) (results_cell_row rfl _ _ w.heap.size 72 #[b_ c_ op,b_ c_ v7_5,b_ c_ 0,b_ c_ 0,b_ c_ sv] (0,0) _ rfl ?_ Tryz.underlying72 rfl ga) rfl ⟨by rw[x.o],?_⟩
 · refine jE (a0:=b_ c_ 0) (a1:=b_ c_ 0) (a2:=b_ c_ 0) (a3:=b_ c_ 0) (a4:=b_ c_ 0) ?_
   repeat(first|(with_reducible exact u.o)|(with_reducible apply ji)|(with_reducible refine jL f_ ?_))
 · repeat(first|(with_reducible exact Below.refl _ _)|(with_reducible refine gO ?_ f_ _)|(with_reducible apply lJ)|(with_reducible apply iS)|(with_reducible refine gj ?_ (by with_reducible assumption)))
set_option maxRecDepth 100000 in
theorem sf op (W:Nat) w (t:W<4294967296) (a:(gB op).form=70) :
 Calls gd 127 #[b_ c_ op,b_ c_ W] w fun e w'=>e =fH (gK (ig op W))∧Up w w':=by
 have n:gi (ig op W=⟨op,0,0,0,((gu W 20 8:Nat):Int)⟩):=by
  have e:ig op W=jh (gB op).form op W:=rfl;rw[e,a];exact zk op W
 have y:=kC W 20 8;simp only[Nat.reducePow] at y;generalize j:gu W 20 8=v20_8 at *
 have m:=gg j;clear j;generalize h:gB op=r at *
 have l:=gg h;clear h;obtain⟨nm,f,p,x,s⟩:=r;simp only at a;subst a;have A:=fun w=>uX nm 70 p x s w
 go_enter Tryz.func127,Tryz.ntmps127
 go_wp2_with fail
 refine(pA op _).mono ?_
 rw[l.o];rintro e w1 ⟨rfl,c⟩;obtain⟨c1,f1⟩:=jR c;have u:=c.size;simp at u;have z:w.heap.size<w1.heap.size:=by omega
 have B:w.heap.size+1<w1.heap.size:=by omega
 have g:=iE (b:=w.heap.size) (o:=d_ #[b_ c_ 0,b_ c_ 0,b_ c_ 0,b_ c_ 0,b_ c_ 0] 72 (0,0)) c (by simp <;> omega) (heap_alloc2_old w _ _);have k:=gg g;clear g;have i:mr 70:=by unfold mr;simp
 have d:=gg i;clear i;unfold mD
 go_wp2_with (first|(go_at_call 104;first|((with_reducible refine(iJ 70 68 false _ d.o fZ rfl).mono ?_);rintro e w' ⟨rfl,rfl⟩)|((with_reducible refine(iJ 70 65 false _ d.o fZ rfl).mono ?_);rintro e w' ⟨rfl,rfl⟩)|((with_reducible refine(iJ 70 66 false _ d.o fZ rfl).mono ?_);rintro e w' ⟨rfl,rfl⟩))|(go_at_call 63;first|((with_reducible refine(gZ W 20 8 20 8 v20_8 _ t rfl rfl fZ fZ m.o).mono ?_);rintro e w' ⟨rfl,q,rfl⟩)))
 refine bodyPost_ret (v:=gK ⟨op,0,0,0,v20_8⟩) (results_cell_row rfl _ _ w.heap.size 72 #[b_ c_ op,b_ c_ 0,b_ c_ 0,b_ c_ 0,b_ c_ v20_8] (0,0) _ rfl ?_ Tryz.underlying72 rfl ga) rfl ⟨by rw[n.o],?_⟩
 · refine jE (a0:=b_ c_ 0) (a1:=b_ c_ 0) (a2:=b_ c_ 0) (a3:=b_ c_ 0) (a4:=b_ c_ 0) ?_
   repeat(first|(with_reducible exact k.o)|(with_reducible apply ji)|(with_reducible refine jL f_ ?_))
 · repeat(first|(with_reducible exact Below.refl _ _)|(with_reducible refine gO ?_ f_ _)|(with_reducible apply lJ)|(with_reducible apply iS)|(with_reducible refine gj ?_ (by with_reducible assumption)))
set_option maxRecDepth 100000 in
theorem sj op (W:Nat) w (c:W<4294967296) (a:(gB op).form=76) :
 Calls gd 127 #[b_ c_ op,b_ c_ W] w fun e w'=>e =fH (gK (ig op W))∧Up w w':=by
 have s:gi (ig op W=⟨op,((gu W 7 5:Nat):Int),((gu W 15 5:Nat):Int),0,((gu W 25 2:Nat):Int)⟩):=by
  have e:ig op W=jh (gB op).form op W:=rfl;rw[e,a];exact zo op W
 have B:=kC W 7 5;have p:=kC W 15 5;have x:=kC W 25 2;simp only[Nat.reducePow] at B p x;generalize j:gu W 7 5=v7_5 at *
 have t:=gg j;clear j;generalize k:gu W 15 5=v15_5 at *
 have E:=gg k;clear k;generalize m:gu W 25 2=v25_2 at *
 have u:=gg m;clear m;generalize h:gB op=r at *
 have y:=gg h;clear h;obtain⟨nm,f,z,D,A⟩:=r;simp only at a;subst a;have G:=fun w=>uX nm 76 z D A w
 go_enter Tryz.func127,Tryz.ntmps127
 go_wp2_with fail
 refine(pA op _).mono ?_
 rw[y.o];rintro e w1 ⟨rfl,d⟩;obtain⟨c1,f1⟩:=jR d;have C:=d.size;simp at C;have F:w.heap.size<w1.heap.size:=by omega
 have H:w.heap.size+1<w1.heap.size:=by omega
 have l:=iE (b:=w.heap.size) (o:=d_ #[b_ c_ 0,b_ c_ 0,b_ c_ 0,b_ c_ 0,b_ c_ 0] 72 (0,0)) d (by simp <;> omega) (heap_alloc2_old w _ _);have n:=gg l;clear l;have i:mr 76:=by unfold mr;simp
 have g:=gg i;clear i;unfold mD
 go_wp2_with (first|(go_at_call 104;first|((with_reducible refine(iJ 76 68 true _ g.o fZ rfl).mono ?_);rintro e w' ⟨rfl,rfl⟩)|((with_reducible refine(iJ 76 65 true _ g.o fZ rfl).mono ?_);rintro e w' ⟨rfl,rfl⟩)|((with_reducible refine(iJ 76 66 false _ g.o fZ rfl).mono ?_);rintro e w' ⟨rfl,rfl⟩))|(go_at_call 63;first|((with_reducible refine(gZ W 7 5 7 5 v7_5 _ c rfl rfl fZ fZ t.o).mono ?_);rintro e w' ⟨rfl,q,rfl⟩)|((with_reducible refine(gZ W 15 5 15 5 v15_5 _ c rfl rfl fZ fZ E.o).mono ?_);rintro e w' ⟨rfl,q,rfl⟩)|((with_reducible refine(gZ W 25 2 25 2 v25_2 _ c rfl rfl fZ fZ u.o).mono ?_);rintro e w' ⟨rfl,q,rfl⟩)))
 refine bodyPost_ret (v:=gK ⟨op,v7_5,v15_5,0,v25_2⟩) (results_cell_row rfl _ _ w.heap.size 72 #[b_ c_ op,b_ c_ v7_5,b_ c_ v15_5,b_ c_ 0,b_ c_ v25_2] (0,0) _ rfl ?_ Tryz.underlying72 rfl ga) rfl ⟨by rw[s.o],?_⟩
 · refine jE (a0:=b_ c_ 0) (a1:=b_ c_ 0) (a2:=b_ c_ 0) (a3:=b_ c_ 0) (a4:=b_ c_ 0) ?_
   repeat(first|(with_reducible exact n.o)|(with_reducible apply ji)|(with_reducible refine jL f_ ?_))
 · repeat(first|(with_reducible exact Below.refl _ _)|(with_reducible refine gO ?_ f_ _)|(with_reducible apply lJ)|(with_reducible apply iS)|(with_reducible refine gj ?_ (by with_reducible assumption)))
set_option maxRecDepth 100000 in
theorem r9 op (W:Nat) w (a:W<4294967296) (c:(gB op).form=65) :
 Calls gd 127 #[b_ c_ op,b_ c_ W] w fun e w'=>e =fH (gK (ig op W))∧Up w w':=by
 have t:gi (ig op W=⟨op,((gu W 7 5:Nat):Int),((gu W 15 5:Nat):Int),((gu W 20 5:Nat):Int),((gu W 25 2:Nat):Int)⟩):=by
  have e:ig op W=jh (gB op).form op W:=rfl;rw[e,c];exact zh op W
 have D:=kC W 7 5;have s:=kC W 15 5;have H:=kC W 20 5;have y:=kC W 25 2;simp only[Nat.reducePow] at D s H y;generalize k:gu W 7 5=v7_5 at *
 have u:=gg k;clear k;generalize l:gu W 15 5=v15_5 at *
 have G:=gg l;clear l;generalize h:gu W 20 5=v20_5 at *
 have A:=gg h;clear h;generalize n:gu W 25 2=v25_2 at *
 have x:=gg n;clear n;generalize i:gB op=r at *
 have z:=gg i;clear i;obtain⟨nm,f,B,F,C⟩:=r;simp only at c;subst c;have J:=fun w=>uX nm 65 B F C w
 go_enter Tryz.func127,Tryz.ntmps127
 go_wp2_with fail
 refine(pA op _).mono ?_
 rw[z.o];rintro e w1 ⟨rfl,d⟩;obtain⟨c1,f1⟩:=jR d;have E:=d.size;simp at E;have I:w.heap.size<w1.heap.size:=by omega
 have K:w.heap.size+1<w1.heap.size:=by omega
 have m:=iE (b:=w.heap.size) (o:=d_ #[b_ c_ 0,b_ c_ 0,b_ c_ 0,b_ c_ 0,b_ c_ 0] 72 (0,0)) d (by simp <;> omega) (heap_alloc2_old w _ _);have p:=gg m;clear m;have j:mr 65:=by unfold mr;simp
 have g:=gg j;clear j;unfold mD
 go_wp2_with (first|(go_at_call 104;first|((with_reducible refine(iJ 65 68 true _ g.o fZ rfl).mono ?_);rintro e w' ⟨rfl,rfl⟩)|((with_reducible refine(iJ 65 65 true _ g.o fZ rfl).mono ?_);rintro e w' ⟨rfl,rfl⟩)|((with_reducible refine(iJ 65 66 true _ g.o fZ rfl).mono ?_);rintro e w' ⟨rfl,rfl⟩))|(go_at_call 63;first|((with_reducible refine(gZ W 7 5 7 5 v7_5 _ a rfl rfl fZ fZ u.o).mono ?_);rintro e w' ⟨rfl,q,rfl⟩)|((with_reducible refine(gZ W 15 5 15 5 v15_5 _ a rfl rfl fZ fZ G.o).mono ?_);rintro e w' ⟨rfl,q,rfl⟩)|((with_reducible refine(gZ W 20 5 20 5 v20_5 _ a rfl rfl fZ fZ A.o).mono ?_);rintro e w' ⟨rfl,q,rfl⟩)|((with_reducible refine(gZ W 25 2 25 2 v25_2 _ a rfl rfl fZ fZ x.o).mono ?_);rintro e w' ⟨rfl,q,rfl⟩)))
 refine bodyPost_ret (v:=gK ⟨op,v7_5,v15_5,v20_5,v25_2⟩) (results_cell_row rfl _ _ w.heap.size 72 #[b_ c_ op,b_ c_ v7_5,b_ c_ v15_5,b_ c_ v20_5,b_ c_ v25_2] (0,0) _ rfl ?_ Tryz.underlying72 rfl ga) rfl ⟨by rw[t.o],?_⟩
 · refine jE (a0:=b_ c_ 0) (a1:=b_ c_ 0) (a2:=b_ c_ 0) (a3:=b_ c_ 0) (a4:=b_ c_ 0) ?_
   repeat(first|(with_reducible exact p.o)|(with_reducible apply ji)|(with_reducible refine jL f_ ?_))
 · repeat(first|(with_reducible exact Below.refl _ _)|(with_reducible refine gO ?_ f_ _)|(with_reducible apply lJ)|(with_reducible apply iS)|(with_reducible refine gj ?_ (by with_reducible assumption)))
set_option maxRecDepth 100000 in
theorem ss op (W:Nat) w (_:W<4294967296) (a:(gB op).form=90) :
 Calls gd 127 #[b_ c_ op,b_ c_ W] w fun e w'=>e =fH (gK (ig op W))∧Up w w':=by
 have l:gi (ig op W=⟨op,0,0,0,0⟩):=by
  have e:ig op W=jh (gB op).form op W:=rfl;rw[e,a];exact zt op W
 generalize h:gB op=r at *
 have k:=gg h;clear h;obtain⟨nm,f,m,q,n⟩:=r;simp only at a;subst a;have t:=fun w=>uX nm 90 m q n w
 go_enter Tryz.func127,Tryz.ntmps127
 go_wp2_with fail
 refine(pA op _).mono ?_
 rw[k.o];rintro e w1 ⟨rfl,c⟩;obtain⟨c1,f1⟩:=jR c;have p:=c.size;simp at p;have s:w.heap.size<w1.heap.size:=by omega
 have u:w.heap.size+1<w1.heap.size:=by omega
 have g:=iE (b:=w.heap.size) (o:=d_ #[b_ c_ 0,b_ c_ 0,b_ c_ 0,b_ c_ 0,b_ c_ 0] 72 (0,0)) c (by simp <;> omega) (heap_alloc2_old w _ _);have j:=gg g;clear g;have i:mr 90:=by unfold mr;simp
 have d:=gg i;clear i;unfold mD
 go_wp2_with (first|(go_at_call 104;first|((with_reducible refine(iJ 90 68 false _ d.o fZ rfl).mono ?_);rintro e w' ⟨rfl,rfl⟩)|((with_reducible refine(iJ 90 65 false _ d.o fZ rfl).mono ?_);rintro e w' ⟨rfl,rfl⟩)|((with_reducible refine(iJ 90 66 false _ d.o fZ rfl).mono ?_);rintro e w' ⟨rfl,rfl⟩)))
 refine bodyPost_ret (v:=gK ⟨op,0,0,0,0⟩) (results_cell_row rfl _ _ w.heap.size 72 #[b_ c_ op,b_ c_ 0,b_ c_ 0,b_ c_ 0,b_ c_ 0] (0,0) _ rfl ?_ Tryz.underlying72 rfl ga) rfl ⟨by rw[l.o],?_⟩
 · refine jE (a0:=b_ c_ 0) (a1:=b_ c_ 0) (a2:=b_ c_ 0) (a3:=b_ c_ 0) (a4:=b_ c_ 0) ?_
   repeat(first|(with_reducible exact j.o)|(with_reducible apply ji)|(with_reducible refine jL f_ ?_))
 · repeat(first|(with_reducible exact Below.refl _ _)|(with_reducible refine gO ?_ f_ _)|(with_reducible apply lJ)|(with_reducible apply iS)|(with_reducible refine gj ?_ (by with_reducible assumption)))
theorem qC op (W:Nat) w (a:W<4294967296) (h:1≤op∧op≤49) :
 Calls gd 127 #[b_ c_ op,b_ c_ W] w fun e w'=>e =fH (gK (ig op W))∧Up w w':=by
 rcases Dj _ h with h|h|h|h|h|h|h|h|h|h|h|h
 · exact sk op W w a h
 · exact sh op W w a h
 · exact sg op W w a h
 · exact sm op W w a h
 · exact r_ op W w a h
 · exact sq op W w a h
 · exact si op W w a h
 · exact sf op W w a h
 · exact se op W w a h
 · exact sj op W w a h
 · exact r9 op W w a h
 · exact ss op W w a h
theorem ou word w (a:word<0∨4294967296≤word) :
 Calls gd 87 #[b_ c_ word] w fun e w'=>e =fH (fI #[gK m5,b_ c_ 20])∧Up w w':=by
 rcases a with a|a
 · go_enter Tryz.func87,Tryz.ntmps87
   go_wp2_with fail
   refine bodyPost_ret (v:=fI #[gK m5,b_ c_ 20]) (by simp[results,Tryz.results87,go_sem,gK,m5]) rfl ⟨rfl,(by repeat(first|(with_reducible exact Below.refl _ _)|(with_reducible refine gO ?_ ?_ _)|(with_reducible apply iS)|(with_reducible refine gj ?_ (by with_reducible assumption))|(with_reducible apply iR)|omega))⟩
 · have h0:¬ word<0:=by omega
   go_enter Tryz.func87,Tryz.ntmps87
   go_wp2_with fail
   refine bodyPost_ret (v:=fI #[gK m5,b_ c_ 20]) (by simp[results,Tryz.results87,go_sem,gK,m5]) rfl ⟨rfl,(by repeat(first|(with_reducible exact Below.refl _ _)|(with_reducible refine gO ?_ ?_ _)|(with_reducible apply iS)|(with_reducible refine gj ?_ (by with_reducible assumption))|(with_reducible apply iR)|omega))⟩
theorem pr op d a b n (w) :
 Calls gd 25 #[e_ #[b_ c_ op,b_ c_ d,b_ c_ a,b_ c_ b,b_ c_ n]] w fun e w'=>e =fH (fI #[b_ c_ (kq ⟨op,d,a,b,n⟩),b_ c_ (kA ⟨op,d,a,b,n⟩)])∧Up w w':=Hb ⟨op,d,a,b,n⟩ w
set_option maxRecDepth 100000 in
theorem nW (word:Nat) w (t:word<4294967296) :
 Calls gd 87 #[b_ c_ word] w fun e w'=>e =fH (fI #[gK (rM word),b_ c_ (rL word)])∧Up w w':=by
 have q:decide ((word:Int)<0)=false:=by simp
 have m:decide (4294967296≤(word:Int))=false:=by simp;omega
 have U:=gg t;clear t;go_enter Tryz.func87,Tryz.ntmps87
 go_wp2_with fail
 clear q m
 go_loopw [4] (fun i wr=>∃ op:Nat,1≤op∧op≤50∧i =b_ c_ op∧(∀ o,1≤o→o<op→BO word o=false)∧wr.heap[w.heap.size]? = some (d_ #[b_ c_ 0,b_ c_ 0,b_ c_ 0,b_ c_ 0,b_ c_ 0] 72 (0,0))∧Up w wr) (fun i _=>50 - (intOf i).toNat)
 case atStart=>exact⟨1,by omega,by omega,rfl,fun o h1 h2=>by omega,gH _ _,(by repeat(first|(with_reducible exact Below.refl _ _)|(with_reducible refine gO ?_ ?_ _)|(with_reducible apply iS)|(with_reducible refine gj ?_ (by with_reducible assumption))|(with_reducible apply iR)|omega))⟩
 case round=>
  obtain⟨op,aa,ac,rfl,n,a,ab⟩:=hrel;have p:=gg n;have R:=gg a;have M:w.heap.size<wr.heap.size:=gn a;have F:wr.cell? ⟨w.heap.size,0,none⟩=some (b_ c_ 0):=gv a rfl;have Z:=gC a 0;have I:wr.cell? ⟨w.heap.size,1,none⟩=some (b_ c_ 0):=gv a rfl;have g1:=gC a 1;have D:wr.cell? ⟨w.heap.size,2,none⟩=some (b_ c_ 0):=gv a rfl;have g2:=gC a 2;have k3:wr.cell? ⟨w.heap.size,3,none⟩=some (b_ c_ 0):=gv a rfl;have g3:=gC a 3;have Q:wr.cell? ⟨w.heap.size,4,none⟩=some (b_ c_ 0):=gv a rfl;have Y:=gC a 4;by_cases X:(op:Int)≤49
  · clear n a
    go_wp2_with fail
    refine(qC op word _ U.o f_).mono ?_
    rintro e w1 ⟨rfl,y⟩;obtain⟨c1,f1⟩:=jR y;have T:=y.size
    try simp at T
    have ae:w.heap.size<w1.heap.size:=by omega
    have N:=gg (show BO word op=(kA (ig op word) == 0 && kq (ig op word) == (word:Int)) from rfl);have C:gi (ig op word=ig op word):=rfl;generalize z:ig op word=x at *
    obtain⟨f,d,g,h,j⟩:=x;have P:=gg z;clear z C;unfold gK
    go_wp2_with fail
    refine(pr _ _ _ _ _ _).mono ?_
    rintro e w2 ⟨rfl,s⟩;obtain⟨W,f2⟩:=jR s;have E:=s.size
    try simp at E
    have ad:w.heap.size<w2.heap.size:=by omega
    have af:w1.heap.size<w2.heap.size:=by omega
    have r:=iE (w:=wr) (w':=w2) (B:=wr.heap.size) (by repeat(first|(with_reducible exact Below.refl _ _)|(with_reducible refine gO ?_ ?_ _)|(with_reducible apply iS)|(with_reducible refine gj ?_ (by with_reducible assumption))|(with_reducible apply iR)|omega)) M R.o;have b:=gg r;clear r;have l:=N.o;cases O:(kA ⟨f,d,g,h,j⟩ == 0) <;> cases K:(kq ⟨f,d,g,h,j⟩ == (word:Int))
    all_goals
     rw[O,K] at l;have u:=gg l;clear l;generalize kA ⟨f,d,g,h,j⟩=ee at *
     generalize kq ⟨f,d,g,h,j⟩=ev at *
     go_wp2_with fail
     first
      | (refine⟨⟨op+1,by omega,by omega,by go_num,fun o h1 h2=>?_,b.o,(by repeat(first|(with_reducible exact Below.refl _ _)|(with_reducible refine gO ?_ ?_ _)|(with_reducible apply iS)|(with_reducible refine gj ?_ (by with_reducible assumption))|(with_reducible apply iR)|omega))⟩,by simp[intOf];omega⟩;by_cases G:o=op;(subst G;exact u.o);(exact p.o o h1 f_))
      | ((try simp only[Exit.inBlock,Exit.then]);obtain⟨c,k⟩:=sR f_ u.o p.o;rw[P.o] at c;have q:w2.cell? ⟨w.heap.size,0,none⟩=some (b_ c_ 0):=gv b.o rfl;have m:w2.cell? ⟨w.heap.size,1,none⟩=some (b_ c_ 0):=gv b.o rfl;have A:w2.cell? ⟨w.heap.size,2,none⟩=some (b_ c_ 0):=gv b.o rfl;have H:w2.cell? ⟨w.heap.size,3,none⟩=some (b_ c_ 0):=gv b.o rfl;have V:w2.cell? ⟨w.heap.size,4,none⟩=some (b_ c_ 0):=gv b.o rfl;refine bodyPost_ret (v:=fI #[gK ⟨f,d,g,h,j⟩,b_ c_ 0]) (by simp[results,Tryz.results87,go_sem,gK,q,m,A,H,V]) rfl ⟨by rw[c,k],(by repeat(first|(with_reducible exact Below.refl _ _)|(with_reducible refine gO ?_ ?_ _)|(with_reducible apply iS)|(with_reducible refine gj ?_ (by with_reducible assumption))|(with_reducible apply iR)|omega))⟩)
  · have L:op=50:=by omega
    subst L;obtain⟨c,k⟩:=pW (fun o h1 h2=>p.o o h1 h2);clear n a;have S:=gg c;have J:=gg k;clear c k
    go_wp2_with fail
    try simp only[Exit.inBlock,Exit.then]
    refine bodyPost_ret (v:=fI #[gK m5,b_ c_ 20]) (by simp[results,Tryz.results87,go_sem,gK,m5,F,I,D,k3,Q]) rfl ⟨by rw[S.o,J.o],(by repeat(first|(with_reducible exact Below.refl _ _)|(with_reducible refine gO ?_ ?_ _)|(with_reducible apply iS)|(with_reducible refine gj ?_ (by with_reducible assumption))|(with_reducible apply iR)|omega))⟩
end
