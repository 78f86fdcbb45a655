/- What the walks of this statement lean on: shown. -/
import Derived.Test.YtdobddiibgfeaaaGreatZb
import Derived.Test.YtdobddiibgfeaaaGreatZf
import Derived.Deep.CutBlock
set_option linter.all false
set_option maxRecDepth 100000
set_option maxHeartbeats 16000000
namespace Go.Proofs.YtdobddiibgfeaaaGreat
open Value renaming slice→a_,int→b_,agg→e_,pointer→fG,tuple→fI,bool→fJ
open IntKind renaming i64→c_
open Obj renaming cells→d_
open Ending renaming returned→fH
open Go.Proofs.Tryz renaming prog→gd
section
open Go.RowKit
structure Ht where
 r:List Int
 pc:Int
 st:Int
 ve:Int
 sc:Int
 ep:Int
 ca:Int
 le:Int
def hL (h:Ht):List Int:=h.r ++ [h.pc,h.st,h.ve,h.sc,h.ep,h.ca,h.le]
def hA (h:Ht):Array Value:=((hL h).map (b_ c_)).toArray
theorem gV h (a:h.r.length=32):(hA h).size=39:=by simp[hA,hL,a]
theorem jU (h):(hA h).all (·.oneCell')=true:=by
 simp only[hA,List.all_toArray,List.all_eq_true];intro v b;obtain⟨a,_,rfl⟩:=List.mem_map.1 b
 rfl
theorem GG h (j:Nat):(hA h)[j]? = ((hL h)[j]?).map (b_ c_):=by simp[hA]
theorem l9 h (a:h.r.length=32) k (b:k<32):(hA h)[k]? = some (b_ c_ (h.r.getD k 0)):=by
 rw[GG,hL,List.getElem?_append_left f_,List.getD_eq_getElem?_getD,fQ f_];rfl
theorem CV h (a:h.r.length=32) (k):(hA h)[32+k]? = ([h.pc,h.st,h.ve,h.sc,h.ep,h.ca,h.le][k]?).map (b_ c_):=by
 rw[GG,hL,List.getElem?_append_right f_,a,Nat.add_sub_cancel_left]
theorem lT h (a:h.r.length=32):(hA h)[32]? = some (b_ c_ h.pc)∧(hA h)[33]? = some (b_ c_ h.st)∧(hA h)[34]? = some (b_ c_ h.ve)∧(hA h)[35]? = some (b_ c_ h.sc) ∧
 (hA h)[36]? = some (b_ c_ h.ep)∧(hA h)[37]? = some (b_ c_ h.ca)∧(hA h)[38]? = some (b_ c_ h.le):=
 ⟨CV h a 0,CV h a 1,CV h a 2,CV h a 3,CV h a 4,CV h a 5,CV h a 6⟩
theorem p_ h (a:h.r.length=32) k (b:k<32) (v):(hA h).setIfInBounds k (b_ c_ v)=hA { h with r:=h.r.set k v }:=by
 simp only[hA,hL,List.setIfInBounds_toArray,List.map_append,List.map_set];rw[List.set_append_left _ _ (by simpa using by omega)]
theorem CK h (a:h.r.length=32) k (v):(hA h).setIfInBounds (32+k) (b_ c_ v)=((h.r ++ [h.pc,h.st,h.ve,h.sc,h.ep,h.ca,h.le].set k v).map (b_ c_)).toArray:=by
 simp only[hA,hL,List.setIfInBounds_toArray,List.map_append];rw[List.set_append_right _ _ (by simpa using by omega),List.length_map,a,Nat.add_sub_cancel_left,List.map_set]
theorem Bb h (a:h.r.length=32) (v):(hA h).setIfInBounds 32 (b_ c_ v)=hA { h with pc:=v }:=CK h a 0 v
theorem nN h (a:h.r.length=32) (v):(hA h).setIfInBounds 33 (b_ c_ v)=hA { h with st:=v }:=CK h a 1 v
theorem Bj h (a:h.r.length=32) (v):(hA h).setIfInBounds 34 (b_ c_ v)=hA { h with ve:=v }:=CK h a 2 v
theorem Bi h (a:h.r.length=32) (v):(hA h).setIfInBounds 35 (b_ c_ v)=hA { h with sc:=v }:=CK h a 3 v
theorem sW h (a:h.r.length=32) (v):(hA h).setIfInBounds 36 (b_ c_ v)=hA { h with ep:=v }:=CK h a 4 v
theorem sV h (a:h.r.length=32) (v):(hA h).setIfInBounds 37 (b_ c_ v)=hA { h with ca:=v }:=CK h a 5 v
theorem Bh h (a:h.r.length=32) (v):(hA h).setIfInBounds 38 (b_ c_ v)=hA { h with le:=v }:=CK h a 6 v
def zA:Array Value:=#[b_ c_ 0,b_ c_ 0,b_ c_ 0,b_ c_ 0,b_ c_ 0,b_ c_ 0,b_ c_ 0,b_ c_ 0,b_ c_ 0,b_ c_ 0,b_ c_ 0,b_ c_ 0,b_ c_ 0,b_ c_ 0,b_ c_ 0,b_ c_ 0,b_ c_ 0,b_ c_ 0,b_ c_ 0,b_ c_ 0,b_ c_ 0,b_ c_ 0,b_ c_ 0,b_ c_ 0,b_ c_ 0,b_ c_ 0,b_ c_ 0,b_ c_ 0,b_ c_ 0,b_ c_ 0,b_ c_ 0,b_ c_ 0,b_ c_ 0,b_ c_ 0,b_ c_ 0,b_ c_ 0,b_ c_ 0,b_ c_ 0,b_ c_ 0]
theorem lU w (a b):∃ w0:World,w0=(w.alloc a).alloc b∧w0.heap[w.heap.size]? = some a∧w0.heap[w.heap.size+1]? = some b∧Up w w0∧w.heap.size+2≤w0.heap.size:=
 ⟨_,rfl,heap_alloc2_old w a b,heap_alloc2_new w a b,(fK.alloc fL _).alloc gb _,by simp⟩
theorem pC w (a):∃ w0:World,w0=w.alloc a∧w0.heap[w.heap.size]? = some a∧Up w w0∧w.heap.size+1≤w0.heap.size:=
 ⟨_,rfl,heap_alloc_new w a,fK.alloc fL _,by simp⟩
theorem mT {w:World} {b cs} {t:TypeId} (h:w.heap[b]? = some (d_ cs t (0,0))) (j) (u) (cs') (e:cs.setIfInBounds j u=cs'):(w.setCell ⟨b,j,none⟩ u).heap[b]? = some (d_ cs' t (0,0)):=by
 rw[←e];exact jb h j u
theorem iL {w:World} {b g cs x} (h:g≠b) (a:w.heap[g]? = x):(w.setRow b cs).heap[g]? = x:=(setRow_other w b g cs h).trans a
def gR (h:Ht) (d n:Int):Ht:=if 0<d∧d<32 then { h with r:=h.r.set d.toNat (wrap32 n) } else h
theorem mo {h} (a:h.r.length=32) (d n):(gR h d n).r.length=32:=by
 unfold gR;split
 · simpa using a
 · exact a
theorem DH:(gd.info? 56).map (·.size)=some 39:=by kernel_rfl
theorem ii {A:Array Value} (h:A.size=39):(gd.info? 56).map (·.size)=some A.size:=by rw[h];exact DH
theorem CM h d n w (j:h.r.length=32) :
 Calls gd 113 #[e_ (hA h),b_ c_ d,b_ c_ n] w fun e w'=>e =fH (e_ (hA (gR h d n)))∧Up w w':=by
 have a:=gg (gV h j);have C:=gg (jU h);have s:=gg (fun k q=>l9 h j k q);have y:=gg (fun k q v=>p_ h j k q v);by_cases f:0<d∧d<32
 · obtain⟨k,rfl,K,E⟩:∃ k:Nat,d=k∧0<k∧k<32:=⟨d.toNat,by omega,by omega,by omega⟩
   have t:=gg (show gR h k n = { h with r:=h.r.set k (wrap32 n) } by unfold gR;rw[if_pos f];rfl);have p:=gg (gV (gR h k n) (mo j k n));have G:=gg (jU (gR h k n));obtain⟨w0,g,c,i,I,H⟩:=lU w (d_ (hA h) 56) (d_ zA 56);have F:=gg (mT c k (b_ c_ (wrap32 n)) (hA (gR h k n)) (by rw[t.o];exact y.o k E _));have z:=gg (jL (b:=w.heap.size) (o:=k) (u:=b_ c_ (wrap32 n)) (by omega:w.heap.size+1≠w.heap.size) i);have J:=gv c (s.o k E);have f0:=gC c k;have l:=gg g;clear s c i g y f;generalize hA (gR h k n)=B at *
   generalize hA h=A at *
   go_in;go_upto_region 1 with(fail)
   change Code.wp _ _ _ _ ((w.alloc (d_ A 56)).alloc (d_ zA 56));rw[←l.o]
   go_wp2_with (first|(go_at_call 124;refine(mF _ _).mono ?_;rintro e w' ⟨rfl,rfl⟩)|(refine wpList_load_row rfl 56 _ rfl (w.heap.size) rfl 56 B (0,0) _ F.o Tryz.underlying56 rfl (ii p.o) ?_)|(refine wpList_store_row rfl 56 _ _ rfl (w.heap.size+1) B rfl rfl 56 zA z.o (ii p.o) (by rw[p.o];rfl) G.o ?_))
   refine bodyPost_ret (v:=e_ B) (results_cell_row rfl _ _ (w.heap.size+1) 56 B (0,0) _ rfl (setRow_heap _ _ _ _ _ _ z.o) Tryz.underlying56 rfl (ii p.o)) rfl ⟨rfl,below_setRow zB f_ _⟩
 · have t:=gg (show gR h d n=h by unfold gR;rw[if_neg f])
   obtain⟨w0,g,c,i,I,H⟩:=lU w (d_ (hA h) 56) (d_ zA 56);have D:=gg c;have m:=gg i;have l:=gg g;clear s c i g y;rw[t.o];generalize hA h=A at *
   by_cases hd1:0<d
   · have hd2:¬ d<32:=fun x=>f ⟨hd1,x⟩
     clear f;go_in;go_upto_region 1 with(fail)
     change Code.wp _ _ _ _ ((w.alloc (d_ A 56)).alloc (d_ zA 56));rw[←l.o]
     go_wp2_with (first|(refine wpList_load_row rfl 56 _ rfl (w.heap.size) rfl 56 A (0,0) _ D.o Tryz.underlying56 rfl (ii a.o) ?_)|(refine wpList_store_row rfl 56 _ _ rfl (w.heap.size+1) A rfl rfl 56 zA m.o (ii a.o) (by rw[a.o];rfl) C.o ?_))
     refine bodyPost_ret (v:=e_ A) (results_cell_row rfl _ _ (w.heap.size+1) 56 A (0,0) _ rfl (setRow_heap _ _ _ _ _ _ m.o) Tryz.underlying56 rfl (ii a.o)) rfl ⟨rfl,below_setRow zB f_ _⟩
   · clear f
     go_in;go_upto_region 1 with(fail)
     change Code.wp _ _ _ _ ((w.alloc (d_ A 56)).alloc (d_ zA 56));rw[←l.o]
     go_wp2_with (first|(refine wpList_load_row rfl 56 _ rfl (w.heap.size) rfl 56 A (0,0) _ D.o Tryz.underlying56 rfl (ii a.o) ?_)|(refine wpList_store_row rfl 56 _ _ rfl (w.heap.size+1) A rfl rfl 56 zA m.o (ii a.o) (by rw[a.o];rfl) C.o ?_))
     refine bodyPost_ret (v:=e_ A) (results_cell_row rfl _ _ (w.heap.size+1) 56 A (0,0) _ rfl (setRow_heap _ _ _ _ _ _ m.o) Tryz.underlying56 rfl (ii a.o)) rfl ⟨rfl,below_setRow zB f_ _⟩
def A_ (op a b:Int):Bool:=
 if op=5 then a == b else if op=6 then a != b else if op=7 then decide (a<b) else if op=8 then decide (b≤a) else if op=9 then decide (word a<word b) else decide (word b≤word a)
theorem Mo op a b w (h:5≤op∧op≤10) :
 Calls gd 153 #[b_ c_ op,b_ c_ a,b_ c_ b] w fun e w'=>e =fH (fJ (A_ op a b))∧w=w':=by
 rcases(by omega:op=5∨op=6∨op=7∨op=8∨op=9∨op=10) with rfl|rfl|rfl|rfl|rfl|rfl
 all_goals
  go_in;go_wp2;go_ret;exact⟨gt (iO rfl),rfl⟩
def pL (op a b:Int):Int:=if op=36 then (if word b=0 then -1 else word a / word b) else (if word b=0 then a else word a % word b)
theorem Dz a b (h:¬ word b=0):pL 36 a b=(a % 4294967296).tdiv (b % 4294967296) % 4294967296:=by
 have c:=pM a;have d:=pM b;have e:pL 36 a b=word a / word b:=by unfold pL;rw[if_pos rfl,if_neg h]
 have h1:=Int.ediv_le_self (word b) c.1;have h2:0≤word a / word b:=Int.ediv_nonneg c.1 d.1;rw[e,show a % 4294967296=word a from rfl,show b % 4294967296=word b from rfl,Int.tdiv_eq_ediv_of_nonneg c.1];omega
theorem DA a b (h:¬ word b=0):pL 38 a b=wrap64 (a % 4294967296 % (b % 4294967296)):=by
 have c:=pM b;have e:pL 38 a b=word a % word b:=by unfold pL;rw[if_neg fZ,if_neg h]
 have h1:0≤word a % word b:=Int.emod_nonneg _ h;have h2:word a % word b<word b:=Int.emod_lt_of_pos _ f_;rw[e,show a % 4294967296=word a from rfl,show b % 4294967296=word b from rfl];unfold wrap64;omega
theorem vH a b (h:word b=0):pL 36 a b = -1:=by unfold pL;rw[if_pos rfl,if_pos h]
theorem vI a b (h:word b=0):pL 38 a b=a:=by unfold pL;rw[if_neg fZ,if_pos h]
theorem GS op a b w (h:op=36∨op=38) :
 Calls gd 157 #[b_ c_ op,b_ c_ a,b_ c_ b] w fun e w'=>e =fH (b_ c_ (pL op a b))∧w=w':=by
 by_cases h0:word b=0
 · have q:(b % 4294967296 == 0)=true:=by simpa[word] using h0
   have c:=gg h0;clear h0;rcases h with rfl|rfl
   · go_in
     go_wp2;go_ret;exact⟨gt (io (vH a b c.o).symm),rfl⟩
   · go_in
     go_wp2;go_ret;exact⟨gt (io (vI a b c.o).symm),rfl⟩
 · have q:(b % 4294967296 == 0)=false:=by simpa[word] using h0
   have c:=gg h0;clear h0;rcases h with rfl|rfl
   · go_in
     go_wp2;go_ret;exact⟨gt (io (Dz a b c.o).symm),rfl⟩
   · go_in
     go_wp2;go_ret;exact⟨gt (io (DA a b c.o).symm),rfl⟩
def Cu:List Int:=[0,0,0,0,0,0,0,0,0,0,0,0,0,1,11,12,8,7,6,9,0,10,1,2,9,11,12,8,0,10,7,6,3,0,0,4,0,5,0,0,0,0,0,0,0,0,0,0,0,1]
def ul (op:Int):Int:=Cu.getD op.toNat 0
def rW:Array Value:=(Cu.map (b_ c_)).toArray
theorem GZ (w) :
 Calls gd 159 #[] w fun e w'=>e =fH (e_ rW)∧Up w w':=by
 go_in;go_upto_region 1 with(fail)
 apply wp_region_lit;refine GV 1 _ _ ⟨#[fG (some ⟨w.heap.size,0,none⟩),e_ rW],[]⟩ ga ?_
 simp only[List.drop_succ_cons,List.drop_zero];refine wpList_store_row rfl 223 _ _ rfl w.heap.size rW rfl rfl 223 _ (gH w _) ga ga ga ?_
 go_wp2_with fail
 refine bodyPost_ret (v:=e_ rW) (results_cell_row rfl _ _ w.heap.size 223 rW (0,0) _ rfl (setRow_heap _ _ _ _ _ _ (gH w _)) Tryz.underlying223 rfl ga) rfl ⟨rfl,below_setRow zB fL _⟩
def lV (op a b:Int):Int:=
 if op=20∨op=28 then word a / 2 ^ (b % 32).toNat else if op=33 then qe a b true else if op=34 then qe a b false else if op=36∨op=38 then pL op a b else gY (ul op) a b
theorem tk (k:Int) (h:0≤k∧k<32):(1:Int)≤2 ^ k.toNat∧(2:Int) ^ k.toNat≤2147483648:=by
 obtain⟨j,rfl⟩:=Int.eq_ofNat_of_zero_le h.1;have h1:2 ^ j≤2 ^ 31:=Nat.pow_le_pow_right fZ f_;have h2:0<2 ^ j:=Nat.two_pow_pos j;have e:(2:Int) ^ j=((2 ^ j:Nat):Int):=by rw[Int.natCast_pow];rfl
 simp only[Int.toNat_natCast];omega
theorem qu a (k):wrap64 (word a / 2 ^ k)=word a / 2 ^ k:=by
 have b:=pM a;have e:(2:Int) ^ k=((2 ^ k:Nat):Int):=by rw[Int.natCast_pow];rfl
 have h1:=Int.ediv_le_self (2 ^ k) b.1;have h2:0≤word a / 2 ^ k:=Int.ediv_nonneg b.1 (by rw[e];exact Int.natCast_nonneg _);unfold wrap64;omega
def yE (op:Int):Prop:=op=13∨op=14∨op=15∨op=16∨op=17∨op=18∨op=19∨op=21∨op=22∨op=23∨op=24∨op=25∨op=26∨op=27∨op=29∨op=30∨op=31∨op=32∨op=35∨op=37
theorem KN op a b w (h:yE op) :
 Calls gd 114 #[b_ c_ op,b_ c_ a,b_ c_ b] w fun e w'=>e =fH (b_ c_ (lV op a b))∧Up w w':=by
 have E:gi (lV op a b=gY (ul op) a b):=by
  unfold lV;unfold yE at h;rw[if_neg f_,if_neg f_,if_neg f_,if_neg f_];exact rfl
 have i:∀ w:World,(Instr.index 223 (e_ rW) (b_ c_ op)).run gd w = .ok (b_ c_ (ul op)) w:=by
  intro w;rcases h with rfl|rfl|rfl|rfl|rfl|rfl|rfl|rfl|rfl|rfl|rfl|rfl|rfl|rfl|rfl|rfl|rfl|rfl|rfl|rfl <;> kernel_rfl
 have d:(op == 20)=false:=by simp;unfold yE at h;omega
 have l:(op == 28)=false:=by simp;unfold yE at h;omega
 have g:(op == 33)=false:=by simp;unfold yE at h;omega
 have j:(op == 34)=false:=by simp;unfold yE at h;omega
 have k:(op == 36)=false:=by simp;unfold yE at h;omega
 have c:(op == 38)=false:=by simp;unfold yE at h;omega
 clear h;go_in
 go_wp2_with fail
 refine(GZ _).mono ?_
 rintro e w1 ⟨rfl,f⟩
 go_wp2_with fail
 refine(IX _ a b _).mono ?_
 rintro e w2 ⟨rfl,rfl⟩
 go_wp2
 go_ret;exact⟨by rw[E.o];rfl,zB⟩
theorem wM op a b w (h:op=20∨op=28) :
 Calls gd 114 #[b_ c_ op,b_ c_ a,b_ c_ b] w fun e w'=>e =fH (b_ c_ (lV op a b))∧Up w w':=by
 have E:gi (lV op a b=word a / 2 ^ (b % 32).toNat):=by unfold lV;rw[if_pos h];exact rfl
 have g:bits .and .i64 b 31=b % 32:=Fd b;have i:0≤b % 32:=by omega
 have j:b % 32≤31:=by omega
 have f:=pM a;have d:=tk (b % 32) f_;have c:=gg (qu a (b % 32).toNat);rcases h with rfl|rfl
 all_goals
  go_in
  go_wp2
  go_ret;exact⟨by rw[E.o,←c.o];rfl,zB⟩
theorem wN a b (w) :
 Calls gd 114 #[b_ c_ 33,b_ c_ a,b_ c_ b] w fun e w'=>e =fH (b_ c_ (lV 33 a b))∧Up w w':=by
 go_in
 go_wp2_with fail
 refine(II a b _ _).mono ?_
 rintro e w1 ⟨rfl,rfl⟩
 go_wp2
 go_ret;exact⟨rfl,zB⟩
theorem wO a b (w) :
 Calls gd 114 #[b_ c_ 34,b_ c_ a,b_ c_ b] w fun e w'=>e =fH (b_ c_ (lV 34 a b))∧Up w w':=by
 go_in
 go_wp2_with fail
 refine(II a b _ _).mono ?_
 rintro e w1 ⟨rfl,rfl⟩
 go_wp2
 go_ret;exact⟨rfl,zB⟩
theorem wP op a b w (h:op=36∨op=38) :
 Calls gd 114 #[b_ c_ op,b_ c_ a,b_ c_ b] w fun e w'=>e =fH (b_ c_ (lV op a b))∧Up w w':=by
 rcases h with rfl|rfl
 · go_in
   go_wp2_with fail
   refine(GS 36 a b _ (.inl rfl)).mono ?_
   rintro e w1 ⟨rfl,rfl⟩
   go_wp2
   go_ret;exact⟨rfl,zB⟩
 · go_in
   go_wp2_with fail
   refine(GS 38 a b _ (.inr rfl)).mono ?_
   rintro e w1 ⟨rfl,rfl⟩
   go_wp2
   go_ret;exact⟨rfl,zB⟩
theorem Hr op a b w (h:13≤op∧op≤38) :
 Calls gd 114 #[b_ c_ op,b_ c_ a,b_ c_ b] w fun e w'=>e =fH (b_ c_ (lV op a b))∧Up w w':=by
 by_cases h1:op=20∨op=28
 · exact wM op a b w h1
 by_cases h2:op=33
 · subst h2;exact wN a b w
 by_cases h3:op=34
 · subst h3;exact wO a b w
 by_cases h4:op=36∨op=38
 · exact wP op a b w h4
 exact KN op a b w (by unfold yE;omega)
def tC (op a n:Int):Int:=if op=41 then bits .or .i64 a n else if op=42 then bits .andNot .i64 a n else n
theorem Ky op a n (w) :
 Calls gd 155 #[b_ c_ op,b_ c_ a,b_ c_ n] w fun e w'=>e =fH (b_ c_ (tC op a n))∧w=w':=by
 by_cases h1:op=41
 · subst h1
   go_in
   go_wp2
   go_ret;exact⟨rfl,rfl⟩
 by_cases h2:op=42
 · subst h2
   go_in
   go_wp2
   go_ret;exact⟨rfl,rfl⟩
 · have E:gi (tC op a n=n):=by unfold tC;rw[if_neg h1,if_neg h2];exact rfl
   have b:(op == 41)=false:=by simp[h1]
   have c:(op == 42)=false:=by simp[h2]
   clear h1 h2;go_in
   go_wp2
   go_ret;exact⟨by rw[E.o];rfl,rfl⟩
def m_ (pc:Int) (x:ju) (a b:Int):Int:=
 if x.op=3∨(5≤x.op∧x.op≤10∧A_ x.op a b=true) then wrap32 (pc+x.n) else if x.op=4 then bits .and .i64 (wrap32 (a+x.n)) (-2) else wrap32 (pc+4)
theorem ID op a b r w (h:5≤op∧op≤10) (c:A_ op a b=r) :
 Calls gd 153 #[b_ c_ op,b_ c_ a,b_ c_ b] w fun e w'=>e =fH (fJ r)∧w=w':=by subst c;exact Mo op a b w h
theorem Jz h x a b w (q:h.r.length=32) :
 Calls gd 110 #[e_ (hA h),gK x,b_ c_ a,b_ c_ b] w fun e w'=>e =fH (b_ c_ (m_ h.pc x a b))∧Up w w':=by
 have y:=(lT h q).1;obtain⟨op,d,ra,l,n⟩:=x;have c:=gg (show m_ h.pc ⟨op,d,ra,l,n⟩ a b=if op=3∨(5≤op∧op≤10∧A_ op a b=true) then wrap32 (h.pc+n) else if op=4 then bits .and .i64 (wrap32 (a+n)) (-2) else wrap32 (h.pc+4) from rfl);generalize m_ h.pc ⟨op,d,ra,l,n⟩ a b=res at *
 generalize h.pc=pc at *
 generalize hA h=A at *
 have f1:=yD (pc+n);have f2:=yD (a+n);have f3:=yD (pc+4);have p:=gg f1;have s:=gg f2;have k:=gg f3;clear f1 f2 f3;unfold gK;by_cases c1:op=3
 · subst c1
   have E:gi (res=wrap32 (pc+n)):=by rw[c.o,if_pos (.inl rfl)];exact rfl
   clear c;go_in
   go_wp2_with (go_at_call 124;refine(mF _ _).mono ?_;rintro e w' ⟨rfl,rfl⟩)
   go_ret;exact⟨gt (io (by rw[E.o];first|exact p.o|rfl)),zB⟩
 have v:(op == 3)=false:=by simp[c1]
 by_cases f:5≤op∧op≤10
 · have m:=gg f
   have o:decide (5≤op)=true:=by simp;omega
   have u:decide (op≤10)=true:=by simp;omega
   have t:(op == 4)=false:=by simp;omega
   cases g:A_ op a b
   · have E:gi (res=wrap32 (pc+4)):=by rw[c.o,if_neg (by rw[g];simp[c1]),if_neg f_];exact rfl
     have j:=gg g;clear c g c1 f;go_in
     go_wp2_with (first|(go_at_call 124;refine(mF _ _).mono ?_;rintro e w' ⟨rfl,rfl⟩)|(go_at_call 153;refine(ID op a b _ _ m.o j.o).mono ?_;rintro e w' ⟨rfl,rfl⟩))
     go_ret;exact⟨gt (io (by rw[E.o];first|exact k.o|rfl)),zB⟩
   · have E:gi (res=wrap32 (pc+n)):=by rw[c.o,if_pos (.inr ⟨f.1,f.2,g⟩)];exact rfl
     have j:=gg g;clear c g c1 f;go_in
     go_wp2_with (first|(go_at_call 124;refine(mF _ _).mono ?_;rintro e w' ⟨rfl,rfl⟩)|(go_at_call 153;refine(ID op a b _ _ m.o j.o).mono ?_;rintro e w' ⟨rfl,rfl⟩))
     go_ret;exact⟨gt (io (by rw[E.o];first|exact p.o|rfl)),zB⟩
 have i:¬ (5≤op∧op≤10∧A_ op a b=true):=fun h=>f ⟨h.1,h.2.1⟩
 by_cases c3:op=4
 · subst c3
   have E:gi (res=bits .and .i64 (wrap32 (a+n)) (-2)):=by rw[c.o,if_neg gb,if_pos rfl];exact rfl
   clear c i c1 f;go_in
   go_wp2_with (go_at_call 124;refine(mF _ _).mono ?_;rintro e w' ⟨rfl,rfl⟩)
   go_ret;exact⟨gt (io (by rw[E.o,←s.o])),zB⟩
 · have E:gi (res=wrap32 (pc+4)):=by rw[c.o,if_neg (fun h=>h.elim c1 i),if_neg c3];exact rfl
   have t:(op == 4)=false:=by simp[c3]
   by_cases h5:5≤op
   · have o:decide (5≤op)=true:=decide_eq_true h5
     have u:decide (op≤10)=false:=by simp;omega
     clear c i c1 f c3;go_in
     go_wp2_with (go_at_call 124;refine(mF _ _).mono ?_;rintro e w' ⟨rfl,rfl⟩)
     go_ret;exact⟨gt (io (by rw[E.o];first|exact k.o|rfl)),zB⟩
   · have o:decide (5≤op)=false:=decide_eq_false h5
     clear c i c1 f c3;go_in
     go_wp2_with (go_at_call 124;refine(mF _ _).mono ?_;rintro e w' ⟨rfl,rfl⟩)
     go_ret;exact⟨gt (io (by rw[E.o];first|exact k.o|rfl)),zB⟩
def BQ (st le a:Int):Bool:=(bits .and .i64 st 8 != 0) && decide (le<a)
theorem wG h p w (a:h.r.length=32) :
 Calls gd 59 #[e_ (hA h),b_ c_ p] w fun e w'=>e =fH (fJ (BQ h.st h.le p))∧Up w w':=by
 have b:=(lT h a).2.1;have c:=(lT h a).2.2.2.2.2.2;generalize h.st=st at *
 generalize h.le=le at *
 generalize hA h=A at *
 have E:=gg (show BQ st le p=((bits .and .i64 st 8 != 0) && decide (le<p)) from rfl);cases h1:(bits .and .i64 st 8 != 0) <;> cases h2:decide (le<p)
 all_goals
  rw[h1,h2] at E;go_in
  go_wp2
  go_ret;exact⟨gt (iO E.o.symm),zB⟩
structure oW where
 k:Int
 d:Int
 ad:Int
 n:Int
 o:Int
def jj (e:oW):Value:=e_ #[b_ c_ e.k,b_ c_ e.d,b_ c_ e.ad,b_ c_ e.n,b_ c_ e.o]
def jG (x:ju) (a b:Int):oW:=
 if x.op=11 then ⟨1,x.d,wrap32 (a+x.n),0,0⟩ else if x.op=12 then ⟨2,0,wrap32 (a+x.n),b,0⟩ else if x.op=39 then ⟨6,0,0,0,0⟩ else if x.op=46 then ⟨3,x.d,a,0,0⟩
 else if x.op=47 then ⟨4,x.d,a,b,0⟩ else if x.op=48 then ⟨5,x.d,a,b,0⟩ else if x.op=49 then ⟨5,x.d,a,b,1⟩ else if x.op=43 then ⟨7,0,0,0,0⟩ else if x.op=45 then ⟨8,0,0,0,0⟩ else ⟨0,0,0,0,0⟩
def Dq (op:Int):Prop:=op=11∨op=12∨op=39∨op=46∨op=47∨op=43∨op=45
theorem Mm op d ra c n a b w (h:Dq op) :
 Calls gd 115 #[gK ⟨op,d,ra,c,n⟩,b_ c_ a,b_ c_ b] w fun e w'=>e =fH (jj (jG ⟨op,d,ra,c,n⟩ a b))∧Up w w':=by
 have g:=gg (yD (a+n));unfold gK;rcases h with rfl|rfl|rfl|rfl|rfl|rfl|rfl
 all_goals
  go_in
  go_wp2_with (go_at_call 124;refine(mF _ _).mono ?_;rintro e w' ⟨rfl,rfl⟩)
  refine bodyPost_ret (by simp[results,Tryz.results115,go_sem];try rfl) rfl ⟨?_,zB⟩;have f:=g.o;simp[jG,jj,f]
theorem vN x a b (h:¬ Dq x.op) (h1:x.op≠48) (h2:x.op≠49):jG x a b=⟨0,0,0,0,0⟩:=by
 simp only[Dq,not_or] at h;obtain⟨a1,a2,a3,a4,a5,d,c⟩:=h;simp[jG,a1,a2,a3,a4,a5,d,c,h1,h2]
theorem MU op d ra c n a b w (h:¬ Dq op) (h1:op≠48) (h2:op≠49) :
 Calls gd 115 #[gK ⟨op,d,ra,c,n⟩,b_ c_ a,b_ c_ b] w fun e w'=>e =fH (jj (jG ⟨op,d,ra,c,n⟩ a b))∧Up w w':=by
 rw[vN ⟨op,d,ra,c,n⟩ a b h h1 h2];simp only[Dq,not_or] at h;obtain⟨a1,a2,a3,a4,a5,g,f⟩:=h;have j:=fS a1;have r:=fS a2;have l:=fS a3;have p:=fS a4;have q:=fS a5;have i:=fS g;have m:=fS f;have o:=fS h1;have k:=fS h2;clear a1 a2 a3 a4 a5 g f h1 h2;unfold gK;go_in
 go_wp2_with (go_at_call 124;refine(mF _ _).mono ?_;rintro e w' ⟨rfl,rfl⟩)
 refine bodyPost_ret (by simp[results,Tryz.results115,go_sem];try rfl) rfl ⟨?_,zB⟩
 rfl
theorem Mn op d ra c n a b w (h:op=48∨op=49) :
 Calls gd 115 #[gK ⟨op,d,ra,c,n⟩,b_ c_ a,b_ c_ b] w fun e w'=>e =fH (jj (jG ⟨op,d,ra,c,n⟩ a b))∧Up w w':=by
 have r:∀ w:World,(Instr.index 223 (e_ rW) (b_ c_ op)).run gd w = .ok (b_ c_ (ul op)) w:=by
  intro w;rcases h with rfl|rfl <;> kernel_rfl
 have q:=gg (show ul op=if op=48 then 0 else 1 by rcases h with rfl|rfl <;> rfl);obtain⟨w0,l,g,k,C,A⟩:=lU w (d_ #[b_ c_ op,b_ c_ d,b_ c_ ra,b_ c_ c,b_ c_ n] 72) (d_ #[b_ c_ 0,b_ c_ 0,b_ c_ 0,b_ c_ 0,b_ c_ 0] 131);have y:=fun x=>gD f_ (gv g (j:=0) (u:=b_ c_ op) rfl) x
 have z:=fun x=>gD f_ (gv g (j:=1) (u:=b_ c_ d) rfl) x
 have s:=gg k;have p:=gg l;clear g k l;unfold gK;rcases h with rfl|rfl
 all_goals
  have i:=q.o;simp at i;rw[i] at r;clear i;go_in
  go_wp2_with (go_at_call 124;refine(mF _ _).mono ?_;rintro e w' ⟨rfl,rfl⟩)
  rw[←p.o];refine ov 9 ga ga ?_
  simp only[List.take_succ_cons,List.take_zero,List.drop_succ_cons,List.drop_zero];repeat(go_big_quiet_step ((go_at_call 159;exact oS (GZ _))))
  refine wpQuiet_nil ?_
  rintro o ⟨⟨B,t⟩,rfl⟩;have f:=iE t f_ s.o;have m:Up w o:=zB
  first
   | (refine wpList_store_row rfl 131 _ _ rfl (w.heap.size+1) #[b_ c_ 5,b_ c_ d,b_ c_ a,b_ c_ b,b_ c_ 0] rfl rfl 131 _ f ga rfl ga ?_;go_wp2_with fail;exact bodyPost_ret (v:=jj (jG ⟨48,d,ra,c,n⟩ a b)) (results_cell_row rfl _ _ (w.heap.size+1) 131 #[b_ c_ 5,b_ c_ d,b_ c_ a,b_ c_ b,b_ c_ 0] (0,0) _ rfl (setRow_heap _ _ _ _ _ _ f) Tryz.underlying131 rfl ga) rfl ⟨rfl,below_setRow m f_ _⟩)
   | (refine wpList_store_row rfl 131 _ _ rfl (w.heap.size+1) #[b_ c_ 5,b_ c_ d,b_ c_ a,b_ c_ b,b_ c_ 1] rfl rfl 131 _ f ga rfl ga ?_;go_wp2_with fail;exact bodyPost_ret (v:=jj (jG ⟨49,d,ra,c,n⟩ a b)) (results_cell_row rfl _ _ (w.heap.size+1) 131 #[b_ c_ 5,b_ c_ d,b_ c_ a,b_ c_ b,b_ c_ 1] (0,0) _ rfl (setRow_heap _ _ _ _ _ _ f) Tryz.underlying131 rfl ga) rfl ⟨rfl,below_setRow m f_ _⟩)
theorem Jx x a b (w) :
 Calls gd 115 #[gK x,b_ c_ a,b_ c_ b] w fun e w'=>e =fH (jj (jG x a b))∧Up w w':=by
 obtain⟨op,d,ra,c,n⟩:=x;by_cases h1:op=48∨op=49
 · exact Mn op d ra c n a b w h1
 by_cases h2:Dq op
 · exact Mm op d ra c n a b w h2
 · exact MU op d ra c n a b w h2 (fun h=>h1 (.inl h)) (fun h=>h1 (.inr h))
def vx (st:Int):Int:=bits .or .i64 (if (bits .and .i64 st 128 != 0)=true then bits .or .i64 st 8 else bits .andNot .i64 st 8) 128
def vo (h:Ht):Ht:={ h with pc:=h.ep,st:=vx h.st }
def Ep (st:Int):Int:=if (bits .and .i64 st 8 != 0)=true then 128 else 0
def sL (h:Ht) (c:Int):Ht:={ h with pc:=h.ve,st:=Ep h.st,ep:=h.pc,ca:=wrap32 c }
theorem Nb h w (a:h.r.length=32) :
 Calls gd 111 #[e_ (hA h)] w fun e w'=>e =fH (e_ (hA (vo h)))∧Up w w':=by
 obtain⟨q,t,_,_,s,_,_⟩:=lT h a;obtain⟨w0,y,b,j,B,F⟩:=lU w (d_ (hA h) 56) (d_ zA 56);have p:=gv b q;have n:=gv b t;have x:=gv b s;have C:=gC b 32;have z:=gC b 33;have o:=gg y;have A:gi (vo h = { h with pc:=h.ep,st:=bits .or .i64 (if (bits .and .i64 h.st 128 != 0)=true then bits .or .i64 h.st 8 else bits .andNot .i64 h.st 8) 128 }):=rfl
 have u:gi (∀ c g f:Int,(((w0.setCell ⟨w.heap.size,32,none⟩ (b_ c_ c)).setCell ⟨w.heap.size,33,none⟩ (b_ c_ g)).setCell ⟨w.heap.size,33,none⟩ (b_ c_ f)).heap[w.heap.size]? = some (d_ (hA { h with pc:=c,st:=f }) 56 (0,0))):=by
  intro c g f;have E:=mT b 32 (b_ c_ c) _ (Bb h a c);have D:=mT E 33 (b_ c_ g) _ (nN { h with pc:=c } a g);exact mT D 33 (b_ c_ f) _ (nN { h with pc:=c,st:=g } a f)
 clear b q t s y;cases i:(bits .and .i64 h.st 128 != 0)
 · have m:gi (vo h = { h with pc:=h.ep,st:=bits .or .i64 (bits .andNot .i64 h.st 8) 128 }):=by rw[A.o,i];exact rfl
   have k:=gg (u.o h.ep (bits .andNot .i64 h.st 8) (bits .or .i64 (bits .andNot .i64 h.st 8) 128));have d:gi ((((w0.setCell ⟨w.heap.size,32,none⟩ (b_ c_ h.ep)).setCell ⟨w.heap.size,33,none⟩ (b_ c_ (bits .andNot .i64 h.st 8))).setCell ⟨w.heap.size,33,none⟩ (b_ c_ (bits .or .i64 (bits .andNot .i64 h.st 8) 128))).heap[w.heap.size+1]? = some (d_ zA 56 (0,0))):=jL f_ (jL f_ (jL f_ j));have l:gi (Up w (((w0.setCell ⟨w.heap.size,32,none⟩ (b_ c_ h.ep)).setCell ⟨w.heap.size,33,none⟩ (b_ c_ (bits .andNot .i64 h.st 8))).setCell ⟨w.heap.size,33,none⟩ (b_ c_ (bits .or .i64 (bits .andNot .i64 h.st 8) 128)))):=gO (gO (gO B fL _) fL _) fL _;clear j;go_in;go_upto_region 1 with(fail)
   change Code.wp _ _ _ _ ((w.alloc (d_ (hA h) 56)).alloc (d_ zA 56));rw[←o.o];go_upto_region 6 with(fail)
   clear p n x C z i
   go_wp2_with (first|(refine wpList_load_row rfl 56 _ rfl (w.heap.size) rfl 56 (hA ({ h with pc:=h.ep,st:=bits .or .i64 (bits .andNot .i64 h.st 8) 128 })) (0,0) _ k.o Tryz.underlying56 rfl (ii (gV ({ h with pc:=h.ep,st:=bits .or .i64 (bits .andNot .i64 h.st 8) 128 }) a)) ?_)|(refine wpList_store_row rfl 56 _ _ rfl (w.heap.size+1) (hA ({ h with pc:=h.ep,st:=bits .or .i64 (bits .andNot .i64 h.st 8) 128 })) rfl rfl 56 zA d.o (ii (gV ({ h with pc:=h.ep,st:=bits .or .i64 (bits .andNot .i64 h.st 8) 128 }) a)) (by rw[gV ({ h with pc:=h.ep,st:=bits .or .i64 (bits .andNot .i64 h.st 8) 128 }) a];rfl) (jU ({ h with pc:=h.ep,st:=bits .or .i64 (bits .andNot .i64 h.st 8) 128 })) ?_))
   exact bodyPost_ret (v:=e_ (hA ({ h with pc:=h.ep,st:=bits .or .i64 (bits .andNot .i64 h.st 8) 128 }))) (results_cell_row rfl _ _ (w.heap.size+1) 56 (hA ({ h with pc:=h.ep,st:=bits .or .i64 (bits .andNot .i64 h.st 8) 128 })) (0,0) _ rfl (setRow_heap _ _ _ _ _ _ d.o) Tryz.underlying56 rfl (ii (gV ({ h with pc:=h.ep,st:=bits .or .i64 (bits .andNot .i64 h.st 8) 128 }) a))) rfl ⟨by rw[m.o],below_setRow l.o f_ _⟩
 · have m:gi (vo h = { h with pc:=h.ep,st:=bits .or .i64 (bits .or .i64 h.st 8) 128 }):=by rw[A.o,i];exact rfl
   have k:=gg (u.o h.ep (bits .or .i64 h.st 8) (bits .or .i64 (bits .or .i64 h.st 8) 128));have d:gi ((((w0.setCell ⟨w.heap.size,32,none⟩ (b_ c_ h.ep)).setCell ⟨w.heap.size,33,none⟩ (b_ c_ (bits .or .i64 h.st 8))).setCell ⟨w.heap.size,33,none⟩ (b_ c_ (bits .or .i64 (bits .or .i64 h.st 8) 128))).heap[w.heap.size+1]? = some (d_ zA 56 (0,0))):=jL f_ (jL f_ (jL f_ j));have l:gi (Up w (((w0.setCell ⟨w.heap.size,32,none⟩ (b_ c_ h.ep)).setCell ⟨w.heap.size,33,none⟩ (b_ c_ (bits .or .i64 h.st 8))).setCell ⟨w.heap.size,33,none⟩ (b_ c_ (bits .or .i64 (bits .or .i64 h.st 8) 128)))):=gO (gO (gO B fL _) fL _) fL _;clear j;go_in;go_upto_region 1 with(fail)
   change Code.wp _ _ _ _ ((w.alloc (d_ (hA h) 56)).alloc (d_ zA 56));rw[←o.o];go_upto_region 6 with(fail)
   clear p n x C z i
   go_wp2_with (first|(refine wpList_load_row rfl 56 _ rfl (w.heap.size) rfl 56 (hA ({ h with pc:=h.ep,st:=bits .or .i64 (bits .or .i64 h.st 8) 128 })) (0,0) _ k.o Tryz.underlying56 rfl (ii (gV ({ h with pc:=h.ep,st:=bits .or .i64 (bits .or .i64 h.st 8) 128 }) a)) ?_)|(refine wpList_store_row rfl 56 _ _ rfl (w.heap.size+1) (hA ({ h with pc:=h.ep,st:=bits .or .i64 (bits .or .i64 h.st 8) 128 })) rfl rfl 56 zA d.o (ii (gV ({ h with pc:=h.ep,st:=bits .or .i64 (bits .or .i64 h.st 8) 128 }) a)) (by rw[gV ({ h with pc:=h.ep,st:=bits .or .i64 (bits .or .i64 h.st 8) 128 }) a];rfl) (jU ({ h with pc:=h.ep,st:=bits .or .i64 (bits .or .i64 h.st 8) 128 })) ?_))
   exact bodyPost_ret (v:=e_ (hA ({ h with pc:=h.ep,st:=bits .or .i64 (bits .or .i64 h.st 8) 128 }))) (results_cell_row rfl _ _ (w.heap.size+1) 56 (hA ({ h with pc:=h.ep,st:=bits .or .i64 (bits .or .i64 h.st 8) 128 })) (0,0) _ rfl (setRow_heap _ _ _ _ _ _ d.o) Tryz.underlying56 rfl (ii (gV ({ h with pc:=h.ep,st:=bits .or .i64 (bits .or .i64 h.st 8) 128 }) a))) rfl ⟨by rw[m.o],below_setRow l.o f_ _⟩
theorem LY h c w (a:h.r.length=32) :
 Calls gd 79 #[e_ (hA h),b_ c_ c] w fun e w'=>e =fH (e_ (hA (sL h c)))∧Up w w':=by
 obtain⟨t,E,A,_,u,H,_⟩:=lT h a;obtain⟨w0,x,b,l,z,N⟩:=lU w (d_ (hA h) 56) (d_ zA 56);have s:=gv b t;have D:=gv b E;have p:=gv b A;have G:=gv b u;have C:=gv b H;have B:=gC b 32;have I:=gC b 33;have y:=gC b 36;have J:=gC b 37;have q:=gg x
 have F:gi (∀ d f g j:Int,((((w0.setCell ⟨w.heap.size,36,none⟩ (b_ c_ d)).setCell ⟨w.heap.size,37,none⟩ (b_ c_ f)).setCell ⟨w.heap.size,32,none⟩ (b_ c_ g)).setCell ⟨w.heap.size,33,none⟩ (b_ c_ j)).heap[w.heap.size]? = some (d_ (hA { h with pc:=g,st:=j,ep:=d,ca:=f }) 56 (0,0))):=by
  intro d f g j;have M:=mT b 36 (b_ c_ d) _ (sW h a d);have K:=mT M 37 (b_ c_ f) _ (sV { h with ep:=d } a f);have L:=mT K 32 (b_ c_ g) _ (Bb { h with ep:=d,ca:=f } a g);exact mT L 33 (b_ c_ j) _ (nN { h with ep:=d,ca:=f,pc:=g } a j)
 clear b t E A u H x;cases k:(bits .and .i64 h.st 8 != 0)
 · have n:gi (sL h c = { h with pc:=h.ve,st:=0,ep:=h.pc,ca:=wrap32 c }):=by unfold sL Ep;rw[k];exact rfl
   have o:gi ((((((w0.setCell ⟨w.heap.size,36,none⟩ (b_ c_ h.pc)).setCell ⟨w.heap.size,37,none⟩ (b_ c_ (wrap32 c))).setCell ⟨w.heap.size,32,none⟩ (b_ c_ h.ve)).setCell ⟨w.heap.size,33,none⟩ (b_ c_ 0)).drew).heap[w.heap.size]? = some (d_ (hA ({ h with pc:=h.ve,st:=0,ep:=h.pc,ca:=wrap32 c })) 56 (0,0))):=F.o h.pc (wrap32 c) h.ve 0;have i:gi ((((((w0.setCell ⟨w.heap.size,36,none⟩ (b_ c_ h.pc)).setCell ⟨w.heap.size,37,none⟩ (b_ c_ (wrap32 c))).setCell ⟨w.heap.size,32,none⟩ (b_ c_ h.ve)).setCell ⟨w.heap.size,33,none⟩ (b_ c_ 0)).drew).heap[w.heap.size+1]? = some (d_ zA 56 (0,0))):=jL f_ (jL f_ (jL f_ (jL f_ l)));have m:gi (Up w (((((w0.setCell ⟨w.heap.size,36,none⟩ (b_ c_ h.pc)).setCell ⟨w.heap.size,37,none⟩ (b_ c_ (wrap32 c))).setCell ⟨w.heap.size,32,none⟩ (b_ c_ h.ve)).setCell ⟨w.heap.size,33,none⟩ (b_ c_ 0)).drew)):=iR (gO (gO (gO (gO z fL _) fL _) fL _) fL _);clear l;go_in;go_upto_region 1 with(fail)
   change Code.wp _ _ _ _ ((w.alloc (d_ (hA h) 56)).alloc (d_ zA 56));rw[←q.o];go_upto_region 4 with(fail)
   go_region_with (go_at_call 124;refine(mF _ _).mono ?_;rintro e w' ⟨rfl,rfl⟩)
   all_goals
    clear s D p G C B I y J k
    go_wp2_with (first|(refine wpList_load_row rfl 56 _ rfl (w.heap.size) rfl 56 (hA ({ h with pc:=h.ve,st:=0,ep:=h.pc,ca:=wrap32 c })) (0,0) _ o.o Tryz.underlying56 rfl (ii (gV ({ h with pc:=h.ve,st:=0,ep:=h.pc,ca:=wrap32 c }) a)) ?_)|(refine wpList_store_row rfl 56 _ _ rfl (w.heap.size+1) (hA ({ h with pc:=h.ve,st:=0,ep:=h.pc,ca:=wrap32 c })) rfl rfl 56 zA i.o (ii (gV ({ h with pc:=h.ve,st:=0,ep:=h.pc,ca:=wrap32 c }) a)) (by rw[gV ({ h with pc:=h.ve,st:=0,ep:=h.pc,ca:=wrap32 c }) a];rfl) (jU ({ h with pc:=h.ve,st:=0,ep:=h.pc,ca:=wrap32 c })) ?_))
    exact bodyPost_ret (v:=e_ (hA ({ h with pc:=h.ve,st:=0,ep:=h.pc,ca:=wrap32 c }))) (results_cell_row rfl _ _ (w.heap.size+1) 56 (hA ({ h with pc:=h.ve,st:=0,ep:=h.pc,ca:=wrap32 c })) (0,0) _ rfl (setRow_heap _ _ _ _ _ _ i.o) Tryz.underlying56 rfl (ii (gV ({ h with pc:=h.ve,st:=0,ep:=h.pc,ca:=wrap32 c }) a))) rfl ⟨by rw[n.o],below_setRow m.o f_ _⟩
 · have n:gi (sL h c = { h with pc:=h.ve,st:=128,ep:=h.pc,ca:=wrap32 c }):=by unfold sL Ep;rw[k];exact rfl
   have o:gi ((((((w0.setCell ⟨w.heap.size,36,none⟩ (b_ c_ h.pc)).setCell ⟨w.heap.size,37,none⟩ (b_ c_ (wrap32 c))).setCell ⟨w.heap.size,32,none⟩ (b_ c_ h.ve)).setCell ⟨w.heap.size,33,none⟩ (b_ c_ 128)).drew).heap[w.heap.size]? = some (d_ (hA ({ h with pc:=h.ve,st:=128,ep:=h.pc,ca:=wrap32 c })) 56 (0,0))):=F.o h.pc (wrap32 c) h.ve 128;have i:gi ((((((w0.setCell ⟨w.heap.size,36,none⟩ (b_ c_ h.pc)).setCell ⟨w.heap.size,37,none⟩ (b_ c_ (wrap32 c))).setCell ⟨w.heap.size,32,none⟩ (b_ c_ h.ve)).setCell ⟨w.heap.size,33,none⟩ (b_ c_ 128)).drew).heap[w.heap.size+1]? = some (d_ zA 56 (0,0))):=jL f_ (jL f_ (jL f_ (jL f_ l)));have m:gi (Up w (((((w0.setCell ⟨w.heap.size,36,none⟩ (b_ c_ h.pc)).setCell ⟨w.heap.size,37,none⟩ (b_ c_ (wrap32 c))).setCell ⟨w.heap.size,32,none⟩ (b_ c_ h.ve)).setCell ⟨w.heap.size,33,none⟩ (b_ c_ 128)).drew)):=iR (gO (gO (gO (gO z fL _) fL _) fL _) fL _);clear l;go_in;go_upto_region 1 with(fail)
   change Code.wp _ _ _ _ ((w.alloc (d_ (hA h) 56)).alloc (d_ zA 56));rw[←q.o];go_upto_region 4 with(fail)
   go_region_with (go_at_call 124;refine(mF _ _).mono ?_;rintro e w' ⟨rfl,rfl⟩)
   all_goals
    clear s D p G C B I y J k
    go_wp2_with (first|(refine wpList_load_row rfl 56 _ rfl (w.heap.size) rfl 56 (hA ({ h with pc:=h.ve,st:=128,ep:=h.pc,ca:=wrap32 c })) (0,0) _ o.o Tryz.underlying56 rfl (ii (gV ({ h with pc:=h.ve,st:=128,ep:=h.pc,ca:=wrap32 c }) a)) ?_)|(refine wpList_store_row rfl 56 _ _ rfl (w.heap.size+1) (hA ({ h with pc:=h.ve,st:=128,ep:=h.pc,ca:=wrap32 c })) rfl rfl 56 zA i.o (ii (gV ({ h with pc:=h.ve,st:=128,ep:=h.pc,ca:=wrap32 c }) a)) (by rw[gV ({ h with pc:=h.ve,st:=128,ep:=h.pc,ca:=wrap32 c }) a];rfl) (jU ({ h with pc:=h.ve,st:=128,ep:=h.pc,ca:=wrap32 c })) ?_))
    exact bodyPost_ret (v:=e_ (hA ({ h with pc:=h.ve,st:=128,ep:=h.pc,ca:=wrap32 c }))) (results_cell_row rfl _ _ (w.heap.size+1) 56 (hA ({ h with pc:=h.ve,st:=128,ep:=h.pc,ca:=wrap32 c })) (0,0) _ rfl (setRow_heap _ _ _ _ _ _ i.o) Tryz.underlying56 rfl (ii (gV ({ h with pc:=h.ve,st:=128,ep:=h.pc,ca:=wrap32 c }) a))) rfl ⟨by rw[n.o],below_setRow m.o f_ _⟩
theorem yI {P:Program} {fn:Func} {p q} {ty b:TypeId} (h:fn.results = #[.cell p ty,.cell q b]) (tmps:Array Value) (w:World) g a t e (cs cs':Array Value) (fr f:Nat×Nat) (d c:TypeDesc)
 (o:tmps.getD p undef = fG (some ⟨g,0,none⟩)) (l:tmps.getD q undef = fG (some ⟨a,0,none⟩)) (i:w.heap[g]? = some (d_ cs t fr)) (j:w.heap[a]? = some (d_ cs' e f))
 (u:P.underlying ty=some d) (k:(match d with|.struct _|.array _ _=>true|_=>false)=true) (v:(P.info? ty).map (·.size)=some cs.size)
 (x:P.underlying b=some c) (m:(match c with|.struct _|.array _ _=>true|_=>false)=true) (r:(P.info? b).map (·.size)=some cs'.size) :
 (results fn tmps).run P w = .ok (fI #[e_ cs,e_ cs']) w:=by
 have n:tmps[p]?.getD undef = fG (some ⟨g,0,none⟩):=by simpa using o
 have s:tmps[q]?.getD undef = fG (some ⟨a,0,none⟩):=by simpa using l
 simp[results,h,n,s,asAddr,run_loadVar_row w g t ty cs fr d i u k v,run_loadVar_row w a e b cs' f c j x m r]
def vm (a:Int) (off:Nat) (b:Int):Prop:=a=768∧off=33∧b=136∨a=773∧off=34∧b = -4∨a=832∧off=35∧b = -1∨a=833∧off=36∧b = -4∨a=834∧off=37∧b = -1∨a=1984∧off=38∧b = -1
theorem Kw b a off c w (h:vm a off c) :
 Calls gd 154 #[fG (some ⟨b,0,none⟩),b_ c_ a] w fun e w'=>e =fH (fI #[fG (some ⟨b,off,none⟩),b_ c_ c])∧w=w':=by
 rcases h with⟨rfl,rfl,rfl⟩|⟨rfl,rfl,rfl⟩|⟨rfl,rfl,rfl⟩|⟨rfl,rfl,rfl⟩|⟨rfl,rfl,rfl⟩|⟨rfl,rfl,rfl⟩
 all_goals
  go_in
  go_wp2_with fail
  go_ret2
  exact⟨rfl,rfl⟩
def qn (a:Int):Prop:=a≠768∧a≠773∧a≠832∧a≠833∧a≠834∧a≠1984
theorem Hi b a w (h:qn a) :
 Calls gd 154 #[fG (some ⟨b,0,none⟩),b_ c_ a] w fun e w'=>e =fH (fI #[fG none,b_ c_ 0])∧w=w':=by
 obtain⟨a1,a2,a3,a4,a5,c⟩:=h;have g:=fS a1;have k:=fS a2;have j:=fS a3;have d:=fS a4;have i:=fS a5;have f:=fS c;clear a1 a2 a3 a4 a5 c;go_in
 go_wp2_with fail
 go_ret2
 exact⟨rfl,rfl⟩
def o5 (h:Ht) (off:Nat):Int:=if off=33 then h.st else if off=34 then h.ve else if off=35 then h.sc else if off=36 then h.ep else if off=37 then h.ca else h.le
def nY (h:Ht) (off:Nat) (v:Int):Ht:=if off=33 then { h with st:=v } else if off=34 then { h with ve:=v } else if off=35 then { h with sc:=v } else if off=36 then { h with ep:=v } else if off=37 then { h with ca:=v } else { h with le:=v }
theorem zJ h (c:h.r.length=32) f off g (a:vm f off g):(hA h)[off]? = some (b_ c_ (o5 h off)):=by
 obtain⟨l,j,e,i,b,d,k⟩:=lT h c;rcases a with⟨rfl,rfl,rfl⟩|⟨rfl,rfl,rfl⟩|⟨rfl,rfl,rfl⟩|⟨rfl,rfl,rfl⟩|⟨rfl,rfl,rfl⟩|⟨rfl,rfl,rfl⟩
 · exact j
 · exact e
 · exact i
 · exact b
 · exact d
 · exact k
theorem AG h (a:h.r.length=32) d off c (b:vm d off c) (v):(hA h).setIfInBounds off (b_ c_ v)=hA (nY h off v):=by
 rcases b with⟨rfl,rfl,rfl⟩|⟨rfl,rfl,rfl⟩|⟨rfl,rfl,rfl⟩|⟨rfl,rfl,rfl⟩|⟨rfl,rfl,rfl⟩|⟨rfl,rfl,rfl⟩
 · exact nN h a v
 · exact Bj h a v
 · exact Bi h a v
 · exact sW h a v
 · exact sV h a v
 · exact Bh h a v
theorem F4 {h} (a:h.r.length=32) off (v):(nY h off v).r.length=32:=by
 unfold nY;repeat' split
 all_goals exact a
theorem vf w (a b c d):∃ w0:World,w0=(((w.alloc a).alloc b).alloc c).alloc d∧w0.heap[w.heap.size]? = some a∧w0.heap[w.heap.size+1]? = some b∧w0.heap[w.heap.size+2]? = some c∧w0.heap[w.heap.size+3]? = some d∧Up w w0∧w.heap.size+4≤w0.heap.size:=by
 refine⟨_,rfl,?_,?_,?_,?_,iS (iS (iS (iS fK _) _) _) _,by simp⟩
 · exact iE (B:=(w.alloc a).heap.size) (iS (iS (iS fK _) _) _) gb (gH w a)
 · exact iE (B:=((w.alloc a).alloc b).heap.size) (iS (iS fK _) _) gb (sG _ _ _ gb)
 · exact iE (B:=(((w.alloc a).alloc b).alloc c).heap.size) (iS fK _) gb (sG _ _ _ gb)
 · exact sG _ _ _ gb
def gL:Array Value:=#[b_ c_ 0,b_ c_ 0,b_ c_ 0,b_ c_ 0,b_ c_ 0]
def tT (h:Ht) (x:ju):Int:=h.r.getD x.a.toNat 0
def ly (h:Ht) (x:ju) (off:Nat) (a:Int):Ht:=
 gR { nY h off (bits .and .i64 (tC x.op (o5 h off) (tT h x)) a) with pc:=wrap32 (h.pc+4) } x.d (o5 h off)
def vE (h:Ht) (id:Int) (x:ju):Ht:=gR { h with pc:=wrap32 (h.pc+4) } x.d (wrap32 id)
theorem C7 h id x off c w (l:h.r.length=32) (ha:0≤x.a∧x.a<32) (i:vm x.n off c) :
 Calls gd 112 #[e_ (hA h),b_ c_ id,gK x] w fun e w'=>e =fH (fI #[e_ (hA (ly h x off c)),jj ⟨0,0,0,0,0⟩])∧Up w w':=by
 obtain⟨op,d,a,b,n⟩:=x;simp only at ha i;obtain⟨k,rfl,hk⟩:∃ k:Nat,a=k∧k<32:=⟨a.toNat,by omega,by omega⟩;have al:¬ off=32:=by unfold vm at i;omega
 have ai:¬ 32=off:=by omega
 have ah:off<39:=by unfold vm at i;omega
 obtain⟨w0,G,f,m,L,y,H,D⟩:=vf w (d_ (hA h) 56) (d_ #[b_ c_ op,b_ c_ d,b_ c_ k,b_ c_ b,b_ c_ n] 72) (d_ zA 56) (d_ gL 131);have B:=(lT h l).1;have X:=gv f (l9 h l k hk);have aa:=gv f B;have ad:=gC f 32;have cf:=gv f (zJ h l n off c i);have Y:=gC f off;have Z:=gv m (j:=0) (u:=b_ c_ op) rfl;have J:=gv m (j:=1) (u:=b_ c_ d) rfl;have i2:=gv m (j:=2) (u:=b_ c_ k) rfl;have i4:=gv m (j:=4) (u:=b_ c_ n) rfl;have I:=gg i;have E:gi (ly h ⟨op,d,k,b,n⟩ off c=gR { nY h off (bits .and .i64 (tC op (o5 h off) (h.r.getD k 0)) c) with pc:=wrap32 (h.pc+4) } d (o5 h off)):=rfl
 have O:gi (∀ v p:Int,((w0.setCell ⟨w.heap.size,off,none⟩ (b_ c_ v)).setCell ⟨w.heap.size,32,none⟩ (b_ c_ p)).heap[w.heap.size]? = some (d_ (hA { nY h off v with pc:=p }) 56 (0,0))):=by
  intro v p;have s1:=mT f off (b_ c_ v) _ (AG h l n off c i v);exact mT s1 32 (b_ c_ p) _ (Bb (nY h off v) (F4 l off v) p)
 have Q:=gg (fun v=>F4 l off v);have N:=gg (yD (h.pc+4));have z:=gg G;have S:=gg L;have M:=gg y;rw[E.o];clear f m L y G B i E;generalize h.r.getD k 0=rn at *
 generalize o5 h off=old at *
 unfold gK;go_in;go_upto_region 1 with(fail)
 change Code.wp _ _ _ _ ((((w.alloc (d_ (hA h) 56)).alloc (d_ #[b_ c_ op,b_ c_ d,b_ c_ k,b_ c_ b,b_ c_ n] 72)).alloc (d_ zA 56)).alloc (d_ gL 131));rw[←z.o];go_upto_region 10 with(first|(go_at_call 124;refine(mF _ _).mono ?_;rintro e w' ⟨rfl,rfl⟩)|(go_at_call 154;refine(Kw _ n off c _ I.o).mono ?_;rintro e w' ⟨rfl,rfl⟩)|(go_at_call 155;refine(Ky _ _ _ _).mono ?_;rintro e w' ⟨rfl,rfl⟩))
 rw[N.o];have s:=O.o (bits .and .i64 (tC op old rn) c) (wrap32 (h.pc+4));have P:({ nY h off (bits .and .i64 (tC op old rn) c) with pc:=wrap32 (h.pc+4) }:Ht).r.length=32:=Q.o _;obtain⟨w1,g⟩:∃ w1:World,w1=(w0.setCell ⟨w.heap.size,off,none⟩ (b_ c_ (bits .and .i64 (tC op old rn) c))).setCell ⟨w.heap.size,32,none⟩ (b_ c_ (wrap32 (h.pc+4))):=⟨_,rfl⟩;have T:w1.heap[w.heap.size+2]? = some (d_ zA 56 (0,0)):=by rw[g];exact jL f_ (jL f_ S.o)
 have R:w1.heap[w.heap.size+3]? = some (d_ gL 131 (0,0)):=by rw[g];exact jL f_ (jL f_ M.o)
 have j1:w1.cell? ⟨w.heap.size+1,1,none⟩=some (b_ c_ d):=by rw[g,Bq f_,Bq f_];exact J
 have ak:Up w w1:=by rw[g];exact gO (gO H fL _) fL _
 have aj:w.heap.size+4≤w1.heap.size:=by rw[g,kj,kj];exact D
 rw[←g] at s ⊢
 have af:=gg s;have ac:=gg T;have ae:=gg R;have o:=gg P;clear g s T R P O S M Q z N Z J i2 i4 aa ad cf Y X H D I;generalize A:({ nY h off (bits .and .i64 (tC op old rn) c) with pc:=wrap32 (h.pc+4) }:Ht)=h2 at *
 have ab:=gg A;clear A
 go_wp2_with (refine wpList_load_row rfl 56 _ rfl (w.heap.size) rfl 56 (hA h2) (0,0) _ af.o Tryz.underlying56 rfl (ii (gV h2 o.o)) ?_)
 refine(CM h2 d old _ o.o).mono ?_
 rintro e w5 ⟨rfl,t⟩;have F:=iE t f_ ac.o;have K:=iE t f_ ae.o;have C:=mo o.o d old;have U:=gg F;have V:=gg (iL f_ K:(w5.setRow (w.heap.size+2) (hA (gR h2 d old))).heap[w.heap.size+3]? = _);have q:=gg C;clear F K C j1;generalize W:gR h2 d old=h5 at *
 have ag:=gg W;clear W
 go_wp2_with (first|(refine wpList_store_row rfl 56 _ _ rfl (w.heap.size+2) (hA h5) rfl rfl 56 zA U.o (ii (gV h5 q.o)) (by rw[gV h5 q.o];rfl) (jU h5) ?_)|(refine wpList_store_row rfl 131 _ _ rfl (w.heap.size+3) gL rfl rfl 131 gL V.o ga rfl ga ?_))
 exact bodyPost_ret (v:=fI #[e_ (hA h5),e_ gL]) (yI rfl _ _ (w.heap.size+2) (w.heap.size+3) 56 131 (hA h5) gL (0,0) (0,0) _ _ rfl rfl (iL f_ (setRow_heap _ _ _ _ _ _ U.o)) (setRow_heap _ _ _ _ _ _ V.o) Tryz.underlying56 rfl (ii (gV h5 q.o)) Tryz.underlying131 rfl ga) rfl ⟨by rw[ab.o,ag.o];rfl,below_setRow (below_setRow zB f_ _) f_ _⟩
theorem Kv h id x w (i:h.r.length=32) (Z:0≤x.a∧x.a<32) (N:x.n=3860) :
 Calls gd 112 #[e_ (hA h),b_ c_ id,gK x] w fun e w'=>e =fH (fI #[e_ (hA (vE h id x)),jj ⟨0,0,0,0,0⟩])∧Up w w':=by
 obtain⟨op,d,a,b,n⟩:=x;simp only at Z N;obtain⟨k,rfl,hk⟩:∃ k:Nat,a=k∧k<32:=⟨a.toNat,by omega,by omega⟩;obtain⟨w0,D,f,g,J,q,E,A⟩:=vf w (d_ (hA h) 56) (d_ #[b_ c_ op,b_ c_ d,b_ c_ k,b_ c_ b,b_ c_ n] 72) (d_ zA 56) (d_ gL 131);have y:=(lT h i).1;have V:=gv f (l9 h i k hk);have X:=gv f y;have ac:=gC f 32;have W:=gv g (j:=0) (u:=b_ c_ op) rfl;have H:=gv g (j:=1) (u:=b_ c_ d) rfl;have i2:=gv g (j:=2) (u:=b_ c_ k) rfl;have Y:=gv g (j:=4) (u:=b_ c_ n) rfl;have L:=gg (yD (h.pc+4));have s:=gg D;have P:=gg J;have K:=gg q;have G:=gg f;clear f g J q D y;subst N;have B:gi (vE h id ⟨op,d,k,b,3860⟩=gR { h with pc:=wrap32 (h.pc+4) } d (wrap32 id)):=rfl;rw[B.o];clear B;have Q:qn 3860:=by unfold qn;omega
 have F:=gg Q;clear Q;unfold gK;go_in;go_upto_region 1 with(fail)
 change Code.wp _ _ _ _ ((((w.alloc (d_ (hA h) 56)).alloc (d_ #[b_ c_ op,b_ c_ d,b_ c_ k,b_ c_ b,b_ c_ 3860] 72)).alloc (d_ zA 56)).alloc (d_ gL 131));rw[←s.o];go_upto_region 10 with(first|(go_at_call 124;refine(mF _ _).mono ?_;rintro e w' ⟨rfl,rfl⟩)|(go_at_call 154;refine(Hi _ 3860 _ F.o).mono ?_;rintro e w' ⟨rfl,rfl⟩))
 rw[L.o];have o:=mT G.o 32 (b_ c_ (wrap32 (h.pc+4))) _ (Bb h i (wrap32 (h.pc+4)));have M:({ h with pc:=wrap32 (h.pc+4) }:Ht).r.length=32:=i;obtain⟨w1,c⟩:∃ w1:World,w1=w0.setCell ⟨w.heap.size,32,none⟩ (b_ c_ (wrap32 (h.pc+4))):=⟨_,rfl⟩;have R:w1.heap[w.heap.size+2]? = some (d_ zA 56 (0,0)):=by rw[c];exact jL f_ P.o
 have O:w1.heap[w.heap.size+3]? = some (d_ gL 131 (0,0)):=by rw[c];exact jL f_ K.o
 have j1:w1.cell? ⟨w.heap.size+1,1,none⟩=some (b_ c_ d):=by rw[c,Bq f_];exact H
 have ah:Up w w1:=by rw[c];exact gO E fL _
 have ag:w.heap.size+4≤w1.heap.size:=by rw[c,kj];exact A
 rw[←c] at o ⊢
 have ae:=gg o;have ab:=gg R;have ad:=gg O;have l:=gg M;clear c o R O M G P K s L W H i2 Y X ac V E A F;generalize t:({ h with pc:=wrap32 (h.pc+4) }:Ht)=h2 at *
 have aa:=gg t;clear t
 go_wp2_with (refine wpList_load_row rfl 56 _ rfl (w.heap.size) rfl 56 (hA h2) (0,0) _ ae.o Tryz.underlying56 rfl (ii (gV h2 l.o)) ?_)
 refine(CM h2 d (wrap32 id) _ l.o).mono ?_
 rintro e w5 ⟨rfl,p⟩;have C:=iE p f_ ab.o;have I:=iE p f_ ad.o;have z:=mo l.o d (wrap32 id);have S:=gg C;have T:=gg (iL f_ I:(w5.setRow (w.heap.size+2) (hA (gR h2 d (wrap32 id)))).heap[w.heap.size+3]? = _);have m:=gg z;clear C I z j1;generalize U:gR h2 d (wrap32 id)=h5 at *
 have af:=gg U;clear U
 go_wp2_with (first|(refine wpList_store_row rfl 56 _ _ rfl (w.heap.size+2) (hA h5) rfl rfl 56 zA S.o (ii (gV h5 m.o)) (by rw[gV h5 m.o];rfl) (jU h5) ?_)|(refine wpList_store_row rfl 131 _ _ rfl (w.heap.size+3) gL rfl rfl 131 gL T.o ga rfl ga ?_))
 exact bodyPost_ret (v:=fI #[e_ (hA h5),e_ gL]) (yI rfl _ _ (w.heap.size+2) (w.heap.size+3) 56 131 (hA h5) gL (0,0) (0,0) _ _ rfl rfl (iL f_ (setRow_heap _ _ _ _ _ _ S.o)) (setRow_heap _ _ _ _ _ _ T.o) Tryz.underlying56 rfl (ii (gV h5 m.o)) Tryz.underlying131 rfl ga) rfl ⟨by rw[aa.o,af.o];rfl,below_setRow (below_setRow zB f_ _) f_ _⟩
theorem Kb h id x w (c:h.r.length=32) (z:0≤x.a∧x.a<32) (i:qn x.n∧x.n≠3860) :
 Calls gd 112 #[e_ (hA h),b_ c_ id,gK x] w fun e w'=>e =fH (fI #[e_ (hA h),jj ⟨9,0,0,0,0⟩])∧Up w w':=by
 obtain⟨op,d,a,b,n⟩:=x;simp only at z i;obtain⟨k,rfl,A⟩:∃ k:Nat,a=k∧k<32:=⟨a.toNat,by omega,by omega⟩;obtain⟨w0,o,f,g,p,l,B,I⟩:=vf w (d_ (hA h) 56) (d_ #[b_ c_ op,b_ c_ d,b_ c_ k,b_ c_ b,b_ c_ n] 72) (d_ zA 56) (d_ gL 131);have m:=(lT h c).1;have E:=gv f (l9 h c k A);have G:=gv f m;have K:=gC f 32;have F:=gv g (j:=0) (u:=b_ c_ op) rfl;have L:=gv g (j:=1) (u:=b_ c_ d) rfl;have J:=gv g (j:=2) (u:=b_ c_ k) rfl;have H:=gv g (j:=4) (u:=b_ c_ n) rfl;have M:=gg (yD (h.pc+4));have y:=gg o;have t:=gg p;have s:=gg l;have D:=gg f;clear f g p l o m;have q:=bne_iff_ne.2 i.2;have C:=gg i.1;clear i;unfold gK;go_in;go_upto_region 1 with(fail)
 change Code.wp _ _ _ _ ((((w.alloc (d_ (hA h) 56)).alloc (d_ #[b_ c_ op,b_ c_ d,b_ c_ k,b_ c_ b,b_ c_ n] 72)).alloc (d_ zA 56)).alloc (d_ gL 131));rw[←y.o]
 go_wp2_with (first|(go_at_call 124;refine(mF _ _).mono ?_;rintro e w' ⟨rfl,rfl⟩)|(go_at_call 154;refine(Hi _ n _ C.o).mono ?_;rintro e w' ⟨rfl,rfl⟩)|(refine wpList_load_row rfl 56 _ rfl (w.heap.size) rfl 56 (hA h) (0,0) _ D.o Tryz.underlying56 rfl (ii (gV h c)) ?_)|(refine wpList_store_row rfl 56 _ _ rfl (w.heap.size+2) (hA h) rfl rfl 56 zA t.o (ii (gV h c)) (by rw[gV h c];rfl) (jU h) ?_)|(refine wpList_store_row rfl 131 _ _ rfl (w.heap.size+3) #[b_ c_ 9,b_ c_ 0,b_ c_ 0,b_ c_ 0,b_ c_ 0] rfl rfl 131 gL (iL f_ s.o) ga rfl ga ?_))
 exact bodyPost_ret (v:=fI #[e_ (hA h),jj ⟨9,0,0,0,0⟩]) (yI rfl _ _ (w.heap.size+2) (w.heap.size+3) 56 131 (hA h) #[b_ c_ 9,b_ c_ 0,b_ c_ 0,b_ c_ 0,b_ c_ 0] (0,0) (0,0) _ _ rfl rfl (iL f_ (setRow_heap _ _ _ _ _ _ t.o)) (setRow_heap _ _ _ _ _ _ (iL f_ s.o)) Tryz.underlying56 rfl (ii (gV h c)) Tryz.underlying131 rfl ga) rfl ⟨rfl,below_setRow (below_setRow B f_ _) f_ _⟩
end
section
open Go.RowKit
section
theorem I9 {n a} (h:jk n a=true):0≤n∧n<32:=by
  simp only[jk,Bool.and_eq_true,decide_eq_true_eq] at h;exact⟨h.1,h.2.1⟩
theorem CJ {x} (h:k_ x=true):(0≤x.a∧x.a<32)∧(0≤x.b∧x.b<32):=by
  simp only[k_,Bool.and_eq_true] at h;exact⟨I9 h.2.2.1,I9 h.2.2.2.1⟩
theorem JE op d a b n r w (c:k_ ⟨op,d,a,b,n⟩=r) :
    Calls gd 109 #[e_ #[b_ c_ op,b_ c_ d,b_ c_ a,b_ c_ b,b_ c_ n]] w fun e w'=>e =fH (fJ r)∧Up w w':=by subst c;exact Id ⟨op,d,a,b,n⟩ w
def jp (h:Ht) (id:Int) (x:ju):Ht×oW:=
  if x.n=768 then (ly h x 33 (136),⟨0,0,0,0,0⟩) else if x.n=773 then (ly h x 34 (-4),⟨0,0,0,0,0⟩) else if x.n=832 then (ly h x 35 (-1),⟨0,0,0,0,0⟩) else if x.n=833 then (ly h x 36 (-4),⟨0,0,0,0,0⟩) else if x.n=834 then (ly h x 37 (-1),⟨0,0,0,0,0⟩) else if x.n=1984 then (ly h x 38 (-1),⟨0,0,0,0,0⟩) else if x.n=3860 then (vE h id x,⟨0,0,0,0,0⟩) else (h,⟨9,0,0,0,0⟩)
theorem Kc h id x w (b:h.r.length=32) (c:0≤x.a∧x.a<32) :
    Calls gd 112 #[e_ (hA h),b_ c_ id,gK x] w fun e w'=>e =fH (fI #[e_ (hA (jp h id x).1),jj (jp h id x).2])∧Up w w':=by
  by_cases h0:x.n=768
  · have e:jp h id x=(ly h x 33 (136),⟨0,0,0,0,0⟩):=by unfold jp;rw[if_pos h0]
    rw[e];exact C7 h id x 33 (136) w b c (by unfold vm;rw[h0];simp)
  by_cases h1:x.n=773
  · have e:jp h id x=(ly h x 34 (-4),⟨0,0,0,0,0⟩):=by unfold jp;rw[if_neg h0];rw[if_pos h1]
    rw[e];exact C7 h id x 34 (-4) w b c (by unfold vm;rw[h1];simp)
  by_cases h2:x.n=832
  · have e:jp h id x=(ly h x 35 (-1),⟨0,0,0,0,0⟩):=by unfold jp;rw[if_neg h0];rw[if_neg h1];rw[if_pos h2]
    rw[e];exact C7 h id x 35 (-1) w b c (by unfold vm;rw[h2];simp)
  by_cases h3:x.n=833
  · have e:jp h id x=(ly h x 36 (-4),⟨0,0,0,0,0⟩):=by unfold jp;rw[if_neg h0];rw[if_neg h1];rw[if_neg h2];rw[if_pos h3]
    rw[e];exact C7 h id x 36 (-4) w b c (by unfold vm;rw[h3];simp)
  by_cases h4:x.n=834
  · have e:jp h id x=(ly h x 37 (-1),⟨0,0,0,0,0⟩):=by unfold jp;rw[if_neg h0];rw[if_neg h1];rw[if_neg h2];rw[if_neg h3];rw[if_pos h4]
    rw[e];exact C7 h id x 37 (-1) w b c (by unfold vm;rw[h4];simp)
  by_cases h5:x.n=1984
  · have e:jp h id x=(ly h x 38 (-1),⟨0,0,0,0,0⟩):=by unfold jp;rw[if_neg h0];rw[if_neg h1];rw[if_neg h2];rw[if_neg h3];rw[if_neg h4];rw[if_pos h5]
    rw[e];exact C7 h id x 38 (-1) w b c (by unfold vm;rw[h5];simp)
  by_cases d:x.n=3860
  · have e:jp h id x=(vE h id x,⟨0,0,0,0,0⟩):=by unfold jp;rw[if_neg h0];rw[if_neg h1];rw[if_neg h2];rw[if_neg h3];rw[if_neg h4];rw[if_neg h5];rw[if_pos d]
    rw[e];exact Kv h id x w b c d
  · have e:jp h id x=(h,⟨9,0,0,0,0⟩):=by unfold jp;rw[if_neg h0];rw[if_neg h1];rw[if_neg h2];rw[if_neg h3];rw[if_neg h4];rw[if_neg h5];rw[if_neg d]
    rw[e];exact Kb h id x w b c ⟨⟨h0,h1,h2,h3,h4,h5⟩,d⟩
theorem Ik h (d n):(gR h d n).r.length=h.r.length:=by
  unfold gR;split
  · simp
  · rfl
theorem IP h id x (a:h.r.length=32):(jp h id x).1.r.length=32:=by
  unfold jp;repeat' split
  all_goals simp only[ly,vE,Ik]
  all_goals first|exact a|exact F4 a _ _
theorem Br {P} {C:World→Prop} {a} {o:Oper} {K:Act→Prop} ty x g cs (d:o.op = .load ty x) (c:a.eval x = fG (some ⟨g,0,none⟩))
    (e:∀ w,C w→(loadVar ty ⟨g,0,none⟩).run P w = .ok (e_ cs) w) (f:K (a.put o.dst (e_ cs))):o.quiet P a C K:=
  ⟨_,fun w b=>by unfold Oper.quietAt execOp;simp only[d,c,Instr.loadAt,Instr.sureAddr,Sem.run_bind,Sem.run_pure,Result.andThen_ok,e w b];exact⟨rfl,rfl⟩,f⟩
def jr (h:Ht) (x:ju) (a b:Int):Ht:=
  if x.op=1 then gR h x.d (x.n*4096) else if x.op=2 then gR h x.d (h.pc+x.n*4096) else if x.op=3∨x.op=4 then gR h x.d (h.pc+4)
  else if 13≤x.op∧x.op≤21 then gR h x.d (lV x.op a x.n) else if 22≤x.op∧x.op≤38 then gR h x.d (lV x.op a b) else h
def A4 (h:Ht) (x:ju):Ht×oW:=
  ({ jr h x (h.r.getD x.a.toNat 0) (h.r.getD x.b.toNat 0) with pc:=m_ h.pc x (h.r.getD x.a.toNat 0) (h.r.getD x.b.toNat 0) },jG x (h.r.getD x.a.toNat 0) (h.r.getD x.b.toNat 0))
theorem CX h d a b (e:wrap32 a=wrap32 b):gR h d a=gR h d b:=by unfold gR;rw[e]
/-- What Step does. -/
def mN (h:Ht) (id:Int) (x:ju):Ht×oW:=
  if k_ x=false then (h,⟨9,0,0,0,0⟩) else if x.op=44 then (vo h,⟨0,0,0,0,0⟩) else if x.op=40∨x.op=41∨x.op=42 then jp h id x else A4 h x
theorem qP {h id x} (a:k_ x=true) (h1:x.op≠44) (h2:x.op≠40∧x.op≠41∧x.op≠42):mN h id x=A4 h x:=by
  unfold mN;rw[if_neg (by rw[a];decide),if_neg h1,if_neg f_]
theorem IU {h id x} (a:k_ x=true) (h2:x.op=40∨x.op=41∨x.op=42):mN h id x=jp h id x:=by
  unfold mN;rw[if_neg (by rw[a];decide),if_neg f_,if_pos h2]
theorem Iv {h id x} (a:k_ x=true) (h2:x.op=44):mN h id x=(vo h,⟨0,0,0,0,0⟩):=by
  unfold mN;rw[if_neg (by rw[a];decide),if_pos h2]
theorem IV {h id x} (a:k_ x=false):mN h id x=(h,⟨9,0,0,0,0⟩):=by
  unfold mN;rw[if_pos a]
/-- The blocks of Step's variables. -/
structure rH (w:World) (h:Ht) (x:ju) (wx:World):Prop where
  r:wx.heap[w.heap.size]? = some (d_ (hA h) 56 (0,0))
  i:wx.heap[w.heap.size+1]? = some (d_ #[b_ c_ x.op,b_ c_ x.d,b_ c_ x.a,b_ c_ x.b,b_ c_ x.n] 72 (0,0))
  z:wx.heap[w.heap.size+2]? = some (d_ zA 56 (0,0))
  y:wx.heap[w.heap.size+3]? = some (d_ gL 131 (0,0))
  bel:Up w wx
section
variable {w w1 w2:World} {h:Ht} {x:ju}
theorem rH.up (k:rH w h x w1) (a:Up w1 w2):rH w h x w2:=
  ⟨iE a (gn k.r) k.r,iE a (gn k.i) k.i,iE a (gn k.z) k.z,iE a (gn k.y) k.y,gj k.bel a⟩
theorem rH.row (k:rH w h x w1) (a):rH w a x (w1.setRow w.heap.size (hA a)):=
  ⟨setRow_heap _ _ _ _ _ _ k.r,iL f_ k.i,iL f_ k.z,iL f_ k.y,below_setRow k.bel fL _⟩
theorem rH.pc (k:rH w h x w1) (hl:h.r.length=32) (n):rH w { h with pc:=n } x (w1.setCell ⟨w.heap.size,32,none⟩ (b_ c_ n)):=
  ⟨mT k.r 32 (b_ c_ n) _ (Bb h hl n),jL f_ k.i,jL f_ k.z,jL f_ k.y,gO k.bel fL _⟩
theorem rH.ins (k:rH w h x w1):w1.cell? ⟨w.heap.size+1,0,none⟩=some (b_ c_ x.op)∧w1.cell? ⟨w.heap.size+1,1,none⟩=some (b_ c_ x.d)∧w1.cell? ⟨w.heap.size+1,2,none⟩=some (b_ c_ x.a)∧w1.cell? ⟨w.heap.size+1,3,none⟩=some (b_ c_ x.b)∧w1.cell? ⟨w.heap.size+1,4,none⟩=some (b_ c_ x.n):=
  ⟨gv k.i rfl,gv k.i rfl,gv k.i rfl,gv k.i rfl,gv k.i rfl⟩
theorem rH.end {fn} {R:Ending→World→Prop} {a} (k:rH w h x w1) (l:fn.results = #[.cell 6 56,.cell 7 131]) (i:a.tmps.getD 6 undef = fG (some ⟨w.heap.size+2,0,none⟩)) (g:a.tmps.getD 7 undef = fG (some ⟨w.heap.size+3,0,none⟩)) (f:a.defers=[])
    {c} (hl:c.r.length=32) (e) (j:∀ w',Up w w'→R (fH (fI #[e_ (hA c),jj e])) w'):bodyPost gd fn R .ret a ((w1.setRow (w.heap.size+2) (hA c)).setRow (w.heap.size+3) #[b_ c_ e.k,b_ c_ e.d,b_ c_ e.ad,b_ c_ e.n,b_ c_ e.o]):=by
  have z:=setRow_heap _ _ _ (hA c) _ _ k.z;have y:=setRow_heap _ _ _ #[b_ c_ e.k,b_ c_ e.d,b_ c_ e.ad,b_ c_ e.n,b_ c_ e.o] _ _ (iL (b:=w.heap.size+2) (cs:=hA c) f_ k.y);exact bodyPost_ret (yI l _ _ (w.heap.size+2) (w.heap.size+3) 56 131 (hA c) #[b_ c_ e.k,b_ c_ e.d,b_ c_ e.ad,b_ c_ e.n,b_ c_ e.o] (0,0) (0,0) _ _ i g (iL f_ z) y Tryz.underlying56 rfl (ii (gV c hl)) Tryz.underlying131 rfl ga) f (j _ (below_setRow (below_setRow k.bel f_ _) f_ _))
end
theorem ya h id x w (c:h.r.length=32) :
    Calls gd 75 #[e_ (hA h),b_ c_ id,gK x] w fun e w'=>e =fH (fI #[e_ (hA (mN h id x).1),jj (mN h id x).2])∧Up w w':=by
  obtain⟨op,d,a,b,n⟩:=x;obtain⟨R,hR⟩:∃ R,R=mN h id ⟨op,d,a,b,n⟩:=⟨_,rfl⟩;rw[←hR];have HR:=gg hR;obtain⟨w0,aj,hx,hi,hz,hy,al,_⟩:=vf w (d_ (hA h) 56) (d_ #[b_ c_ op,b_ c_ d,b_ c_ a,b_ c_ b,b_ c_ n] 72) (d_ zA 56) (d_ gL 131);have K0:gi (rH w h ⟨op,d,a,b,n⟩ w0):=gg ⟨hx,hi,hz,hy,al⟩;have HW:=gg aj;obtain⟨i0,i1,i2,i3,i4⟩:=K0.o.ins;simp only at i0 i1 i2 i3 i4;clear hx hi hz hy aj al hR;unfold gK
  go_in
  go_upto_region 1 with(fail)
  change Code.wp _ _ _ _ ((((w.alloc (d_ (hA h) 56)).alloc (d_ #[b_ c_ op,b_ c_ d,b_ c_ a,b_ c_ b,b_ c_ n] 72)).alloc (d_ zA 56)).alloc (d_ gL 131));rw[←HW.o]
  go_wp2_with fail
  refine(JE op d a b n _ _ rfl).mono ?_
  rintro e w1 ⟨rfl,am⟩;have s:=gg (K0.o.up am);clear i0 i1 i2 i3 i4 am K0 HW;cases B:k_ ⟨op,d,a,b,n⟩
  case false=>
    have v:=gg (HR.o.trans (IV B));clear B;have K:=gV h c
    go_wp2_with (first|(refine wpList_load_row rfl 56 _ rfl (w.heap.size) rfl 56 (hA h) (0,0) _ s.o.r Tryz.underlying56 rfl (ii (gV h c)) ?_)|(refine wpList_store_row rfl 56 _ _ rfl (w.heap.size+2) (hA h) rfl rfl 56 zA s.o.z (ii K) (by rw[K];rfl) (jU h) ?_)|(refine wpList_store_row rfl 131 _ _ rfl (w.heap.size+3) #[b_ c_ 9,b_ c_ 0,b_ c_ 0,b_ c_ 0,b_ c_ 0] rfl rfl 131 gL (iL (b:=w.heap.size+2) (cs:=hA h) f_ s.o.y) ga rfl ga ?_))
    exact s.o.end rfl rfl rfl rfl c ⟨9,0,0,0,0⟩ fun w' J=>⟨by rw[v.o],J⟩
  case true=>
  have ra:=(CJ B).1;have rb:=(CJ B).2
  have ro:1≤op∧op≤49:=by
    by_cases hq:1≤op∧op≤49
    · exact hq
    · unfold k_ at B;rw[Ef hq] at B;simp at B
  simp only at ra rb;obtain⟨g,rfl,aJ⟩:∃ k:Nat,a=k∧k<32:=⟨a.toNat,by omega,by omega⟩;obtain⟨f,rfl,az⟩:∃ k:Nat,b=k∧k<32:=⟨b.toNat,by omega,by omega⟩;have ae:=gg B;clear B rb;have ca:=gv s.o.r (l9 h c g aJ);have cb:=gv s.o.r (l9 h c f az);obtain⟨m0,m1,m2,m3,m4⟩:=s.o.ins;simp only at m0 m1 m2 m3 m4;have ia:(0:Int)≤(g:Int):=by omega
  have ib:(g:Int)<32:=by omega
  have ic:(0:Int)≤(f:Int):=by omega
  have aL:(f:Int)<32:=by omega
  generalize ap:h.r.getD g 0=va at *
  generalize aq:h.r.getD f 0=vb at *
  have aB:=gg ap;have aC:=gg aq;clear ap aq
  go_wp2_with fail
  go_quiet (fail)
  go_wp2_with (refine wpList_load_row rfl 56 _ rfl (w.heap.size) rfl 56 (hA h) (0,0) _ s.o.r Tryz.underlying56 rfl (ii (gV h c)) ?_)
  refine(Jz h ⟨op,d,g,f,n⟩ va vb _ c).mono ?_
  rintro e w2 ⟨rfl,ak⟩;have j:=gg (s.o.up (gj (lJ fK _) ak));clear m0 m1 m2 m3 m4 ca cb ak s;obtain⟨t,o,q,u,l⟩:=j.o.ins;simp only at t o q u l;have V:=gv j.o.r (lT h c).1;have K:=gV h c;have lx:=gn j.o.r;have m:=gn j.o.i;generalize ag:m_ h.pc ⟨op,d,g,f,n⟩ va vb=nx at *
  have aI:=gg ag;clear ag
  go_upto_block 0 with(fail)
  go_cut [] (fun wx=>op≠44∧(op≠40∧op≠41∧op≠42)∧rH w (jr h ⟨op,d,g,f,n⟩ va vb) ⟨op,d,g,f,n⟩ wx)
  case first=>
    obtain⟨X,hX⟩:∃ X,X=(⟨op,d,g,f,n⟩:ju):=⟨_,rfl⟩;have C:=gg hX;clear hX;rcases(by omega:op=44∨(op=40∨op=41∨op=42)∨(op=1∨op=2∨op=3∨op=4)∨((13≤op∧op≤21)∨(22≤op∧op≤38)∨(5≤op∧op≤12∨op=39∨op=43∨45≤op))) with rfl|A|A|A
    · have v:=gg (HR.o.trans (Iv ae.o rfl))
      go_wp2_with (refine wpList_load_row rfl 56 _ rfl (w.heap.size) rfl 56 (hA h) (0,0) _ j.o.r Tryz.underlying56 rfl (ii (gV h c)) ?_)
      refine(Nb h _ c).mono ?_
      rintro e w3 ⟨rfl,Q⟩;have I:=gg (j.o.up Q);have T:(vo h).r.length=32:=c;have Z:=gV _ T;clear Q t o q u l V;generalize vo h=h3 at *
      go_wp2_with (first|(refine wpList_store_row rfl 56 _ _ rfl (w.heap.size+2) (hA h3) rfl rfl 56 zA I.o.z (ii Z) (by rw[Z];rfl) (jU h3) ?_)|(refine wpList_store_row rfl 131 _ _ rfl (w.heap.size+3) gL rfl rfl 131 gL (iL (b:=w.heap.size+2) (cs:=hA h3) f_ I.o.y) ga rfl ga ?_))
      exact I.o.end rfl rfl rfl rfl T ⟨0,0,0,0,0⟩ fun w' J=>⟨by rw[v.o],J⟩
    · have T:=IP h id ⟨op,d,g,f,n⟩ c
      have v:=gg (HR.o.trans (IU ae.o A));rcases A with rfl|rfl|rfl
      all_goals
        go_wp2_with (refine wpList_load_row rfl 56 _ rfl (w.heap.size) rfl 56 (hA h) (0,0) _ j.o.r Tryz.underlying56 rfl (ii (gV h c)) ?_)
        refine(Kc h id ⟨_,d,g,f,n⟩ _ c ⟨ia,ib⟩).mono ?_
        rintro e w3 ⟨rfl,Q⟩;have I:=gg (j.o.up Q);have ai:=v.o;clear Q t o q u l V v;generalize jp h id _=r3 at *
        have v:=gg ai;clear ai;obtain⟨h3,⟨S,W,N,U,M⟩⟩:=r3;have Z:=gV h3 T;unfold jj
        go_wp2_with (first|(refine wpList_store_row rfl 56 _ _ rfl (w.heap.size+2) (hA h3) rfl rfl 56 zA I.o.z (ii Z) (by rw[Z];rfl) (jU h3) ?_)|(refine wpList_store_row rfl 131 _ _ rfl (w.heap.size+3) #[b_ c_ S,b_ c_ W,b_ c_ N,b_ c_ U,b_ c_ M] rfl rfl 131 gL (iL (b:=w.heap.size+2) (cs:=hA h3) f_ I.o.y) ga rfl ga ?_))
        exact I.o.end rfl rfl rfl rfl T ⟨S,W,N,U,M⟩ fun w' J=>⟨by rw[v.o],J⟩
    · rcases A with rfl|rfl|rfl|rfl
      all_goals
        go_wp2_with (refine wpList_load_row rfl 56 _ rfl (w.heap.size) rfl 56 (hA h) (0,0) _ j.o.r Tryz.underlying56 rfl (ii (gV h c)) ?_)
        refine(CM h d _ _ c).mono ?_
        rintro e w5 ⟨rfl,G⟩;have F:=gg (j.o.up G);generalize p:gR h d _=h5 at *
        have H:h5.r.length=32:=by rw[←p];exact mo c d _
        have E:gi (jr h X va vb=h5):=gg (by
          rw[←p,C.o];unfold jr;repeat first|rw[if_neg (by simp only;omega)]|rw[if_pos (by simp only;omega)]
          all_goals exact CX _ _ _ _ (by first|rfl|exact(yD _).symm|(simp only[wrap64,wrap32];omega)))
        clear p G
        go_wp2_with (refine wpList_store_row rfl 56 _ _ rfl (w.heap.size) (hA h5) rfl rfl 56 (hA h) F.o.r (ii (gV h5 H)) (by rw[gV h5 H,K]) (jU h5) ?_)
        go_meet
        case rel=>exact⟨by omega,by omega,by rw[←C.o,E.o,C.o];exact F.o.row h5⟩
    · obtain⟨q0,q1,q2,q3,q4,q5,q6,q7⟩:(op == 44)=false∧(op == 40)=false∧(op == 41)=false∧(op == 42)=false∧(op == 1)=false∧(op == 2)=false∧(op == 3)=false∧(op == 4)=false:=by
        refine⟨?_,?_,?_,?_,?_,?_,?_,?_⟩ <;> simp <;> omega
      have ab:gi (∀ w':World,(∃ x:Wd w2,w'=x.val)→(loadVar 56 ⟨w.heap.size,0,none⟩).run gd w' = .ok (e_ (hA h)) w'):=by
        rintro w' ⟨x,rfl⟩;exact run_loadVar_row _ _ 56 56 (hA h) (0,0) _ (iE x.bel lx j.o.r) Tryz.underlying56 rfl (ii K)
      rcases A with A|A|A
      · have q8:decide (13≤op)=true:=by simp;omega
        have q9:decide (op≤21)=true:=by simp;omega
        go_wp2_with fail
        have r1:=fun x=>gD m o x
        have P:=fun x=>gD m l x
        clear t o q u l V;refine ov 9 ga ga ?_
        simp only[List.take_succ_cons,List.take_zero,List.drop_succ_cons,List.drop_zero]
        go_big_quiet_want
        refine Br 56 _ (w.heap.size) (hA h) rfl rfl ab.o ?_
        simp only[Act.put,fU,fV,fW]
        go_big_quiet_on
        have Y:=gg (fun w'=>Hr op va n w' f_);repeat(go_big_quiet_step ((first|(go_at_call 114;with_reducible exact oS (Y.o _))|(go_at_call 113;with_reducible exact oS (CM h d _ _ c)))))
        refine wpQuiet_nil ?_
        clear r1 P ab Y;rintro w5 ⟨⟨ay,G⟩,rfl⟩;have F:=gg (j.o.up G);generalize p:gR h d _=h5 at *
        have H:h5.r.length=32:=by rw[←p];exact mo c d _
        have E:gi (jr h X va vb=h5):=gg (by
          rw[←p,C.o];unfold jr;repeat first|rw[if_neg (by simp only;omega)]|rw[if_pos (by simp only;omega)]
          all_goals exact CX _ _ _ _ (by first|rfl|exact(yD _).symm|(simp only[wrap64,wrap32];omega)))
        clear p G
        go_wp2_with (refine wpList_store_row rfl 56 _ _ rfl (w.heap.size) (hA h5) rfl rfl 56 (hA h) F.o.r (ii (gV h5 H)) (by rw[gV h5 H,K]) (jU h5) ?_)
        go_meet
        case rel=>exact⟨by omega,by omega,by rw[←C.o,E.o,C.o];exact F.o.row h5⟩
      · have q8:decide (op≤21)=false:=by simp;omega
        have q9:decide (22≤op)=true:=by simp;omega
        have aA:decide (op≤38)=true:=by simp;omega
        go_wp2_with fail
        have r1:=fun x=>gD m o x
        have P:=fun x=>gD m l x
        clear t o q u l V;refine ov 8 ga ga ?_
        simp only[List.take_succ_cons,List.take_zero,List.drop_succ_cons,List.drop_zero]
        go_big_quiet_want
        refine Br 56 _ (w.heap.size) (hA h) rfl rfl ab.o ?_
        simp only[Act.put,fU,fV,fW]
        go_big_quiet_on
        have Y:=gg (fun w'=>Hr op va vb w' f_);repeat(go_big_quiet_step ((first|(go_at_call 114;with_reducible exact oS (Y.o _))|(go_at_call 113;with_reducible exact oS (CM h d _ _ c)))))
        refine wpQuiet_nil ?_
        clear r1 P ab Y;rintro w5 ⟨⟨ay,G⟩,rfl⟩;have F:=gg (j.o.up G);generalize p:gR h d _=h5 at *
        have H:h5.r.length=32:=by rw[←p];exact mo c d _
        have E:gi (jr h X va vb=h5):=gg (by
          rw[←p,C.o];unfold jr;repeat first|rw[if_neg (by simp only;omega)]|rw[if_pos (by simp only;omega)]
          all_goals exact CX _ _ _ _ (by first|rfl|exact(yD _).symm|(simp only[wrap64,wrap32];omega)))
        clear p G
        go_wp2_with (refine wpList_store_row rfl 56 _ _ rfl (w.heap.size) (hA h5) rfl rfl 56 (hA h) F.o.r (ii (gV h5 H)) (by rw[gV h5 H,K]) (jU h5) ?_)
        go_meet
        case rel=>exact⟨by omega,by omega,by rw[←C.o,E.o,C.o];exact F.o.row h5⟩
      · have hp:jr h ⟨op,d,g,f,n⟩ va vb=h:=by
          unfold jr;repeat rw[if_neg (by simp only;omega)]
        have E:=gg hp;by_cases av:op<13
        · have q8:decide (13≤op)=false:=by simp;omega
          have q9:decide (22≤op)=false:=by simp;omega
          clear av hp
          go_wp2
          go_meet
          case rel=>exact⟨by omega,by omega,by rw[E.o];exact j.o⟩
        · have q8:decide (13≤op)=true:=by simp;omega
          have q9:decide (op≤21)=false:=by simp;omega
          have aA:decide (22≤op)=true:=by simp;omega
          have aM:decide (op≤38)=false:=by simp;omega
          clear av hp
          go_wp2
          go_meet
          case rel=>exact⟨by omega,by omega,by rw[E.o];exact j.o⟩
  case rest=>
    obtain⟨au,hc,O⟩:=hcut;have v:=gg (HR.o.trans (qP ae.o au hc));obtain⟨w6,ax⟩:∃ y,y=wc:=⟨_,rfl⟩;subst ax
    have ac:(jr h ⟨op,d,g,f,n⟩ va vb).r.length=32:=by
      unfold jr;repeat' split
      all_goals first|exact mo c _ _|exact c
    generalize ao:jr h ⟨op,d,g,f,n⟩ va vb=h6 at *
    have aH:=gg ao;have K6:=gg O;have aw:=gv O.r (lT h6 ac).1;have aD:=gC O.r 32;have aE:=gn O.r;clear t o q u l V au hc O ao lx m;go_upto_region 21 with(fail)
    have L:=gg (K6.o.pc ac nx);obtain⟨w7,ad⟩:∃ y,y=w6.setCell ⟨w.heap.size,32,none⟩ (b_ c_ nx):=⟨_,rfl⟩;obtain⟨D,aa⟩:∃ y:Ht,y = { h6 with pc:=nx }:=⟨_,rfl⟩;rw[←ad,←aa] at L;rw[←ad];have aF:=gg aa;have ar:D.r.length=32:=by rw[aa];exact ac
    have af:=gV D ar
    have R0:gi (∀ w':World,(∃ x:Wd w7,w'=x.val)→(loadVar 56 ⟨w.heap.size,0,none⟩).run gd w' = .ok (e_ (hA D)) w'):=by
      rintro w' ⟨x,rfl⟩;exact run_loadVar_row _ _ 56 56 (hA D) (0,0) _ (iE x.bel (gn L.o.r) L.o.r) Tryz.underlying56 rfl (ii af)
    obtain⟨t,o,q,u,l⟩:=L.o.ins;simp only at t o q u l;have m:=gn L.o.i;have r0:=fun x=>gD m t x
    have r1:=fun x=>gD m o x
    have r2:=fun x=>gD m q x
    have r3:=fun x=>gD m u x
    have P:=fun x=>gD m l x
    clear ad aa t o q u l aw aD aE K6;refine ov 5 ga ga ?_
    simp only[List.take_succ_cons,List.take_zero,List.drop_succ_cons,List.drop_zero]
    go_big_quiet_want
    refine Br 56 _ (w.heap.size) (hA D) rfl rfl R0.o ?_
    simp only[Act.put,fU,fV,fW]
    go_big_quiet_on
    repeat(go_big_quiet_step ((go_at_call 115;exact oS (Jx ⟨op,d,g,f,n⟩ va vb _))))
    refine wpQuiet_nil ?_
    rintro w4 ⟨⟨aK,an⟩,rfl⟩;have K4:=gg (L.o.up an);clear an r0 r1 r2 r3 P m R0;generalize ah:jG ⟨op,d,g,f,n⟩ va vb=ef at *
    have aG:=gg ah;clear ah;obtain⟨S,W,N,U,M⟩:=ef;unfold jj
    go_wp2_with (first|(refine wpList_store_row rfl 56 _ _ rfl (w.heap.size+2) (hA D) rfl rfl 56 zA K4.o.z (ii af) (by rw[af];rfl) (jU D) ?_)|(refine wpList_store_row rfl 131 _ _ rfl (w.heap.size+3) #[b_ c_ S,b_ c_ W,b_ c_ N,b_ c_ U,b_ c_ M] rfl rfl 131 gL (iL (b:=w.heap.size+2) (cs:=hA D) f_ K4.o.y) ga rfl ga ?_))
    exact K4.o.end rfl rfl rfl rfl ar ⟨S,W,N,U,M⟩ fun w' J=>⟨by rw[v.o];unfold A4;simp only[Int.toNat_natCast];rw[aB.o,aC.o,aI.o,aH.o,aG.o,aF.o],J⟩
end
def rA (r:List Int):Array Value:=(r.map (b_ c_)).toArray
theorem ry A i (x) (h:A[i]? = some (b_ c_ x)) (w):(part 3 A i).run gd w = .ok (b_ c_ x) w:=by
 have a3:=Tryz.isAgg3;simp[part,a3,h]
theorem Jp d a b (w):(Op.equalIn (d+1) 3 (b_ c_ a) (b_ c_ b)).run gd w = .ok (a == b) w:=run_equalIn_int w d 3 .i64 .i64 a b Tryz.underlying3
theorem xu r (b:r.length=32) i (a:i<32):(rA r)[i]? = some (b_ c_ (r.getD i 0)):=by
 simp[rA,List.getD_eq_getElem?_getD,fQ (show i<r.length by omega)]
theorem Ma h (a:h.r.length=32):(hA h).extract 0 32=rA h.r:=by
 unfold hA hL rA;simp[List.extract_toArray,List.extract_eq_take_drop,List.map_append,a]
theorem Ho h (b:h.r.length=32) (w):(part 54 (hA h) 0).run gd w = .ok (e_ (rA h.r)) w:=by
 have a3:=Tryz.isAgg54;have a:=Tryz.sizeOf54;simp[part,a3,a,Ma h b]
theorem yL {P b rest o a w} {Q:Exit→Act→World→Prop} (d:Region.wanted o (yielded b a.tmps)=true) (ty) (x) (f:o.op = .load ty x)
 (g) (c:a.eval x = fG (some ⟨g,0,none⟩)) (v) (i:(loadVar ty ⟨g,0,none⟩).run P w = .ok v w)
 (h:wpList P b Q rest (a.put o.dst v) w):wpList P b Q (o :: rest) a w:=
 BigFrame.wpList_want d fun _ e=>by
  unfold Oper.wp execOp;simp only[f,c,Instr.loadAt,Instr.sureAddr,Sem.run_bind,Sem.run_pure,Result.andThen_ok,i];exact e _ _ h
end
