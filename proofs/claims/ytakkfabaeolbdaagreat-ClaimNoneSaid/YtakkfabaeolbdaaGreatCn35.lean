/- The reference's Levels. tallagelaw06.same. tallagelaw06.MerkleNodes: its walk. tallagelaw06.MerkleTrees: its walk. tallageref06.Tree.Twins. tallagelaw06.MerkleApart: its walk. tallagelaw06.MerkleRows: its walk. Proofs of places, plainly; tallagelaw07.light; proof.Build. -/
import Derived.Test.YtakkfabaeolbdaaGreatCn16
import Derived.Lib.SlBytesConst
import Derived.Test.YtakkfabaeolbdaaGreatCnOpen
import Derived.Test.YtakkfabaeolbdaaGreatCn11
import Derived.WalkMore
import Derived.Laws.BitsLemmas
namespace Go.Proofs.YtakkfabaeolbdaaGreat
section
open Go.RowKit

theorem Own.hashes {w:World} {B:Nat} {v:Value} {l:List (List UInt8)} (h:Own w B 27 hE 32 v l):HashBlk w v:=fun _ hk=>h.at hk
theorem Grew.below {w w':World} {g:Nat} {a a':Option Nat} {B:Nat} (h:Grew w g a w' a') (hB:B≤w.heap.size) (hg:B≤g) (ha:∀ k,a=some k→B≤k):Below B w w':=
 h.1.below (fun k hk e=>by
  rcases e with e | e
  ·omega
  ·have:=ha k e;omega) hB

def RowsUnder (w:World) (B U:Nat) (v:Value) (rows:List (List (List UInt8))):Prop:=
 ∃ vs:List Value,Own w B 28 slE 1 v vs∧vs.length=rows.length∧(∀ q,v.ownBlock=some q→q < U)∧∀ (i:Nat) u r,vs[i]? = some u→rows[i]? = some r→Rd w hE 32 u r∧HashBlk w u∧∀ q,u.ownBlock=some q→q < U
theorem RowsOwn.under {w:World} {B:Nat} {v:Value} {rows:List (List (List UInt8))} (h:RowsOwn w B v rows):RowsUnder w B w.heap.size v rows:=by
 obtain ⟨vs,h1,h2,h3⟩:=h
 exact ⟨vs,h1,h2,fun q hq=>(h1.lt q hq).2,fun i u r p q=>⟨(h3 i u r p q).1,(h3 i u r p q).2,fun x hx=>by obtain ⟨cs,fr,hc⟩:=(h3 i u r p q).2 x hx;exact a0b hc⟩⟩
theorem RowsUnder.own {w:World} {B U:Nat} {v:Value} {rows:List (List (List UInt8))} (h:RowsUnder w B U v rows):RowsOwn w B v rows:=by
 obtain ⟨vs,h1,h2,_,h3⟩:=h
 exact ⟨vs,h1,h2,fun i u r p q=>⟨(h3 i u r p q).1,(h3 i u r p q).2.1⟩⟩
theorem RowsUnder.keep {w w':World} {S:Nat→Prop} {B U:Nat} {v:Value} {rows:List (List (List UInt8))} (hr:RowsUnder w B U v rows) (hk:Keep S w w') (hS:∀ x,S x→U≤x):RowsUnder w' B U v rows:=by
 obtain ⟨vs,h1,h2,h3,h4⟩:=hr;refine ⟨vs,h1.keep hk (fun x hx e=>by have:=hS x e;have:=h3 x hx;omega),h2,h3,fun i u r p q=>?_⟩;obtain ⟨r1,r2,r3⟩:=h4 i u r p q;have hn:∀ x,u.ownBlock=some x→¬ S x:=fun x hx e=>by have:=hS x e;have:=r3 x hx;omega
 exact ⟨r1.keep hk (fun x hx _=>hn x hx),fun x hx=>by obtain ⟨cs,fr,hc⟩:=r2 x hx;exact ⟨cs,fr,hk.at hc (hn x hx)⟩,r3⟩
theorem RowsOwn.keep {w w':World} {S:Nat→Prop} {B:Nat} {v:Value} {rows:List (List (List UInt8))} (hr:RowsOwn w B v rows) (hk:Keep S w w') (hS:∀ x,x < w.heap.size→S x→False):RowsOwn w' B v rows:=by
 obtain ⟨vs,h1,h2,h3⟩:=hr;refine ⟨vs,h1.keep hk (fun x hx=>fun e=>hS x (h1.lt x hx).2 e),h2,fun i u r p q=>?_⟩;obtain ⟨r1,r2⟩:=h3 i u r p q
 exact ⟨r1.keep hk (fun x hx _ e=>by obtain ⟨cs,fr,hc⟩:=r2 x hx;exact hS x (a0b hc) e),fun x hx=>by obtain ⟨cs,fr,hc⟩:=r2 x hx;exact ⟨cs,fr,hk.at hc (fun e=>hS x (a0b hc) e)⟩⟩
end
section
open Go.RowKit

theorem RowsAt.at {w:World} {ad:Option Addr} {n cap:Nat} {rows:List (List (List UInt8))} (h:RowsAt w (.slice ad n cap) rows) (i:Nat) (hi:i < rows.length) :
  ∃ b off u,ad=some ⟨b,off,none⟩∧b < w.heap.size∧w.cell? ⟨b,off+i,none⟩=some u∧Rd w hE 32 u rows[i]:=by
 obtain ⟨vs,h1,h2,h3⟩:=h;obtain ⟨b,off,h4,h5,h6⟩:=h1.at i (by omega)
 exact ⟨b,off,vs[i],h4,h5,h6,h3 i _ _ (List.getElem?_eq_getElem (by omega)) (List.getElem?_eq_getElem hi)⟩
theorem RowsAt.shape {w:World} {v:Value} {rows:List (List (List UInt8))} (h:RowsAt w v rows):∃ ad cap,v = .slice ad rows.length cap∧rows.length≤cap∧cap≤9223372036854775807:=by
 obtain ⟨vs,h1,h2,_⟩:=h;rw [← h2];exact h1.shape
theorem RowsAt.nil (w:World):RowsAt w (.slice none 0 0) []:=⟨[],Rd.nil _ _ _,rfl,fun i u r p _=>by simp at p⟩
end
section
open Go.RowKit

def TreeOnly (wb:World) (g:Nat) (w':World):Prop:=∃ a tx,Tr w' g a tx∧tx.length < 100000∧Grew wb g none w' a
def TreeFew (n:Nat) (wb:World) (g:Nat) (w':World):Prop:=∃ a tx,Tr w' g a tx∧tx.length < n∧Grew wb g none w' a
theorem TreeFew.only {n:Nat} {wb w':World} {g:Nat} (h:TreeFew n wb g w') (hn:n≤100000):TreeOnly wb g w':=by
 obtain ⟨a,tx,h1,h2,h3⟩:=h;exact ⟨a,tx,h1,by omega,h3⟩
theorem TreeFew.below {n:Nat} {wb w' w'':World} {g:Nat} (h:TreeFew n wb g w') (hb:Below w'.heap.size w' w''):TreeFew n wb g w'':=by
 obtain ⟨a,tx,h1,h2,h3⟩:=h;exact ⟨a,tx,h1.later hb,h2,h3.trans (Grew.of_below g a hb)⟩
theorem TreeOnly.keep {wb w':World} {g:Nat} (h:TreeOnly wb g w'):Keep (· = g) wb w':=by
 obtain ⟨a,tx,_,_,h3⟩:=h
 exact h3.1.mono (fun k _ e=>e.elim id (fun e=>by cases e))
end
section
open Go.RowKit

theorem Grew.far {w w':World} {g:Nat} {a a':Option Nat} {B:Nat} (h:Grew w g a w' a') (hB:B≤w.heap.size) (ha:∀ k,a=some k→B≤k):∀ k,a'=some k→B≤k:=by
 intro k hk
 rcases h.2 with h2 | ⟨x,h2,h3⟩
 ·exact ha k (h2▸hk)
 ·rw [h2] at hk;cases hk;omega
theorem RowsOwn.nil (w:World) (B:Nat):RowsOwn w B (.slice none 0 0) []:=⟨[],Own.nil _ _ _ _ _,rfl,fun i u r p _=>by simp at p⟩
end
section
open Go.RowKit

theorem Tr.texts {w:World} {g:Nat} {a:Option Nat} {texts:List (List UInt8)} (h:Tr w g a texts):∃ v,w.heap[g]? = some (.cells #[v] 59 (0,0))∧Texts w v texts:=by
 obtain ⟨v,vs,h1,h2,_,h4,h5⟩:=h
 exact ⟨v,h1,vs,h2.rd f0p,h4,fun i u l p q=>(h5 i u l p q).1⟩
def tAt (l:List (List UInt8)) (i:Nat):List UInt8:=l.getD i []
end
section
open Go.RowKit

theorem p0K {k:Int} {l:List (List UInt8)} (h:whyF k l.length=0):rootV k l = .tuple #[.agg (c8 (rootF k.toNat l)),.int .i64 0]:=by unfold rootV;rw [if_pos h]
end
section
open Go.RowKit

def rowN (k:Int) (l:List (List UInt8)) (j:Nat):List (List UInt8):=rowAt k.toNat (groundF k.toNat (depthF l.length) l) j
theorem k0C (k:Int) (l:List (List UInt8)) (j:Nat):All32 (rowN k l j):=d0G _ _ (c0j _ _ _) j
theorem d0m (k:Int) (l:List (List UInt8)) (j:Nat) (hj:j≤depthF l.length):(rowN k l j).length=2 ^ (depthF l.length - j):=c0Q _ _ _ (b0g _ _ _) j hj
theorem o0K (k:Int) (l:List (List UInt8)) (j:Nat) (hj:j+1≤depthF l.length):(rowN k l j).length=2*(rowN k l (j+1)).length:=by
 rw [d0m k l j (by omega),d0m k l (j+1) hj,show depthF l.length - j=(depthF l.length - (j+1))+1 by omega,Nat.pow_succ]
 omega
theorem q0v (k:Int) (l:List (List UInt8)) (j:Nat) (hj:j≤depthF l.length) (hn:l.length≤1024):0 < (rowN k l j).length∧(rowN k l j).length≤1024:=by
 rw [d0m k l j hj]
 exact ⟨Nat.pow_pos (by omega),Nat.le_trans (Nat.pow_le_pow_right (by omega) (Nat.le_trans (Nat.sub_le _ _) (c0g _ hn))) (by decide)⟩
theorem r0n (k:Int) (l:List (List UInt8)):rowN k l (depthF l.length) = [rootF k.toNat l]:=j0D _ _
theorem p0C {k:Int} (hk:k=1∨k=2) (l:List (List UInt8)) (j m:Nat) (hj:j+1≤depthF l.length) (hm:m < (rowN k l (j+1)).length):hAt (rowN k l (j+1)) m=nodeK k (hAt (rowN k l j) (2*m)) (hAt (rowN k l j) (2*m+1)):=by
 have h2:=o0K k l j hj;have e:=r0F k.toNat (rowN k l j);have hm2:m < (upF k.toNat (rowN k l j)).length:=hm;rw [f0t _ m hm]
 unfold nodeK
 rw [if_pos hk];have h3:(rowN k l (j+1))[m]? = some (nodeF k.toNat (hAt (rowN k l j) (2*m)) (hAt (rowN k l j) (2*m+1))):=by
  show (upF k.toNat (rowN k l j))[m]? = _
  rw [← e,List.getElem?_map,List.getElem?_range (by omega)];rfl
 rw [List.getElem?_eq_getElem hm] at h3
 exact Option.some.inj h3
theorem n0X {k:Int} (hk:k=1∨k=2) (l:List (List UInt8)) (i:Nat) (hi:i < l.length):hAt (rowN k l 0) i=leafK k (tAt l i)∧i < (rowN k l 0).length:=by
 have h0:=c0Y l.length;have h1:i < (rowN k l 0).length:=by rw [d0m k l 0 (Nat.zero_le _),Nat.sub_zero];omega
 refine ⟨?_,h1⟩;rw [f0t _ i h1]
 unfold leafK
 rw [if_pos hk];have h3:(rowN k l 0)[i]? = some (leafF k.toNat (l.getD i [])):=m0c _ _ _ _ (by omega);rw [List.getElem?_eq_getElem h1] at h3
 exact Option.some.inj h3
theorem s0v {w:World} {rb ro n cap:Nat} {k:Int} {l:List (List UInt8)} (h:RowsAt w (.slice (some ⟨rb,ro,none⟩) n cap) (levelsF k.toNat l)) (j:Nat) (hj:j≤depthF l.length) (hn:l.length≤1024) :
  ∃ p q rc len,len=(rowN k l j).length∧0 < len∧len≤1024∧rb < w.heap.size∧w.cell? ⟨rb,ro+j,none⟩=some (.slice (some ⟨p,q,none⟩) len rc)∧p < w.heap.size∧Rd w hE 32 (.slice (some ⟨p,q,none⟩) len rc) (rowN k l j):=by
 obtain ⟨b,off,u,e,hb,hc,hr⟩:=h.at j (by rw [a0N];omega)
 cases e
 have he:=h0b k.toNat l j hj;rw [List.getElem?_eq_getElem (by rw [a0N];omega)] at he;have he2:(levelsF k.toNat l)[j]'(by rw [a0N];omega)=rowN k l j:=Option.some.inj he;rw [he2] at hr;have hl:=q0v k l j hj hn;obtain ⟨rad,rc,hu,_,_⟩:=hr.shape;subst hu;obtain ⟨p,q,hpq,hp⟩:=hr.ptr hl.1;subst hpq
 exact ⟨p,q,rc,_,rfl,hl.1,hl.2,hb,hc,hp,hr⟩
end
section
set_option maxHeartbeats 4000000
set_option maxRecDepth 100000
open Go.RowKit

def bes (x:Nat):Nat:=if x % 2=1 then x - 1 else x+1
theorem t0s {x m:Nat} (h:x < 2 ^ (m+1)):bes x < 2 ^ (m+1):=by
 rw [Nat.pow_succ] at h ⊢
 unfold bes;split<;>omega
def proofF (k:Int) (l:List (List UInt8)) (i:Nat):List (List UInt8):=(List.range (depthF l.length)).map fun j=>hAt (rowN k l j) (bes (i / 2 ^ j))
def proofE (k:Int) (l:List (List UInt8)) (i:Int):Int:=if whyF k l.length=0 then (if i < 0∨(l.length:Int)≤i then 5 else 0) else whyF k l.length
def proofV (k:Int) (l:List (List UInt8)) (i:Int):List (List UInt8):=if proofE k l i=0 then proofF k l i.toNat else []
theorem a0E (k:Int) (l:List (List UInt8)) (i:Nat):(proofF k l i).length=depthF l.length:=by simp [proofF]
theorem i0Y (k:Int) (l:List (List UInt8)) (i:Nat):All32 (proofF k l i):=by
 intro x hx
 unfold proofF at hx
 obtain ⟨j,_,rfl⟩:=List.mem_map.1 hx
 exact a0w (k0C _ _ _) _
theorem k0d (k:Int) (l:List (List UInt8)) (i j:Nat) (hj:j < depthF l.length):(proofF k l i).take (j+1)=(proofF k l i).take j ++ [hAt (rowN k l j) (bes (i / 2 ^ j))]:=by
 rw [List.take_succ_eq_append_getElem (by rw [a0E];exact hj)]
 simp [proofF]
theorem f0f {i n j:Nat} (hi:i < n) (hj:j≤depthF n):i / 2 ^ j < 2 ^ (depthF n - j):=by
 have h:=c0Y n;rw [Nat.div_lt_iff_lt_mul (Nat.pow_pos (by omega)),← Nat.pow_add,Nat.sub_add_cancel hj]
 omega
theorem c0k (i j:Nat):i / 2 ^ (j+1)=i / 2 ^ j / 2:=by rw [Nat.pow_succ,Nat.div_div_eq_div_mul]
theorem q0O {k:Int} {l:List (List UInt8)} (h:¬ whyF k l.length=0):rootV k l = .tuple #[.agg (c8 zero32),.int .i64 (whyF k l.length)]:=by unfold rootV;rw [if_neg h]

theorem r0t (x:Nat):x ^^^ 1=bes x:=by
 have h1:(x ^^^ 1) / 2=x / 2:=by rw [Nat.xor_div_two];simp
 have h2:=@Nat.xor_mod_two_eq_one x 1
 unfold bes
 split<;>omega
theorem q0b (x:Nat) (hx:x < 9223372036854775807):bits .xor .i64 (x:Int) 1=(bes x:Int):=by
 show IntKind.i64.wrap ((BitVec.ofInt 64 (x:Int) ^^^ BitVec.ofInt 64 1).toNat:Int)=_
 have h1:(BitVec.ofInt 64 1).toNat=1:=by decide
 have h2:(BitVec.ofInt 64 (x:Int)).toNat=x:=by
  rw [BitVec.ofInt_natCast,BitVec.toNat_ofNat];exact Nat.mod_eq_of_lt (by omega)
 have h3:bes x≤x+1:=by unfold bes;split<;>omega
 rw [BitVec.toNat_xor,h1,h2,r0t,IntKind.wrap_i64]
 omega
theorem r0w (n:Int):bits .and .i64 n 1=n % 2:=by
 have h1:(BitVec.ofInt 64 1).toNat=2 ^ 1 - 1:=by decide
 have key:(BitVec.ofInt 64 n &&& BitVec.ofInt 64 1).toNat=(n % ((2 ^ 64:Nat):Int)).toNat % 2 ^ 1:=by
  rw [BitVec.toNat_and,BitVec.toNat_ofInt,h1,Nat.and_two_pow_sub_one_eq_mod]
 show IntKind.i64.wrap ((BitVec.ofInt 64 n &&& BitVec.ofInt 64 1).toNat:Nat)=n % 2
 rw [key,IntKind.wrap_i64]
 omega

theorem h0o (k i:Int) (l:List (List UInt8)) (v:Value) (w:World) (h:Texts w v l) (hf:Fair l) :
  Calls Tryz.prog 77 #[.int .i64 k,v,.int .i64 i] w fun e w'=>∃ v',e = .returned (.tuple #[v',.int .i64 (proofE k l i)])∧Own w' w.heap.size 27 hE 32 v' (proofV k l i)∧Below w.heap.size w w':=by
 obtain ⟨ad,cap,rfl,hc1,hc2⟩:=h.shape;have H:=hh h;have HF:=hh hf;clear h hf;obtain ⟨n,hn⟩:=nm (l.length);rw [← hn] at hc1 H ⊢;have HN:=hh hn
 by_cases hy:whyF k l.length=0
 ·obtain ⟨hk,h1,hn1⟩:=l0I hy;obtain ⟨ga,hra,hga32⟩:∃ ga,rootV k l = .tuple #[.agg (c8 ga),.int .i64 0]∧ga.length=32:=⟨_,p0K hy,a0P _ _⟩;rw [← hn] at h1 hn1
  by_cases hi:i < 0∨(n:Int)≤i
  ·have hE:proofE k l i=5:=by unfold proofE;rw [if_pos hy,if_pos (by rw [← hn];exact hi)]
   have hV:proofV k l i = []:=by unfold proofV;rw [hE];rfl
   rw [hE,hV];have HRA:=hh hra;have HG32:=hh hga32;clear hra hga32 hE hV hy hn;have hi2:i < 0∨(¬ i < 0∧(n:Int)≤i):=by omega
   clear hi
   rcases hi2 with hi | ⟨hi,hi3⟩
   all_goals
    go_enter Tryz.func77,Tryz.ntmps77
    go_wp2_with fail
    go_step3
    go_wp2_with fail;refine (c0b k l _ _ H.out HF.out).mono ?_;rintro e w2 ⟨rfl,hb2⟩;rw [HRA.out];have HB2:=hh hb2;clear hb2
    go_wp2_with (refine sA _ Tryz.zeroHash ?_)
    intro R w3 h3
    go_wp2_with (refine a0a (t:=27) (old:=cB 32 []) rfl 27 _ _ rfl R (c8 ga) rfl rfl h3.out.cells (Tryz.sizeHs _ HG32.out) (by rw [a0m,HG32.out];rfl) (by rw [← a0O 32 _ HG32.out];exact one_b _ _) ?_)
    intro w4 h4 k4 z4;have hb24:Below w2.heap.size w2 w4:=h3.out.below.trans (k4.below (B:=w2.heap.size) (fun q hq e=>by have:=h3.out.eq;omega) h3.out.below.size);have HB4:=bT HB2 hb24;clear hb24 h4 k4 z4 h3 HB2;go_wp2_with fail;rw [Exit.noGoto_ret]
    go_ret2
    exact ⟨_,rfl,Own.nil _ _ _ _ _,HB4.out⟩
  ·have hi1:¬ i < 0:=by omega
   have hi2:¬ (n:Int)≤i:=by omega
   have hE:proofE k l i=0:=by unfold proofE;rw [if_pos hy,if_neg (by rw [← hn];exact hi)]
   have hV:proofV k l i=proofF k l i.toNat:=by unfold proofV;rw [hE];rfl
   rw [hE,hV];have HRA:=hh hra;have HG32:=hh hga32;have HK:=hh hk;clear hra hga32 hE hV hy hn hi hk;obtain ⟨i0,rfl⟩:∃ i0:Nat,i=(i0:Int):=⟨i.toNat,by omega⟩;rw [Int.toNat_natCast];have hin:i0 < n:=by omega
   replace hi1:((i0:Int) < 0)=False:=eq_false hi1;have hi3:¬ n≤i0:=by omega
   go_enter Tryz.func77,Tryz.ntmps77
   go_wp2_with fail
   go_step3
   go_wp2_with fail;refine (c0b k l _ _ H.out HF.out).mono ?_;rintro e w2 ⟨rfl,hb2⟩;rw [HRA.out];have HB2:=hh hb2;clear hb2
   go_wp2_with (refine sA _ Tryz.zeroHash ?_)
   intro R w3 h3
   go_wp2_with (refine a0a (t:=27) (old:=cB 32 []) rfl 27 _ _ rfl R (c8 ga) rfl rfl h3.out.cells (Tryz.sizeHs _ HG32.out) (by rw [a0m,HG32.out];rfl) (by rw [← a0O 32 _ HG32.out];exact one_b _ _) ?_)
   intro w4 h4 k4 z4;have hb24:Below w2.heap.size w2 w4:=h3.out.below.trans (k4.below (B:=w2.heap.size) (fun q hq e=>by have:=h3.out.eq;omega) h3.out.below.size);have HB4:=bT HB2 hb24;clear hb24 h4 k4 z4 h3 HB2;go_wp2_with fail;obtain ⟨d,hd⟩:=nm (depthF l.length);have hd10:d≤10:=by rw [hd];exact c0g _ (by have:=HN.out;omega)
   have HD:=hh hd;have HN10:Hid (l.length≤1024):=hh (by have:=HN.out;omega);clear hd;refine (g0S k l _ _ (H.out.later HB4.out) HK.out (by have:=HN.out;omega) HN10.out HF.out).mono ?_;rintro e w5 ⟨v5,rfl,hr5,hb5⟩;replace hr5:=hr5.rows;obtain ⟨rad,rcap,hv5,hrc1,hrc2⟩:=hr5.shape;rw [a0N,← HD.out] at hv5 hrc1;subst hv5;obtain ⟨rb,ro,u0,hrad,hrb,_,_⟩:=hr5.at 0 (by rw [a0N];omega);subst hrad;have hrow:∀ j,j≤d→_:=fun j hj=>s0v hr5 j (by rw [← HD.out];exact hj) HN10.out
   have HROW:=hh hrow;have HB5:=bT HB4 hb5;clear hrow hr5 hb5;go_wp2_with fail
   go_step3
   go_wp2_with fail
   go_loopw [2,10,36] (fun x y z wr=>∃ j p:Nat,j≤d∧z = .int .i64 j∧Hid (p=i0 / 2 ^ j)∧x = .int .i64 p∧Own wr w5.heap.size 27 hE 32 y ((proofF k l i0).take j)∧Below w5.heap.size w5 wr) (fun _ _ z _=>d+1 - (intOf z).toNat)
   case atStart=>exact ⟨0,i0,Nat.zero_le _,rfl,hh (by simp),rfl,Own.nil _ _ _ _ _,Below.refl _ _⟩
   case round=>
    obtain ⟨j,p,hj,rfl,hp,rfl,hown,hb⟩:=hrel;have hjd:(j:Int) < (d:Int)+1:=by omega
    obtain ⟨pj,qj,rcj,h,hhq,hh1,hh2,hrb5,hcj,hpj,hrdj⟩:=HROW.out j hj;have hcw:=(hb.cell (p:=⟨rb,ro+j,none⟩) hrb5).trans hcj;have hlen:h=2 ^ (d - j):=by rw [hhq,d0m k l j (by rw [← HD.out];exact hj),HD.out]
    by_cases hjd2:j < d
    ·have hpl:p < 2 ^ (d - j):=by rw [hp.out,HD.out];exact f0f (by rw [← HN.out];exact hin) (by rw [← HD.out];exact hj)
     have hbl:bes p < h:=by
      rw [hlen,show d - j=d - j - 1+1 by omega] at *
      exact t0s hpl
     have hh3:2≤h:=by
      have:2 ^ 1≤2 ^ (d - j):=Nat.pow_le_pow_right (by omega) (by omega);rw [hlen];exact this
     rw [← hlen] at hpl;have hne:((h:Int) == 1)=false:=by simp;omega
     obtain ⟨y,hy⟩:=nm (hAt (rowN k l j) (bes p));have hy32:y.length=32:=by rw [hy];exact a0w (k0C _ _ _) _
     obtain ⟨_,_,e1,_,hrange⟩:=(hrdj.later hb).hash (k0C _ _ _) (bes p) (by rw [← hhq];exact hbl)
     cases e1
     rw [← f0t _ (bes p) (by rw [← hhq];exact hbl),← hy] at hrange;have htk:=k0d k l i0 j (by rw [← HD.out];exact hjd2);rw [← hp.out,← hy] at htk;have hlr:((proofF k l i0).take j).length=j:=by rw [List.length_take,a0E,← HD.out];omega
     obtain ⟨oad,on,ocap,hox⟩:=hown.slice;subst hox;have hxor:bits BinOp.xor IntKind.i64 (p:Int) 1=(bes p:Int):=q0b p (by omega);have hbi:(bes p:Int) < (h:Int):=by omega
     obtain ⟨q,hq⟩:=nm (bes p);rw [← hq] at hxor hbi hrange;have HRG:=hh hrange;have HY32:=hh hy32;have HTK:=hh htk;have HOWN:=hh hown;have HBR:=hh hb;have HLR:=hh hlr;clear hrange hy hy32 htk hown hb hlr hhq hlen hq hcj hrdj hbl hh1 hpl
     go_wp2_with (first
      | (refine wpList_load_mid rfl _ _ rfl pj (qj+q*32) rfl (y.map byteV) _ HRG.out Tryz.underlying27 rfl (Tryz.sizeHm _ HY32.out) ?_)
      | (refine e0e rfl 28 _ rfl Tryz.underlying28 Tryz.infoHash rfl (by omega) (by omega) (.agg (c8 y)) (c8 y) rfl rfl (by rw [a0m,HY32.out]) ?_)
      | (at_builtin;refine i0h rfl _ _ _ rfl Tryz.underlying28 Tryz.infoHash rfl (by omega) (B:=w5.heap.size) (base:=w5.heap.size) (w0:=w5) (us:=c8 y) y HOWN.out rfl rfl (by rw [hE_32 _ HY32.out];rfl) (b0U _) (r0C _) (by rw [HLR.out];unfold maxLen;omega) (by rw [HLR.out];omega) HBR.out (Nat.le_refl _) HBR.out.size (Nat.le_refl _) ?_))
     intro v' w7 hown7 hb7 hg7 _;obtain ⟨oad',on',ocap',hox⟩:=hown7.slice;subst hox;rw [← HTK.out] at hown7;have HO7:=hh hown7;have HB7:=hh hb7;clear hown7 hb7 hg7 hcw;go_wp2_with fail
     go_roundw
     case rel=>exact ⟨j+1,p / 2,by omega,by go_num,hh (by rw [hp.out,c0k]),by go_num,HO7.out,HB7.out⟩
     case measure=>simp [intOf];omega
    ·obtain rfl:j=d:=by omega
     have hl1:h=1:=by rw [hlen,Nat.sub_self]
     subst hl1;rw [List.take_of_length_le (by rw [a0E,← HD.out];exact Nat.le_refl _)] at hown;obtain ⟨oad,on,ocap,hox⟩:=hown.slice;subst hox;have HOWN:=hh (hown.mono HB5.out.size);have HBR:=bT HB5 hb;clear hown hb hhq hlen hcj hrdj;go_wp2_with fail;rw [Exit.noGoto_ret]
     go_ret2
     exact ⟨_,rfl,HOWN.out,HBR.out⟩
 ·have hE:proofE k l i=whyF k l.length:=by unfold proofE;rw [if_neg hy]
  have hV:proofV k l i = []:=by unfold proofV;rw [hE,if_neg hy]
  rw [hE,hV];obtain ⟨ga,hra,hga32⟩:∃ ga,rootV k l = .tuple #[.agg (c8 ga),.int .i64 (whyF k l.length)]∧ga.length=32:=⟨_,q0O hy,rfl⟩;have HRA:=hh hra;have HG32:=hh hga32;have hne:(whyF k l.length != 0)=true:=by simpa using hy
  obtain ⟨ye,hye⟩:=nm (whyF k l.length);rw [← hye] at hne HRA ⊢;clear hra hga32 hE hV hy hn hye
  go_enter Tryz.func77,Tryz.ntmps77
  go_wp2_with fail
  go_step3
  go_wp2_with fail;refine (c0b k l _ _ H.out HF.out).mono ?_;rintro e w2 ⟨rfl,hb2⟩;rw [HRA.out];have HB2:=hh hb2;clear hb2
  go_wp2_with (refine sA _ Tryz.zeroHash ?_)
  intro R w3 h3
  go_wp2_with (refine a0a (t:=27) (old:=cB 32 []) rfl 27 _ _ rfl R (c8 ga) rfl rfl h3.out.cells (Tryz.sizeHs _ HG32.out) (by rw [a0m,HG32.out];rfl) (by rw [← a0O 32 _ HG32.out];exact one_b _ _) ?_)
  intro w4 h4 k4 z4;have hb24:Below w2.heap.size w2 w4:=h3.out.below.trans (k4.below (B:=w2.heap.size) (fun q hq e=>by have:=h3.out.eq;omega) h3.out.below.size);have HB4:=bT HB2 hb24;clear hb24 h4 k4 z4 h3 HB2;go_wp2_with fail;rw [Exit.noGoto_ret]
  go_ret2
  exact ⟨_,rfl,Own.nil _ _ _ _ _,HB4.out⟩
end
end Go.Proofs.YtakkfabaeolbdaaGreat
