/- The reference's Levels. The reference's Root; tallagelaw06.light, same. tallagelaw06.same. tallagelaw06.lives. tallagelaw06.MerkleNodes: its walk. -/
import Derived.Test.YtmclmccgghnglaaGreatLs15
import Derived.Lib.SlBytesConst
namespace Go.Proofs.YtmclmccgghnglaaGreat
section
open Go.RowKit

theorem tr_other {w w' : World} {g : Nat} {a a' : Option Nat} {texts : List (List UInt8)} (h : Tr w g a texts) (hg : Grew w g a w' a') {x : Nat} {cs : Array Value} {T : TypeId} {fr : Nat × Nat} (hx : w.heap[x]? = some (.cells cs T fr)) (hT : T ≠ 28 ∧ T ≠ 100) : w'.heap[x]? = some (.cells cs T fr) := by
  obtain ⟨v, vs, h1, h2, h3, _⟩ := h
  refine hg.1.at hx ?_
  rintro (e | e)
  · subst e; rw [hx] at h1; simp at h1; exact hT.1 h1.2.1
  · obtain ⟨cs', fr', h4⟩ := h2.at (k := x) (by rw [h3, e])
    rw [hx] at h4; simp at h4; exact hT.2 h4.2.1
theorem own_other {α : Type} {w w' : World} {g : Nat} {a a' : Option Nat} {texts : List (List UInt8)} (h : Tr w g a texts) (hg : Grew w g a w' a') {B : Nat} {e : TypeId} {enc : α → List Value} {sz : Nat} {v : Value} {l : List α} (ho : Own w B e enc sz v l) (he : e ≠ 28 ∧ e ≠ 100) : Own w' B e enc sz v l := by
  obtain ⟨v', vs, h1, h2, h3, _⟩ := h
  refine ho.keep hg.1 fun x hx => ?_
  obtain ⟨cs, fr, hc⟩ := ho.at hx
  rintro (e' | e')
  · subst e'; rw [hc] at h1; simp at h1; exact he.1 h1.2.1
  · obtain ⟨cs', fr', h4⟩ := h2.at (k := x) (by rw [h3, e'])
    rw [hc] at h4; simp at h4; exact he.2 h4.2.1
theorem rd_other {w w' : World} {g : Nat} {a a' : Option Nat} {texts : List (List UInt8)} (h : Tr w g a texts) (hg : Grew w g a w' a') {v : Value} {l : List (List UInt8)} (hr : Rd w hE 32 v l) (hb : HashBlk w v) : Rd w' hE 32 v l ∧ HashBlk w' v := by
  have key : ∀ x, v.ownBlock = some x → ∃ cs fr, w'.heap[x]? = some (.cells cs 36 fr) := fun x hx => by
    obtain ⟨cs, fr, hc⟩ := hb x hx
    exact ⟨cs, fr, tr_other h hg hc (by decide)⟩
  refine ⟨hr.keep hg.1 fun x hx _ => ?_, key⟩
  obtain ⟨v', vs, h1, h2, h3, _⟩ := h
  obtain ⟨cs, fr, hc⟩ := hb x hx
  rintro (e' | e')
  · subst e'; rw [hc] at h1; simp at h1
  · obtain ⟨cs', fr', h4⟩ := h2.at (k := x) (by rw [h3, e'])
    rw [hc] at h4; simp at h4
theorem Own.hashes {w : World} {B : Nat} {v : Value} {l : List (List UInt8)} (h : Own w B 36 hE 32 v l) : HashBlk w v := fun _ hk => h.at hk
/-- The tree and the row, when i leaves are laid. -/
def LayT (w : World) (g : Nat) (a : Option Nat) (texts T : List (List UInt8)) (i : Nat) (x : Value) (wr : World) : Prop :=
  ∃ a', Tr wr g a' (texts ++ T.take i) ∧ Grew w g a wr a' ∧ Own wr w.heap.size 36 hE 32 x ((T.take i).map shaF)
theorem Grew.below {w w' : World} {g : Nat} {a a' : Option Nat} {B : Nat} (h : Grew w g a w' a') (hB : B ≤ w.heap.size) (hg : B ≤ g) (ha : ∀ k, a = some k → B ≤ k) : Below B w w' :=
  h.1.below (fun k hk e => by
    rcases e with e | e
    · omega
    · have := ha k e; omega) hB

theorem upT_succ (k : Nat) (row : List (List UInt8)) (i : Nat) (h : i < row.length / 2) : (upT k row).take (i + 1) = (upT k row).take i ++ [nodeT k (hAt row (2 * i)) (hAt row (2 * i + 1))] := by
  have e : ∀ q, q < row.length → row.getD q [] = hAt row q := fun q hq => by
    rw [hAt_eq row q hq, List.getD_eq_getElem?_getD, List.getElem?_eq_getElem hq]; rfl
  rw [List.take_succ_eq_append_getElem (by rw [upT_length]; exact h)]
  simp only [upT, List.getElem_map, List.getElem_range]
  rw [e _ (by omega), e _ (by omega)]
theorem tr_ne {w : World} {g : Nat} {a : Option Nat} {texts : List (List UInt8)} (h : Tr w g a texts) {x : Nat} {cs : Array Value} {T : TypeId} {fr : Nat × Nat} (hx : w.heap[x]? = some (.cells cs T fr)) (hT : T ≠ 28 ∧ T ≠ 100) : ¬ (x = g ∨ a = some x) := by
  obtain ⟨v, vs, h1, h2, h3, _⟩ := h
  rintro (e | e)
  · subst e; rw [hx] at h1; simp at h1; exact hT.1 h1.2.1
  · obtain ⟨cs', fr', h4⟩ := h2.at (k := x) (by rw [h3, e])
    rw [hx] at h4; simp at h4; exact hT.2 h4.2.1
theorem load_hash_at {w w' : World} {S : Nat → Prop} {b off n cap : Nat} {row : List (List UInt8)} (h : Rd w hE 32 (.slice (some ⟨b, off, none⟩) n cap) row) (h32 : All32 row) (i : Nat) (hi : i < row.length) (hk : Keep S w w') (hb : ¬ S b) :
    (Instr.loadAt 36 (.pointer (some ⟨b, off + i * 32, none⟩))).run Tryz.prog w' = .ok (.agg (c8 (hAt row i))) w' := by
  obtain ⟨b', off', e, _, hr⟩ := h.hash h32 i hi
  cases e
  rw [hAt_eq row i hi]
  exact run_loadAt_mid w' b (off + i * 32) 36 _ _ (fun j v hj => keep_cell hk (hr j v hj) hb) Tryz.underlying36 rfl (Tryz.sizeHm _ (h32 _ (List.getElem_mem hi)))
/-- All texts up to row j. -/
def noteTo (k : Nat) (T G : List (List UInt8)) (j : Nat) : List (List UInt8) := T ++ (List.range j).flatMap fun q => upT k (rowAt k G q)
theorem noteTo_succ (k : Nat) (T G : List (List UInt8)) (j : Nat) : noteTo k T G (j + 1) = noteTo k T G j ++ upT k (rowAt k G j) := by
  unfold noteTo
  rw [List.range_succ, List.flatMap_append, List.append_assoc]; simp
theorem noteTo_le (k d : Nat) (T G : List (List UInt8)) (hT : T.length = 2 ^ d) (hG : G.length = 2 ^ d) : ∀ j, j ≤ d → (noteTo k T G j).length ≤ 2 ^ d + j * 2 ^ d
  | 0, _ => by simp [noteTo, hT]
  | j + 1, hj => by
    have ih := noteTo_le k d T G hT hG j (by omega)
    rw [noteTo_succ, List.length_append, upT_length, rowAt_pow k d G hG j (by omega), Nat.add_mul, Nat.one_mul]
    have : 2 ^ (d - j) ≤ 2 ^ d := Nat.pow_le_pow_right (by omega) (by omega)
    omega
/-- The tree and the rows, ahead of row j. -/
def LevT (w : World) (g : Nat) (a : Option Nat) (texts : List (List UInt8)) (k : Nat) (T G : List (List UInt8)) (j : Nat) (rv ov : Value) (wr : World) : Prop :=
  ∃ a', Tr wr g a' (texts ++ noteTo k T G j) ∧ Grew w g a wr a' ∧ Rd wr hE 32 rv (rowAt k G j) ∧ HashBlk wr rv ∧ RowsOwn wr w.heap.size ov ((List.range (j + 1)).map (rowAt k G))
/-- The rows that are laid so far, all in blocks below U. -/
def RowsUnder (w : World) (B U : Nat) (v : Value) (rows : List (List (List UInt8))) : Prop :=
  ∃ vs : List Value, Own w B 42 slE 1 v vs ∧ vs.length = rows.length ∧ (∀ q, v.ownBlock = some q → q < U) ∧ ∀ (i : Nat) u r, vs[i]? = some u → rows[i]? = some r → Rd w hE 32 u r ∧ HashBlk w u ∧ ∀ q, u.ownBlock = some q → q < U
theorem RowsOwn.under {w : World} {B : Nat} {v : Value} {rows : List (List (List UInt8))} (h : RowsOwn w B v rows) : RowsUnder w B w.heap.size v rows := by
  obtain ⟨vs, h1, h2, h3⟩ := h
  exact ⟨vs, h1, h2, fun q hq => (h1.lt q hq).2, fun i u r p q => ⟨(h3 i u r p q).1, (h3 i u r p q).2, fun x hx => by obtain ⟨cs, fr, hc⟩ := (h3 i u r p q).2 x hx; exact heap_lt hc⟩⟩
theorem RowsUnder.own {w : World} {B U : Nat} {v : Value} {rows : List (List (List UInt8))} (h : RowsUnder w B U v rows) : RowsOwn w B v rows := by
  obtain ⟨vs, h1, h2, _, h3⟩ := h
  exact ⟨vs, h1, h2, fun i u r p q => ⟨(h3 i u r p q).1, (h3 i u r p q).2.1⟩⟩
theorem under_other {w w' : World} {g : Nat} {a a' : Option Nat} {texts : List (List UInt8)} (h : Tr w g a texts) (hg : Grew w g a w' a') {B U : Nat} {v : Value} {rows : List (List (List UInt8))} (hr : RowsUnder w B U v rows) : RowsUnder w' B U v rows := by
  obtain ⟨vs, h1, h2, h3, h4⟩ := hr
  exact ⟨vs, own_other h hg h1 (by decide), h2, h3, fun i u r p q => ⟨(rd_other h hg (h4 i u r p q).1 (h4 i u r p q).2.1).1, (rd_other h hg (h4 i u r p q).1 (h4 i u r p q).2.1).2, (h4 i u r p q).2.2⟩⟩
theorem RowsUnder.keep {w w' : World} {S : Nat → Prop} {B U : Nat} {v : Value} {rows : List (List (List UInt8))} (hr : RowsUnder w B U v rows) (hk : Keep S w w') (hS : ∀ x, S x → U ≤ x) : RowsUnder w' B U v rows := by
  obtain ⟨vs, h1, h2, h3, h4⟩ := hr
  refine ⟨vs, h1.keep hk (fun x hx e => by have := hS x e; have := h3 x hx; omega), h2, h3, fun i u r p q => ?_⟩
  obtain ⟨r1, r2, r3⟩ := h4 i u r p q
  have hn : ∀ x, u.ownBlock = some x → ¬ S x := fun x hx e => by have := hS x e; have := r3 x hx; omega
  exact ⟨r1.keep hk (fun x hx _ => hn x hx), fun x hx => by obtain ⟨cs, fr, hc⟩ := r2 x hx; exact ⟨cs, fr, hk.at hc (hn x hx)⟩, r3⟩
/-- The same, when i nodes above row j are laid. -/
def InT (w : World) (g : Nat) (a : Option Nat) (texts : List (List UInt8)) (k : Nat) (T G : List (List UInt8)) (j : Nat) (rv ov : Value) (B i : Nat) (up : Value) (wr : World) : Prop :=
  ∃ a', Tr wr g a' (texts ++ (noteTo k T G j ++ (upT k (rowAt k G j)).take i)) ∧ Grew w g a wr a' ∧ Rd wr hE 32 rv (rowAt k G j) ∧ HashBlk wr rv ∧ (∀ q, rv.ownBlock = some q → q < B) ∧ B ≤ wr.heap.size ∧ RowsUnder wr w.heap.size B ov ((List.range (j + 1)).map (rowAt k G)) ∧ Own wr B 36 hE 32 up (((upT k (rowAt k G j)).take i).map shaF)
theorem RowsOwn.keep {w w' : World} {S : Nat → Prop} {B : Nat} {v : Value} {rows : List (List (List UInt8))} (hr : RowsOwn w B v rows) (hk : Keep S w w') (hS : ∀ x, x < w.heap.size → S x → False) : RowsOwn w' B v rows := by
  obtain ⟨vs, h1, h2, h3⟩ := hr
  refine ⟨vs, h1.keep hk (fun x hx => fun e => hS x (h1.lt x hx).2 e), h2, fun i u r p q => ?_⟩
  obtain ⟨r1, r2⟩ := h3 i u r p q
  exact ⟨r1.keep hk (fun x hx _ e => by obtain ⟨cs, fr, hc⟩ := r2 x hx; exact hS x (heap_lt hc) e), fun x hx => by obtain ⟨cs, fr, hc⟩ := r2 x hx; exact ⟨cs, fr, hk.at hc (fun e => hS x (heap_lt hc) e)⟩⟩
theorem rd_new_hash (w : World) (y : List UInt8) (hy : y.length = 32) (e : TypeId) : Rd (w.alloc (.cells (c8 y) e)) hE 32 (.slice (some ⟨w.heap.size, 0, none⟩) 1 1) [y] := by
  refine ⟨_, 1, rfl, Nat.le_refl _, by unfold maxLen; omega, fun _ => ⟨_, _, rfl, by simp, fun i hi j hj => ?_⟩⟩
  have : i = 0 := by simpa using hi
  subst this
  rw [Lib.cell_of_heap (heap_alloc_new w _)]
  simp [hE_32 y hy, c8]
set_option maxRecDepth 100000 in
set_option maxHeartbeats 4000000 in
theorem tlevels_any (w : World) (g : Nat) (a : Option Nat) (texts : List (List UInt8)) (k : Int) (l : List (List UInt8)) (v : Value) (hT : ∀ w' a', Grew w g a w' a' → Texts w' v l) (ht : Tr w g a texts) (hk : k = 1 ∨ k = 2) (h1 : 0 < l.length) (hn : l.length ≤ 1024) (hf : Fair l) (htl : texts.length < 900000000) :
    Calls Tryz.prog 189 #[.pointer (some ⟨g, 0, none⟩), .int .i64 k, v] w fun e w' => ∃ v' a', e = .returned v' ∧ RowsAt w' v' (levelsF k.toNat l) ∧ Tr w' g a' (texts ++ notesF k.toNat l) ∧ Grew w g a w' a' := by
  obtain ⟨ad, cap, rfl, hc1, hc2⟩ := (hT w a (Grew.of_below g a (Below.refl _ _))).shape
  have hwhy : whyF k l.length = 0 := by unfold whyF; rw [if_pos hk, if_neg (by omega), if_neg (by omega)]
  have hlk : ∀ b, leafK k b = shaF (leafT k.toNat b) := fun b => by unfold leafK; rw [if_pos hk]; rfl
  have hln : ∀ b, leafN k b = [leafT k.toNat b] := fun b => by unfold leafN; rw [if_pos hk]
  obtain ⟨n, hnn⟩ : ∃ n, n = l.length := ⟨_, rfl⟩
  obtain ⟨d, hd⟩ : ∃ d, d = depthF l.length := ⟨_, rfl⟩
  obtain ⟨T, hTT⟩ : ∃ T, T = groundT k.toNat d l := ⟨_, rfl⟩
  obtain ⟨N, hN⟩ : ∃ N, N = 2 ^ d := ⟨_, rfl⟩
  have hTl : T.length = N := by rw [hTT, groundT_length, hN]
  have hd10 : d ≤ 10 := by rw [hd]; exact depthF_10 _ hn
  have hN1 : N ≤ 1024 := by rw [hN]; exact Nat.le_trans (Nat.pow_le_pow_right (by omega) hd10) (by decide)
  have hge : n ≤ N := by rw [hnn, hN, hd]; exact depthF_ge _
  have hTs : ∀ i, i < N → T.take (i + 1) = T.take i ++ [leafT k.toNat (l.getD i [])] := fun i hi => by
    rw [List.take_succ_eq_append_getElem (by rw [hTl]; exact hi)]
    simp [hTT, groundT]
  have hTS := Lib.hid hT; have HT := Lib.hid ht; have HK := Lib.hid hk; have HF := Lib.hid hf; have HWHY := Lib.hid hwhy; have HLK := Lib.hid hlk; have HLN := Lib.hid hln; have HNN := Lib.hid hnn; have HD := Lib.hid hd; have HTT := Lib.hid hTT; have HN := Lib.hid hN; have HTL := Lib.hid hTl; have HTSS := Lib.hid hTs
  rw [← hnn] at h1 hn hc1 ⊢
  clear hT ht hk hf hwhy hlk hln hnn hd hTT hN hTl hTs
  go_enter Tryz.func189, Tryz.ntmps189
  go_wp2_with fail
  refine (twhy_any _ _ _ _ _).mono ?_
  rintro e w1 ⟨rfl, hw1⟩
  subst hw1
  rw [show whyF k n = 0 from by rw [HNN.out]; exact HWHY.out]
  go_wp2_with fail
  go_loopw [7, 21] (fun x y wr => ∃ i : Nat, i ≤ n ∧ y = .int .i64 i ∧ LayT w g a texts T i x wr) (fun _ y _ => n - (intOf y).toNat)
  case atStart => exact ⟨0, Nat.zero_le _, rfl, a, by simpa using HT.out, Grew.of_below g a (Below.refl _ _), Own.nil _ _ _ _ _⟩
  case round =>
    obtain ⟨i, hi, rfl, hlay⟩ := hrel
    have HL := Lib.hid hlay; clear hlay
    by_cases hlt : i < n
    · obtain ⟨a', t1, t2, t3⟩ := HL.out
      obtain ⟨lb, off, u, rfl, hlb, hcell, hru⟩ := (hTS.out _ _ t2).at i (by have := HNN.out; omega)
      have hli : l.getD i [] = l[i]'(by have := HNN.out; omega) := by rw [List.getD_eq_getElem?_getD, List.getElem?_eq_getElem (by have := HNN.out; omega)]; rfl
      rw [← hli] at hru
      have hfi : (l.getD i []).length < 1000000000 := by rw [hli]; exact HF.out _ (List.getElem_mem _)
      obtain ⟨bb, hbb⟩ : ∃ bb, bb = l.getD i [] := ⟨_, rfl⟩
      rw [← hbb] at hru hfi
      have hts := HTSS.out i (by omega)
      rw [← hbb] at hts
      obtain ⟨oad, on, ocap, hox⟩ := t3.slice
      subst hox
      have htl2 : (texts ++ T.take i).length < 1000000000 := by rw [List.length_append, List.length_take]; have := HTL.out; omega
      have HRU := Lib.hid hru; have HTS1 := Lib.hid hts; have T1 := Lib.hid t1; have T2 := Lib.hid t2; have T3 := Lib.hid t3; have HBB := Lib.hid hbb
      clear hru hts t1 t2 t3 hli hbb HL
      go_wp2_with fail
      refine (tleaf_any wr g a' _ k bb u HRU.out (by omega) T1.out htl2).mono ?_
      rintro e w3 ⟨rfl, a3, ht3, hg3⟩
      rw [HLK.out]
      rw [HLN.out, List.append_assoc, ← HTS1.out] at ht3
      have hrow3 := own_other T1.out hg3 T3.out (by decide)
      have hg13 := T2.out.trans hg3
      obtain ⟨y, hy⟩ : ∃ y, y = shaF (leafT k.toNat bb) := ⟨_, rfl⟩
      have hy32 : y.length = 32 := by rw [hy]; exact shaF_length _
      rw [← hy]
      have hlr : ((T.take i).map shaF).length = i := by rw [List.length_map, List.length_take, HTL.out]; omega
      have HY := Lib.hid hy; have HY32 := Lib.hid hy32; have HR3 := Lib.hid hrow3; have HG13 := Lib.hid hg13; have HT3 := Lib.hid ht3; have HLR := Lib.hid hlr
      clear hy hy32 hrow3 hg13 ht3 hg3 hlr htl2 hfi hcell T1 T2 T3
      go_wp2_with (first
        | (refine wpList_build1 rfl 42 _ rfl Tryz.underlying42 Tryz.infoHash rfl (by omega) (by omega) (.agg (c8 y)) (c8 y) rfl rfl (by rw [c8_size, HY32.out]) ?_)
        | (at_builtin; refine own_app rfl _ _ _ rfl Tryz.underlying42 Tryz.infoHash rfl (by omega) (B := 0) (base := w.heap.size) (w0 := w) (us := c8 y) y HR3.out rfl rfl (by rw [hE_32 _ HY32.out]; rfl) (hE_len _) (hE_one _) (by rw [HLR.out]; unfold maxLen; omega) (by rw [HLR.out]; omega) ⟨HG13.out.1.os, HG13.out.1.tape, HG13.out.1.output, HG13.out.1.size, fun _ h => by omega⟩ (Nat.zero_le _) HG13.out.1.size (Nat.zero_le _) ?_))
      intro v' w4 hown4 _ hg4 _
      obtain ⟨oad', on', ocap', hox⟩ := hown4.slice
      subst hox
      have hk4 := keep_grown hg4
      have hs4 : ∀ x cs T fr, w3.heap[x]? = some (.cells cs T fr) → Value.ownBlock (.slice oad on ocap) = some x → T = 36 := fun x cs T fr hc e => by
        obtain ⟨cs', fr', h4⟩ := HR3.out.at e
        rw [hc] at h4; simp at h4; exact h4.2.1
      have ht4 : Tr w4 g a3 (texts ++ T.take (i + 1)) := HT3.out.keep hk4 (fun x cs T fr hc e => by rw [hs4 x cs T fr hc e]; decide)
      have hg4' : Grew w g a w4 a3 := ⟨HG13.out.1.then hk4 (fun x hx => .inr (HR3.out.lt x hx).1), HG13.out.2⟩
      have hl4 : Own w4 w.heap.size 36 hE 32 (.slice oad' on' ocap') ((T.take (i + 1)).map shaF) := by
        rw [HTS1.out, List.map_append, List.map_cons, List.map_nil, ← HY.out]
        simpa only [List.map_take] using hown4
      have HLT : Hid (LayT w g a texts T (i + 1) (.slice oad' on' ocap') w4) := Lib.hid ⟨a3, ht4, hg4', hl4⟩
      clear hown4 hg4 hk4 hs4 ht4 hg4' hl4
      go_wp2_with fail
      go_roundw
      case rel => exact ⟨i + 1, by omega, by go_num, HLT.out⟩
      case measure => simp [intOf]; omega
    · obtain rfl : i = n := by omega
      go_wp2_with fail
      go_loopw [10, 11] (fun x y w' => ∃ q s : Nat, q ≤ d ∧ Hid (s = 2 ^ q) ∧ y = .int .i64 q ∧ x = .int .i64 s ∧ w' = wr) (fun _ y _ => d - (intOf y).toNat)
      case atStart => exact ⟨0, 1, Nat.zero_le _, Lib.hid rfl, rfl, rfl, rfl⟩
      case round =>
        obtain ⟨q, s, hq, hs, rfl, rfl, rfl⟩ := hrel
        have hs1 : s ≤ 1024 := by rw [hs.out]; exact Nat.le_trans (Nat.pow_le_pow_right (by omega) (Nat.le_trans hq hd10)) (by decide)
        by_cases hqd : q < d
        · go_wp2_with fail
          refine (tdepth_any (i : Int) (by omega) _).mono ?_
          rintro e w3 ⟨rfl, rfl⟩
          rw [Int.toNat_natCast, show depthF i = d from by rw [HD.out, HNN.out]]
          have j1 : (q : Int) < (d : Int) := by omega
          go_wp2_with fail
          go_roundw
          case rel => exact ⟨q + 1, s * 2, by omega, Lib.hid (by rw [hs.out, Nat.pow_succ]), by go_num, by go_num, trivial⟩
          case measure => simp [intOf]; omega
        · obtain rfl : q = d := by omega
          obtain rfl : s = N := by rw [hs.out, HN.out]
          go_wp2_with fail
          refine (tdepth_any (i : Int) (by omega) _).mono ?_
          rintro e w3 ⟨rfl, rfl⟩
          rw [Int.toNat_natCast, show depthF i = q from by rw [HD.out, HNN.out]]
          have j1 : ¬ (q : Int) < (q : Int) := by omega
          go_wp2_with fail
          go_loopw [7] (fun x wr => ∃ p : Nat, i ≤ p ∧ p ≤ s ∧ LayT w g a texts T p x wr) (fun x _ => s - lenOf x)
          case atStart => exact ⟨i, Nat.le_refl _, hge, HL.out⟩
          case round =>
            obtain ⟨p, hip, hp, hlay⟩ := hrel
            obtain ⟨a', t1, t2, t3⟩ := hlay
            have hlr0 : ((T.take p).map shaF).length = p := by rw [List.length_map, List.length_take, HTL.out]; omega
            obtain ⟨oad, ocap, hox, _⟩ := (t3.rd hE_len).shape
            rw [hlr0] at hox
            subst hox
            have T1 := Lib.hid t1; have T2 := Lib.hid t2; have T3 := Lib.hid t3
            clear hlr0 t1 t2 t3 HL
            by_cases hlt : p < s
            · have hts := HTSS.out p (by omega)
              have hlp : l.getD p [] = [] := by rw [List.getD_eq_getElem?_getD, List.getElem?_eq_none (by have := HNN.out; omega)]; rfl
              rw [hlp] at hts
              have htl2 : (texts ++ T.take p).length < 1000000000 := by rw [List.length_append, List.length_take]; have := HTL.out; omega
              have HTS1 := Lib.hid hts
              clear hts hlp
              have j1 : (p : Int) < (s : Int) := by omega
              go_wp2_with fail
              refine (tleaf_any wr g a' _ k [] (.slice none 0 0) (Rd.nil _ _ _) (by simp) T1.out htl2).mono ?_
              rintro e w3 ⟨rfl, a3, ht3, hg3⟩
              rw [HLK.out]
              rw [HLN.out, List.append_assoc, ← HTS1.out] at ht3
              have hrow3 := own_other T1.out hg3 T3.out (by decide)
              have hg13 := T2.out.trans hg3
              obtain ⟨y, hy⟩ : ∃ y, y = shaF (leafT k.toNat []) := ⟨_, rfl⟩
              have hy32 : y.length = 32 := by rw [hy]; exact shaF_length _
              rw [← hy]
              have hlr : ((T.take p).map shaF).length = p := by rw [List.length_map, List.length_take, HTL.out]; omega
              have HY := Lib.hid hy; have HY32 := Lib.hid hy32; have HR3 := Lib.hid hrow3; have HG13 := Lib.hid hg13; have HT3 := Lib.hid ht3; have HLR := Lib.hid hlr
              clear hy hy32 hrow3 hg13 ht3 hg3 hlr htl2 T1 T2 T3
              go_wp2_with (first
                | (refine wpList_build1 rfl 42 _ rfl Tryz.underlying42 Tryz.infoHash rfl (by omega) (by omega) (.agg (c8 y)) (c8 y) rfl rfl (by rw [c8_size, HY32.out]) ?_)
                | (at_builtin; refine own_app rfl _ _ _ rfl Tryz.underlying42 Tryz.infoHash rfl (by omega) (B := 0) (base := w.heap.size) (w0 := w) (us := c8 y) y HR3.out rfl rfl (by rw [hE_32 _ HY32.out]; rfl) (hE_len _) (hE_one _) (by rw [HLR.out]; unfold maxLen; omega) (by rw [HLR.out]; omega) ⟨HG13.out.1.os, HG13.out.1.tape, HG13.out.1.output, HG13.out.1.size, fun _ h => by omega⟩ (Nat.zero_le _) HG13.out.1.size (Nat.zero_le _) ?_))
              intro v' w4 hown4 _ hg4 _
              obtain ⟨oad', ocap', hox, _⟩ := (hown4.rd hE_len).shape
              have hlen4 : (List.take p (List.map shaF T) ++ [y]).length = p + 1 := by simp; have := HTL.out; omega
              first | rw [hlen4] at hox | (rw [List.length_append, HLR.out] at hox; simp only [List.length_singleton] at hox)
              subst hox
              clear hlen4
              have hk4 := keep_grown hg4
              have hs4 : ∀ x cs T fr, w3.heap[x]? = some (.cells cs T fr) → Value.ownBlock (.slice oad p ocap) = some x → T = 36 := fun x cs T fr hc e => by
                obtain ⟨cs', fr', h4⟩ := HR3.out.at e
                rw [hc] at h4; simp at h4; exact h4.2.1
              have ht4 : Tr w4 g a3 (texts ++ T.take (p + 1)) := HT3.out.keep hk4 (fun x cs T fr hc e => by rw [hs4 x cs T fr hc e]; decide)
              have hg4' : Grew w g a w4 a3 := ⟨HG13.out.1.then hk4 (fun x hx => .inr (HR3.out.lt x hx).1), HG13.out.2⟩
              have hl4 : Own w4 w.heap.size 36 hE 32 (.slice oad' (p + 1) ocap') ((T.take (p + 1)).map shaF) := by
                rw [HTS1.out, List.map_append, List.map_cons, List.map_nil, ← HY.out]
                simpa only [List.map_take] using hown4
              have HLT : Hid (LayT w g a texts T (p + 1) (.slice oad' (p + 1) ocap') w4) := Lib.hid ⟨a3, ht4, hg4', hl4⟩
              clear hown4 hg4 hk4 hs4 ht4 hg4' hl4
              go_wp2_with fail
              go_roundw
              case rel => exact ⟨p + 1, by omega, by omega, HLT.out⟩
              case measure => simp [lenOf]; omega
            · obtain rfl : p = s := by omega
              obtain ⟨G, hGG⟩ : ∃ G, G = groundF k.toNat q l := ⟨_, rfl⟩
              have hTG : (T.take p).map shaF = G := by rw [List.take_of_length_le (by rw [HTL.out]; exact Nat.le_refl _), HTT.out, hGG]; rfl
              have hGl : G.length = 2 ^ q := by rw [hGG, groundF_length]
              have hG32 : All32 G := by rw [hGG]; exact groundF_32 _ _ _
              have hTt : T.take p = T := List.take_of_length_le (by rw [HTL.out]; exact Nat.le_refl _)
              have t1 := T1.out
              have t3 := T3.out
              rw [hTG] at t3
              rw [hTt] at t1
              have hlev0 : LevT w g a texts k.toNat T G 0 (.slice oad p ocap) (.slice (some ⟨wr.heap.size, 0, none⟩) 1 1) (wr.alloc (.cells #[.slice oad p ocap] 42)) := by
                refine ⟨a', ?_, T2.out.trans (Grew.of_below g a' ((Below.refl _ _).alloc (Nat.le_refl _) _)), (t3.rd hE_len).alloc _, (t3.alloc _).hashes, [_], own_new1 (heap_alloc_new _ _) rfl T2.out.1.size, rfl, fun i u r p q => ?_⟩
                · have := t1.later ((Below.refl _ _).alloc (Nat.le_refl _) (.cells #[.slice oad p ocap] 42))
                  simpa [noteTo] using this
                · match i, p, q with
                  | 0, p, q =>
                    simp only [List.getElem?_cons_zero, Option.some.injEq] at p
                    subst p
                    have : r = G := by simpa [rowAt] using q.symm
                    subst this
                    exact ⟨(t3.rd hE_len).alloc _, (t3.alloc _).hashes⟩
                  | i + 1, p, q => simp at p
              have HLEV := Lib.hid hlev0; have HGG := Lib.hid hGG; have HGL := Lib.hid hGl; have HG32 := Lib.hid hG32
              clear hlev0 hGG hGl hG32 t1 t3 hTG hTt T1 T2 T3
              go_wp2_with fail
              go_loopw [7, 12] (fun x y wr => ∃ j : Nat, j ≤ q ∧ LevT w g a texts k.toNat T G j x y wr) (fun x _ _ => lenOf x)
              case atStart => exact ⟨0, Nat.zero_le _, HLEV.out⟩
              case round =>
                obtain ⟨j, hj, hlev⟩ := hrel
                obtain ⟨a', l1, l2, l3, l4, l5⟩ := hlev
                obtain ⟨rad, rcap, hrv, _⟩ := l3.shape
                obtain ⟨N, hNe⟩ : ∃ N, N = 2 ^ (q - j) := ⟨_, rfl⟩
                rw [rowAt_pow k.toNat q G HGL.out j hj, ← hNe] at hrv
                subst hrv
                have HNE := Lib.hid hNe; have L1 := Lib.hid l1; have L2 := Lib.hid l2; have L3 := Lib.hid l3; have L4 := Lib.hid l4; have L5 := Lib.hid l5
                clear hNe l1 l2 l3 l4 l5 HLEV
                by_cases hjq : j < q
                · obtain ⟨h, hh⟩ : ∃ h, h = 2 ^ (q - (j + 1)) := ⟨_, rfl⟩
                  have hNh : N = 2 * h := by rw [HNE.out, hh, show q - j = (q - (j + 1)) + 1 by omega, Nat.pow_succ]; omega
                  have hh1 : 1 ≤ h := by rw [hh]; exact Nat.pow_pos (by omega)
                  have hh2 : h ≤ 1024 := by rw [hh]; exact Nat.le_trans (Nat.pow_le_pow_right (by omega) (show q - (j + 1) ≤ 10 by omega)) (by decide)
                  have j1 : (1 : Int) < (N : Int) := by omega
                  have hrl : (rowAt k.toNat G j).length = N := by rw [rowAt_pow k.toNat q G HGL.out j hj, HNE.out]
                  have hr32 : All32 (rowAt k.toNat G j) := rowAt_32 _ _ HG32.out j
                  have hul : (upT k.toNat (rowAt k.toNat G j)).length = h := by rw [upT_length, hrl, hNh]; omega
                  have hnl : (texts ++ noteTo k.toNat T G j).length ≤ 900000000 + 20000 := by
                    have e1 := noteTo_le k.toNat q T G (by rw [HTL.out, HN.out]) HGL.out j hj
                    have e2 : 2 ^ q ≤ 1024 := Nat.le_trans (Nat.pow_le_pow_right (by omega) hd10) (by decide)
                    have e3 : j * 2 ^ q ≤ 10 * 1024 := Nat.mul_le_mul (by omega) e2
                    rw [List.length_append]; omega
                  obtain ⟨B, hB⟩ : ∃ B, B = wr.heap.size := ⟨_, rfl⟩
                  have hin0 : InT w g a texts k.toNat T G j (.slice rad N rcap) u12 B 0 (.slice none 0 0) wr := by
                    refine ⟨a', by simpa using L1.out, L2.out, L3.out, L4.out, fun x hx => ?_, by rw [hB]; exact Nat.le_refl _, by rw [hB]; exact L5.out.under, Own.nil _ _ _ _ _⟩
                    obtain ⟨cs, fr, hc⟩ := L4.out x hx
                    rw [hB]; exact heap_lt hc
                  have HIN := Lib.hid hin0; have HNH := Lib.hid hNh; have HRL := Lib.hid hrl; have HR32 := Lib.hid hr32; have HUL := Lib.hid hul; have HNL := Lib.hid hnl; have HBW := Lib.hid (show w.heap.size ≤ B by rw [hB]; exact L2.out.1.size); have HHH := Lib.hid hh
                  clear hin0 hNh hrl hr32 hul hnl hB hh L1 L2 L3 L4 L5
                  go_wp2_with fail
                  go_loopw [13, 14] (fun x y wr => ∃ i : Nat, i ≤ h ∧ y = .int .i64 (2 * (i : Int)) ∧ InT w g a texts k.toNat T G j (.slice rad N rcap) u12 B i x wr) (fun _ y _ => N - (intOf y).toNat)
                  case atStart => exact ⟨0, Nat.zero_le _, rfl, HIN.out⟩
                  case round =>
                    obtain ⟨i, hi, rfl, hin⟩ := hrel
                    obtain ⟨a2, m1, m2, m3, m4, m5, m6, m7, m9⟩ := hin
                    have M1 := Lib.hid m1; have M2 := Lib.hid m2; have M3 := Lib.hid m3; have M4 := Lib.hid m4; have M5 := Lib.hid m5; have M6 := Lib.hid m6; have M7 := Lib.hid m7; have M9 := Lib.hid m9
                    clear m1 m2 m3 m4 m5 m6 m7 m9 HIN
                    by_cases hlt : i < h
                    · obtain ⟨uad, un, ucap, hup⟩ := M9.out.slice
                      subst hup
                      obtain ⟨rb, ro, hrad, hrb⟩ := M3.out.ptr (by rw [HRL.out]; omega)
                      subst hrad
                      have j2 : 2 * (i : Int) + 1 < (N : Int) := by have := HNH.out; omega
                      have j3 : 2 * (i : Int) < (N : Int) := by have := HNH.out; omega
                      have j4 : (0 : Int) ≤ 2 * (i : Int) := by omega
                      have j5 : (0 : Int) ≤ 2 * (i : Int) + 1 := by omega
                      have j6 : (2 * (i : Int)).toNat = 2 * i := by omega
                      have j7 : (2 * (i : Int) + 1).toNat = 2 * i + 1 := by omega
                      have hrS : ¬ (rb = g ∨ a2 = some rb ∨ B ≤ rb) := by
                        obtain ⟨cs, fr, hc⟩ := M4.out rb rfl
                        have h5 := tr_ne M1.out hc (by decide)
                        have h6 := M5.out rb rfl
                        rintro (e | e | e)
                        · exact h5 (.inl e)
                        · exact h5 (.inr e)
                        · omega
                      have l6 : ∀ w', Keep (fun x => x = g ∨ a2 = some x ∨ B ≤ x) wr w' → _ := fun w' hw' => load_hash_at M3.out HR32.out (2 * i) (by rw [HRL.out]; omega) hw' hrS
                      have l11 : ∀ w', Keep (fun x => x = g ∨ a2 = some x ∨ B ≤ x) wr w' → _ := fun w' hw' => load_hash_at M3.out HR32.out (2 * i + 1) (by rw [HRL.out]; omega) hw' hrS
                      have L6 := Lib.hid l6; have L11 := Lib.hid l11
                      clear l6 l11 hrS
                      have hS : Keep (fun x => x = g ∨ a2 = some x ∨ B ≤ x) wr wr.drew := (Keep.refl _ _).drew
                      go_wp2_with fail
                      have jw : IntKind.i64.wrap (2 * (i : Int) + 1) = 2 * (i : Int) + 1 := IntWalk.i64_in _ (by omega)
                      refine wp_region_till (fun w' => Keep (fun x => x = g ∨ a2 = some x ∨ B ≤ x) wr w') 15 16 (by kernel_rfl) rfl ?_
                      refine till_take 0 (some 64) rfl rfl (by kernel_rfl) (by kernel_rfl) (by kernel_rfl) (by kernel_rfl) (by kernel_rfl) (by kernel_rfl) (fun _ _ _ h => h) (.inl ⟨by rfl, fun w' _ => (by go_simp; rfl)⟩) hS ?_
                      go_frame
                      refine till_take 1 (some 65) rfl rfl (by kernel_rfl) (by kernel_rfl) (by kernel_rfl) (by kernel_rfl) (by kernel_rfl) (by kernel_rfl) (fun _ _ _ h => h) (.inl ⟨by rfl, fun w' _ => (by go_simp; rfl)⟩) hS ?_
                      go_frame
                      refine till_take 2 (some 66) rfl rfl (by kernel_rfl) (by kernel_rfl) (by kernel_rfl) (by kernel_rfl) (by kernel_rfl) (by kernel_rfl) (fun _ _ _ h => h) (.inl ⟨by rfl, fun w' _ => (by go_simp; rfl)⟩) hS ?_
                      go_frame
                      refine till_take 3 (some 67) rfl rfl (by kernel_rfl) (by kernel_rfl) (by kernel_rfl) (by kernel_rfl) (by kernel_rfl) (by kernel_rfl) (fun _ _ _ h => h) (.inl ⟨by rfl, fun w' _ => (by go_simp; rfl)⟩) hS ?_
                      go_frame
                      refine till_take 4 (some 68) rfl rfl (by kernel_rfl) (by kernel_rfl) (by kernel_rfl) (by kernel_rfl) (by kernel_rfl) (by kernel_rfl) (fun _ _ _ h => h) (.inl ⟨by rfl, fun w' _ => (by go_simp; rfl)⟩) hS ?_
                      go_frame
                      refine till_take 5 (some 69) rfl rfl (by kernel_rfl) (by kernel_rfl) (by kernel_rfl) (by kernel_rfl) (by kernel_rfl) (by kernel_rfl) (fun _ _ _ h => h) (.inl ⟨by rfl, fun w' _ => (by go_simp; rfl)⟩) hS ?_
                      go_frame
                      refine till_take 6 (some 70) rfl rfl (by kernel_rfl) (by kernel_rfl) (by kernel_rfl) (by kernel_rfl) (by kernel_rfl) (by kernel_rfl) (fun _ _ _ h => h) (yields_load (by rfl) 36 (.tmp 69) rfl (.pointer (some ⟨rb, ro + 2 * i * 32, none⟩)) rfl _ L6.out) hS ?_
                      go_frame
                      refine till_take 7 (some 71) rfl rfl (by kernel_rfl) (by kernel_rfl) (by kernel_rfl) (by kernel_rfl) (by kernel_rfl) (by kernel_rfl) (fun _ _ _ h => h) (.inl ⟨by rfl, fun w' _ => (by go_simp; rfl)⟩) hS ?_
                      go_frame
                      refine till_take 8 (some 72) rfl rfl (by kernel_rfl) (by kernel_rfl) (by kernel_rfl) (by kernel_rfl) (by kernel_rfl) (by kernel_rfl) (fun _ _ _ h => h) (.inl ⟨by rfl, fun w' _ => (by go_simp; rfl)⟩) hS ?_
                      go_frame
                      refine till_take 9 (some 73) rfl rfl (by kernel_rfl) (by kernel_rfl) (by kernel_rfl) (by kernel_rfl) (by kernel_rfl) (by kernel_rfl) (fun _ _ _ h => h) (.inl ⟨by rfl, fun w' _ => (by go_simp; rfl)⟩) hS ?_
                      go_frame
                      refine till_take 10 (some 74) rfl rfl (by kernel_rfl) (by kernel_rfl) (by kernel_rfl) (by kernel_rfl) (by kernel_rfl) (by kernel_rfl) (fun _ _ _ h => h) (.inl ⟨by rfl, fun w' _ => (by go_simp; rfl)⟩) hS ?_
                      go_frame
                      refine till_take 11 (some 75) rfl rfl (by kernel_rfl) (by kernel_rfl) (by kernel_rfl) (by kernel_rfl) (by kernel_rfl) (by kernel_rfl) (fun _ _ _ h => h) (yields_load (by rfl) 36 (.tmp 74) rfl (.pointer (some ⟨rb, ro + (2 * i + 1) * 32, none⟩)) rfl _ L11.out) hS ?_
                      go_frame
                      obtain ⟨ha, hha⟩ : ∃ ha, ha = hAt (rowAt k.toNat G j) (2 * i) := ⟨_, rfl⟩
                      obtain ⟨hb, hhb⟩ : ∃ hb, hb = hAt (rowAt k.toNat G j) (2 * i + 1) := ⟨_, rfl⟩
                      have ha32 : ha.length = 32 := by rw [hha]; exact hAt_length HR32.out _
                      have hb32 : hb.length = 32 := by rw [hhb]; exact hAt_length HR32.out _
                      have hus := upT_succ k.toNat (rowAt k.toNat G j) i (by rw [HRL.out, HNH.out]; omega)
                      rw [← hha, ← hhb] at hus
                      have htl3 : (texts ++ (noteTo k.toNat T G j ++ (upT k.toNat (rowAt k.toNat G j)).take i)).length < 1000000000 := by
                        have e1 := HNL.out
                        rw [← List.append_assoc, List.length_append, List.length_take, HUL.out]; omega
                      have hnk : nodeK k ha hb = shaF (nodeT k.toNat ha hb) := by unfold nodeK; rw [if_pos HK.out]; rfl
                      have hnn : nodeN k ha hb = [nodeT k.toNat ha hb] := by unfold nodeN; rw [if_pos HK.out]
                      have HHA := Lib.hid hha; have HHB := Lib.hid hhb; have HUS := Lib.hid hus; have HTL3 := Lib.hid htl3; have HNK := Lib.hid hnk; have HNNN := Lib.hid hnn
                      rw [← hha, ← hhb]
                      clear hha hhb hus htl3 hnk hnn L6 L11
                      refine till_one 12 rfl (by kernel_rfl) fun K hK => ?_
                      simp only [List.getElem_toArray, List.getElem_cons_succ, List.getElem_cons_zero]
                      rw [if_pos (by rfl)]
                      go_simp
                      refine (tnode_any _ g a2 _ k ha hb ha32 hb32 (M1.out.later (Below.refl _ _).drew) HTL3.out).mono ?_
                      rintro e w3 ⟨rfl, a3, ht3, hg3⟩
                      have hg03 : Grew wr g a2 w3 a3 := Grew.from (Below.refl _ _).drew hg3
                      have hS3 : Keep (fun x => x = g ∨ a2 = some x ∨ B ≤ x) wr w3 := hg03.1.mono (fun x _ e => e.elim .inl (fun e => .inr (.inl e)))
                      refine hK _ _ (fun _ _ => hS3) ?_
                      clear hK
                      rw [HNNN.out, List.append_assoc, List.append_assoc, ← HUS.out] at ht3
                      rw [HNK.out]
                      obtain ⟨y, hy⟩ : ∃ y, y = shaF (nodeT k.toNat ha hb) := ⟨_, rfl⟩
                      have hy32 : y.length = 32 := by rw [hy]; exact shaF_length _
                      rw [← hy]
                      have hup3 := own_other M1.out hg03 M9.out (by decide)
                      have hrd3 := rd_other M1.out hg03 M3.out M4.out
                      have hrw3 := under_other M1.out hg03 M7.out
                      have hlu : (((upT k.toNat (rowAt k.toNat G j)).take i).map shaF).length = i := by rw [List.length_map, List.length_take, HUL.out]; omega
                      have HY := Lib.hid hy; have HY32 := Lib.hid hy32; have HUP3 := Lib.hid hup3; have HRD3 := Lib.hid hrd3.1; have HRB3 := Lib.hid hrd3.2; have HRW3 := Lib.hid hrw3; have HT3 := Lib.hid ht3; have HG3 := Lib.hid (M2.out.trans hg03); have HS3 := Lib.hid hS3; have HLU := Lib.hid hlu; have HZ3 := Lib.hid (Nat.le_trans M6.out hg03.1.size)
                      clear hy hy32 hup3 hrd3 hrw3 ht3 hg03 hg3 hS3 hlu hS
                      refine till_one 13 rfl (by kernel_rfl) fun K hK => ?_
                      simp only [List.getElem_toArray, List.getElem_cons_succ, List.getElem_cons_zero]
                      rw [if_pos (by rfl)]
                      refine wp_build1 42 (.tmp 76) rfl Tryz.underlying42 Tryz.infoHash rfl (by omega) (by omega) (.agg (c8 y)) (c8 y) rfl rfl (by rw [c8_size, HY32.out]) ?_
                      refine hK _ _ (fun _ _ => HS3.out.then_below ((Below.refl _ _).alloc (Nat.le_refl _) _)) ?_
                      clear hK
                      go_frame
                      refine till_one 14 rfl (by kernel_rfl) fun K hK => ?_
                      simp only [List.getElem_toArray, List.getElem_cons_succ, List.getElem_cons_zero]
                      rw [if_pos (by rfl)]
                      refine wp_own_apps (.tmp 64) (.tmp 77) 42 rfl Tryz.underlying42 Tryz.infoHash rfl (by omega) hE_len hE_one (HUP3.out.alloc _) rfl _ rfl (rd_new_hash w3 y HY32.out _) (by rw [HLU.out]; simp; unfold maxLen; omega) (by rw [HLU.out]; simp; omega) (B := 0) (w0 := wr) ⟨HS3.out.os, HS3.out.tape, HS3.out.output, Nat.le_trans HS3.out.size (by simp), fun _ h => by omega⟩ (Nat.zero_le _) (by have := HZ3.out; simp; omega) ?_
                      intro v' w4 hown4 _ hg4
                      obtain ⟨oad', on', ocap', hox⟩ := hown4.slice
                      subst hox
                      have hk4 : Keep (fun x => Value.ownBlock (.slice uad un ucap) = some x) w3 w4 := (Keep.of_below ((Below.refl _ _).alloc (Nat.le_refl _) _)).then (keep_grown hg4) (fun x hx => .inl hx)
                      have hub : ∀ x, Value.ownBlock (.slice uad un ucap) = some x → B ≤ x := fun x hx => (HUP3.out.lt x hx).1
                      have hS4 : Keep (fun x => x = g ∨ a2 = some x ∨ B ≤ x) wr w4 := HS3.out.then hk4 (fun x hx => .inl (.inr (.inr (hub x hx))))
                      refine hK _ _ (fun _ _ => hS4) ?_
                      clear hK
                      have hubt : ∀ x cs T fr, w3.heap[x]? = some (.cells cs T fr) → Value.ownBlock (.slice uad un ucap) = some x → T = 36 := fun x cs T fr hc e => by
                        obtain ⟨cs', fr', h4⟩ := HUP3.out.at e
                        rw [hc] at h4; simp at h4; exact h4.2.1
                      have ht4 := HT3.out.keep hk4 (fun x cs T fr hc e => by rw [hubt x cs T fr hc e]; decide)
                      have hg4' : Grew w g a w4 a3 := ⟨HG3.out.1.then hk4 (fun x hx => .inr (Nat.le_trans HBW.out (hub x hx))), HG3.out.2⟩
                      have hrd4 : Rd w4 hE 32 (.slice (some ⟨rb, ro, none⟩) N rcap) (rowAt k.toNat G j) := HRD3.out.keep hk4 (fun x hx _ e => by have := hub x e; have := M5.out x hx; omega)
                      have hrb4 : HashBlk w4 (.slice (some ⟨rb, ro, none⟩) N rcap) := fun x hx => by
                        obtain ⟨cs, fr, hc⟩ := HRB3.out x hx
                        exact ⟨cs, fr, hk4.at hc (fun e => by have := hub x e; have := M5.out x hx; omega)⟩
                      have hrw4 := HRW3.out.keep hk4 hub
                      have hown5 : Own w4 B 36 hE 32 (.slice oad' on' ocap') (((upT k.toNat (rowAt k.toNat G j)).take (i + 1)).map shaF) := by
                        rw [HUS.out, List.map_append, List.map_cons, List.map_nil, ← HY.out]
                        exact hown4
                      have HIN : Hid (InT w g a texts k.toNat T G j (.slice (some ⟨rb, ro, none⟩) N rcap) u12 B (i + 1) (.slice oad' on' ocap') w4) := Lib.hid ⟨a3, ht4, hg4', hrd4, hrb4, M5.out, Nat.le_trans HZ3.out hk4.size, hrw4, hown5⟩
                      clear hrw4 hown5 ht4 hg4' hrd4 hrb4 hubt hS4 hub hk4 hown4 hg4
                      go_frame
                      refine till_one 15 rfl (by kernel_rfl) fun K hK => ?_
                      simp only [List.getElem_toArray, List.getElem_cons_succ, List.getElem_cons_zero]
                      rw [if_pos (by rfl)]
                      go_simp
                      refine hK _ _ (fun h => absurd rfl h) ?_
                      clear hK
                      refine till_done (by kernel_rfl) ?_ _
                      go_wp2_with fail
                      go_roundw
                      case rel => exact ⟨i + 1, by omega, by go_num, HIN.out⟩
                      case measure => simp [intOf]; omega
                    · obtain rfl : i = h := by omega
                      have j2 : ¬ 2 * (i : Int) + 1 < (N : Int) := by have := HNH.out; omega
                      obtain ⟨uad, ucap, hup, _⟩ := (M9.out.rd hE_len).shape
                      rw [List.length_map, List.length_take, HUL.out, Nat.min_self] at hup
                      subst hup
                      have hnote := noteTo_succ k.toNat T G j
                      have hm1 := M1.out
                      rw [List.take_of_length_le (by rw [HUL.out]; exact Nat.le_refl _), ← hnote] at hm1
                      have hm9 := M9.out
                      rw [List.take_of_length_le (by rw [HUL.out]; exact Nat.le_refl _)] at hm9
                      have hrow' : Rd wr hE 32 (.slice uad i ucap) (rowAt k.toNat G (j + 1)) := hm9.rd hE_len
                      obtain ⟨oad, on, ocap, hov⟩ : ∃ oad on ocap, u12 = .slice oad on ocap := by obtain ⟨vs, v1, _⟩ := M7.out; exact v1.slice
                      subst hov
                      obtain ⟨vs, v1, v2, v3, v4⟩ := M7.out
                      have HM1 := Lib.hid hm1; have HHB := Lib.hid hm9.hashes; have HROW := Lib.hid hrow'; have V1 := Lib.hid v1; have V2 := Lib.hid v2; have V3 := Lib.hid v3; have V4 := Lib.hid v4
                      clear hm1 hm9 hrow' v1 v2 v3 v4 M1 M9 hnote
                      go_wp2_with (at_builtin; refine own_app rfl _ _ _ rfl Tryz.underlying239 Tryz.infoHs rfl (by omega) (B := 0) (base := w.heap.size) (w0 := wr) (.slice uad i ucap) V1.out rfl rfl rfl rfl (by simp [slE, Value.oneCell']) (by rw [V2.out]; simp; unfold maxLen; omega) (by rw [V2.out]; simp; omega) ⟨rfl, rfl, rfl, Nat.le_refl _, fun _ h => by omega⟩ (Nat.zero_le _) M2.out.1.size (Nat.zero_le _) ?_)
                      intro ov' w9 hown9 _ hg9 _
                      obtain ⟨oad', on', ocap', hov'⟩ := hown9.slice
                      subst hov'
                      have hk9 := keep_grown hg9
                      have hobt : ∀ x cs T fr, wr.heap[x]? = some (.cells cs T fr) → Value.ownBlock (.slice oad on ocap) = some x → T = 42 := fun x cs T fr hc e => by
                        obtain ⟨cs', fr', h4⟩ := V1.out.at e
                        rw [hc] at h4; simp at h4; exact h4.2.1
                      have ht9 := HM1.out.keep hk9 (fun x cs T fr hc e => by rw [hobt x cs T fr hc e]; decide)
                      have hg9' : Grew w g a w9 a2 := ⟨M2.out.1.then hk9 (fun x hx => .inr (V1.out.lt x hx).1), M2.out.2⟩
                      have hne : ∀ {x : Nat} {cs : Array Value} {fr : Nat × Nat}, wr.heap[x]? = some (.cells cs 36 fr) → ¬ Value.ownBlock (.slice oad on ocap) = some x := fun hc e => by have := hobt _ _ _ _ hc e; revert this; decide
                      have kh : ∀ u r, Rd wr hE 32 u r → HashBlk wr u → Rd w9 hE 32 u r ∧ HashBlk w9 u := fun u r r1 r2 =>
                        ⟨r1.keep hk9 (fun x hx _ => by obtain ⟨cs, fr, hc⟩ := r2 x hx; exact hne hc), fun x hx => by obtain ⟨cs, fr, hc⟩ := r2 x hx; exact ⟨cs, fr, hk9.at hc (hne hc)⟩⟩
                      have hnew := kh _ _ HROW.out HHB.out
                      have hrows : RowsOwn w9 w.heap.size (.slice oad' on' ocap') ((List.range (j + 1 + 1)).map (rowAt k.toNat G)) := by
                        refine ⟨_, hown9, by simp [V2.out], fun x u r p q => ?_⟩
                        rw [List.range_succ, List.map_append] at q
                        have hl := V2.out
                        rcases Nat.lt_or_ge x vs.length with hi | hi
                        · rw [List.getElem?_append_left hi] at p
                          rw [List.getElem?_append_left (by omega)] at q
                          exact kh u r (V4.out x u r p q).1 (V4.out x u r p q).2.1
                        · rw [List.getElem?_append_right hi] at p
                          rw [List.getElem?_append_right (by omega), ← hl] at q
                          match hj : x - vs.length, p, q with
                          | 0, p, q => simp at p q; subst p; subst q; exact hnew
                          | _ + 1, p, q => simp at p
                      have HL : Hid (LevT w g a texts k.toNat T G (j + 1) (.slice uad i ucap) (.slice oad' on' ocap') w9) := Lib.hid ⟨a2, ht9, hg9', hnew.1, hnew.2, hrows⟩
                      clear hrows hnew kh hne hg9' ht9 hobt hk9 hown9 hg9
                      go_wp2_with fail
                      go_roundw
                      case rel => exact ⟨j + 1, by omega, HL.out⟩
                      case measure =>
                        show i < N
                        have := HNH.out
                        omega
                · obtain rfl : j = q := by omega
                  obtain rfl : N = 1 := by rw [HNE.out, Nat.sub_self]
                  go_wp2_with fail
                  go_ret
                  obtain ⟨vs, v1, v2, v3⟩ := L5.out
                  refine ⟨_, a', rfl, ⟨vs, v1.rd slE_len, ?_, fun i u r hi hr => ?_⟩, ?_, L2.out⟩
                  · rw [v2, levelsF_length, ← HD.out]; simp
                  · refine (v3 i u r hi ?_).1
                    rw [← hr]
                    unfold levelsF
                    rw [HGG.out, HD.out]
                  · have := L1.out
                    unfold noteTo at this
                    unfold notesF
                    rw [← HD.out, ← HTT.out, ← HGG.out]
                    exact this
end
section
open Go.RowKit

def notesV (k : Int) (l : List (List UInt8)) : List (List UInt8) := if whyF k l.length = 0 then notesF k.toNat l else []
set_option maxRecDepth 100000 in
set_option maxHeartbeats 1000000 in
theorem troot_any (w : World) (g : Nat) (a : Option Nat) (texts : List (List UInt8)) (k : Int) (l : List (List UInt8)) (v : Value) (hT : ∀ w' a', Grew w g a w' a' → Texts w' v l) (ht : Tr w g a texts) (hf : Fair l) (htl : texts.length < 900000000) :
    Calls Tryz.prog 87 #[.pointer (some ⟨g, 0, none⟩), .int .i64 k, v] w (TrRet w g a (texts ++ notesV k l) (rootV k l)) := by
  obtain ⟨ad, cap, rfl, hc1, hc2⟩ := (hT w a (Grew.of_below g a (Below.refl _ _))).shape
  by_cases hy : whyF k l.length = 0
  · have hv : rootV k l = .tuple #[.agg (c8 (rootF k.toNat l)), .int .i64 0] := by unfold rootV; rw [if_pos hy]
    have hnv : notesV k l = notesF k.toNat l := by unfold notesV; rw [if_pos hy]
    rw [hv, hnv]
    obtain ⟨hk, h1, hn⟩ := why_zero hy
    have H := Lib.hid hT; have HY := Lib.hid hy; have HK := Lib.hid hk; have HF := Lib.hid hf; have HT := Lib.hid ht
    clear hT hy hk hf hv hnv ht
    go_enter Tryz.func87, Tryz.ntmps87
    go_wp2_with (refine wpList_alloc_g rfl _ rfl _ _ Tryz.zeroHash rfl ?_)
    intro R w1 h1'
    go_wp2_with fail
    refine (twhy_any _ _ _ _ _).mono ?_
    rintro e w1' ⟨rfl, hw1⟩
    rw [HY.out]
    subst hw1
    go_wp2_with fail
    have hg01 : Grew w g a w1 a := Grew.of_below g a h1'.out.below
    refine (tlevels_any w1 g a texts k l _ (fun w' a' h => H.out w' a' (hg01.trans h)) (HT.out.later h1'.out.below) HK.out h1 hn HF.out htl).mono ?_
    rintro e w2 ⟨v', a2, rfl, hrows, ht2, hg2⟩
    obtain ⟨vs, v1, v2, v3⟩ := hrows
    obtain ⟨d, hd⟩ : ∃ d, d = depthF l.length := ⟨_, rfl⟩
    have hd10 : d ≤ 10 := by rw [hd]; exact depthF_10 _ hn
    rw [levelsF_length, ← hd] at v2
    obtain ⟨rad, rcap, hv', hr1, hr2⟩ := v1.shape
    rw [v2] at hv'
    subst hv'
    obtain ⟨rb, roff, hrad, hrb, hcell⟩ := v1.at d (by omega)
    subst hrad
    obtain ⟨u, hu⟩ : ∃ u, vs[d]? = some u := ⟨_, List.getElem?_eq_getElem (by omega)⟩
    have hlast := v3 d u _ hu (levelsF_at k.toNat l d (by rw [hd]; exact Nat.le_refl _))
    have htop : rowAt k.toNat (groundF k.toNat (depthF l.length) l) d = [rootF k.toNat l] := by rw [hd]; exact top_eq _ _
    rw [htop] at hlast
    have hud : vs[d]'(by omega) = u := by rw [List.getElem?_eq_getElem (by omega)] at hu; exact Option.some.inj hu
    replace hcell : w2.cell? ⟨rb, roff + d, none⟩ = some u := hcell.trans (congrArg some hud)
    obtain ⟨lad, lcap, hlv, _, _⟩ := hlast.shape
    simp only [List.length_singleton] at hlv
    subst hlv
    obtain ⟨lb, loff, hlad, hlb, hrange⟩ := hlast.hash (by intro x hx; simp at hx; subst hx; exact rootF_length _ _) 0 (by simp)
    subst hlad
    simp only [Nat.zero_mul, Nat.add_zero, List.getElem_cons_zero] at hrange
    have hR2 : w2.heap[R]? = some (.cells (cB 32 []) 36 (0, 0)) := tr_other (HT.out.later h1'.out.below) hg2 h1'.out.cells (by decide)
    have hG2 := hg01.trans hg2
    have HC := Lib.hid hcell; have HRG := Lib.hid hrange; have HR2 := Lib.hid hR2; have HG2 := Lib.hid hG2; have HWR := Lib.hid h1'.out.eq; have HT2 := Lib.hid ht2
    clear hcell hlast hu hud htop hrange hR2 hG2 hg2 hg01 ht2 v1 v2 v3 hd h1'
    have q := HC.out
    go_wp2_with (first
      | (refine wpList_load_mid rfl _ _ rfl lb loff rfl ((rootF k.toNat l).map byteV) _ HRG.out Tryz.underlying36 rfl (Tryz.sizeHm _ (rootF_length _ _)) ?_)
      | (refine wpList_store_row_g (t := 36) (old := cB 32 []) rfl 36 _ _ rfl R (c8 (rootF k.toNat l)) rfl rfl HR2.out (Tryz.sizeHs _ (rootF_length _ _)) (by rw [c8_size, rootF_length]; rfl) (by rw [← cB_full 32 _ (rootF_length _ _)]; exact one_b _ _) ?_))
    intro w5 h5 k5 z5
    have H5 := Lib.hid h5
    have HT5 := Lib.hid (HT2.out.keep1 k5 HR2.out (by decide))
    have HG5 := Lib.hid (HG2.out.to (by have := HWR.out; omega) k5)
    clear h5 k5 z5 q
    go_wp2_with fail
    exact bodyPost_ret (res_row_val rfl _ _ R _ (c8 (rootF k.toNat l)) _ _ rfl H5.out Tryz.underlying36 rfl (Tryz.sizeHs _ (rootF_length _ _)) _ rfl) rfl ⟨rfl, a2, HT5.out, HG5.out⟩
  · have hv : rootV k l = .tuple #[.agg (c8 zero32), .int .i64 (whyF k l.length)] := by unfold rootV; rw [if_neg hy]
    have hnv : notesV k l = [] := by unfold notesV; rw [if_neg hy]
    rw [hv, hnv, List.append_nil]
    have hne : (whyF k l.length != 0) = true := by simpa using hy
    have HT := Lib.hid ht
    clear hT hf hv hy hnv ht
    go_enter Tryz.func87, Tryz.ntmps87
    go_wp2_with (refine wpList_alloc_g rfl _ rfl _ _ Tryz.zeroHash rfl ?_)
    intro R w1 h1'
    go_wp2_with fail
    refine (twhy_any _ _ _ _ _).mono ?_
    rintro e w1' ⟨rfl, hw1⟩
    subst hw1
    go_wp2_with (refine wpList_store_row_g (t := 36) (old := cB 32 []) rfl 36 _ _ rfl R (c8 zero32) rfl rfl h1'.out.cells (Tryz.sizeHs _ zero32_length) (by rw [c8_size, zero32_length]; rfl) (by rw [← cB_full 32 _ zero32_length]; exact one_b _ _) ?_)
    intro w5 h5 k5 z5
    have H5 := Lib.hid h5
    have H6 := Lib.hid (k5.onto h1'.out.below (Nat.le_refl _) (by have := h1'.out.eq; omega))
    clear h5 k5 z5
    go_wp2_with fail
    exact bodyPost_ret (res_row_val rfl _ _ R _ (c8 zero32) _ _ rfl H5.out Tryz.underlying36 rfl (Tryz.sizeHs _ zero32_length) _ rfl) rfl ⟨rfl, a, HT.out.later H6.out, Grew.of_below g a H6.out⟩

/-- How many bytes these have. -/
def total (l : List (List UInt8)) : Nat := l.flatten.length
/-- Are they not more than are looked at? -/
def lightB (l : List (List UInt8)) : Bool := decide (l.length ≤ 40 ∧ total l ≤ 2000)
end
section
open Go.RowKit

theorem RowsAt.at {w : World} {ad : Option Addr} {n cap : Nat} {rows : List (List (List UInt8))} (h : RowsAt w (.slice ad n cap) rows) (i : Nat) (hi : i < rows.length) :
    ∃ b off u, ad = some ⟨b, off, none⟩ ∧ b < w.heap.size ∧ w.cell? ⟨b, off + i, none⟩ = some u ∧ Rd w hE 32 u rows[i] := by
  obtain ⟨vs, h1, h2, h3⟩ := h
  obtain ⟨b, off, h4, h5, h6⟩ := h1.at i (by omega)
  exact ⟨b, off, vs[i], h4, h5, h6, h3 i _ _ (List.getElem?_eq_getElem (by omega)) (List.getElem?_eq_getElem hi)⟩
theorem RowsAt.shape {w : World} {v : Value} {rows : List (List (List UInt8))} (h : RowsAt w v rows) : ∃ ad cap, v = .slice ad rows.length cap ∧ rows.length ≤ cap ∧ cap ≤ 9223372036854775807 := by
  obtain ⟨vs, h1, h2, _⟩ := h
  rw [← h2]; exact h1.shape
theorem RowsAt.nil (w : World) : RowsAt w (.slice none 0 0) [] := ⟨[], Rd.nil _ _ _, rfl, fun i u r p _ => by simp at p⟩
end
section
open Go.RowKit
end
section
open Go.RowKit

/-- The law's tree, and all else as it was. -/
def TreeOnly (wb : World) (g : Nat) (w' : World) : Prop := ∃ a tx, Tr w' g a tx ∧ tx.length < 100000 ∧ Grew wb g none w' a
/-- The same, with fewer than n texts. -/
def TreeFew (n : Nat) (wb : World) (g : Nat) (w' : World) : Prop := ∃ a tx, Tr w' g a tx ∧ tx.length < n ∧ Grew wb g none w' a
theorem TreeFew.only {n : Nat} {wb w' : World} {g : Nat} (h : TreeFew n wb g w') (hn : n ≤ 100000) : TreeOnly wb g w' := by
  obtain ⟨a, tx, h1, h2, h3⟩ := h; exact ⟨a, tx, h1, by omega, h3⟩
theorem TreeFew.below {n : Nat} {wb w' w'' : World} {g : Nat} (h : TreeFew n wb g w') (hb : Below w'.heap.size w' w'') : TreeFew n wb g w'' := by
  obtain ⟨a, tx, h1, h2, h3⟩ := h; exact ⟨a, tx, h1.later hb, h2, h3.trans (Grew.of_below g a hb)⟩
theorem TreeOnly.keep {wb w' : World} {g : Nat} (h : TreeOnly wb g w') : Keep (· = g) wb w' := by
  obtain ⟨a, tx, _, _, h3⟩ := h
  exact h3.1.mono (fun k _ e => e.elim id (fun e => by cases e))
theorem leafN_le (k : Int) (b : List UInt8) : (leafN k b).length ≤ 1 := by unfold leafN; split <;> simp
end
end Go.Proofs.YtmclmccgghnglaaGreat
