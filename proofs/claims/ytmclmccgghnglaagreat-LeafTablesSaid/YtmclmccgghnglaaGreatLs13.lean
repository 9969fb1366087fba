/- merkle.Depth, why; the reference's Depth, Why. The reference's tree: sum. The reference's tree: Leaf. The reference's tree: Node. -/
import Derived.Test.YtmclmccgghnglaaGreatLs11
import Derived.Test.YtmclmccgghnglaaGreatLsMerkC
import Derived.Test.YtmclmccgghnglaaGreatLsShaV
import Derived.Test.YtmclmccgghnglaaGreatLsOwn
namespace Go.Proofs.YtmclmccgghnglaaGreat
section
open Go.RowKit

theorem bits_half (m : Nat) (h : 0 < m) : bitsN m = bitsN (m / 2) + 1 := bitsN_pos m h
theorem depth_toNat (n : Int) (h : n ≤ 1) : depthF n.toNat = 0 := by unfold depthF; rw [show n.toNat - 1 = 0 by omega, bitsN_zero]
theorem depthF_63 (n : Nat) (h : n ≤ 9223372036854775807) : depthF n ≤ 63 := depthF_le n 63 (Nat.le_trans h (by decide))
theorem depthF_10 (n : Nat) (h : n ≤ 1024) : depthF n ≤ 10 := depthF_le n 10 (Nat.le_trans h (by decide))

set_option maxHeartbeats 1000000 in
theorem mdepth_any (n : Int) (h2 : n < 9223372036854775808) (w : World) : Calls Tryz.prog 23 #[.int .i64 n] w fun e w' => e = .returned (.int .i64 (depthF n.toNat)) ∧ w = w' := by
  by_cases h : n ≤ 1
  · rw [depth_toNat n h]
    rcases (show n = 1 ∨ n < 1 by omega) with rfl | h1
    all_goals
      go_enter Tryz.func23, Tryz.ntmps23
      go_wp2_with fail
      go_loop [0, 3] (fun x y => x = .int .i64 0 ∧ y = .int .i64 0) (fun _ _ => 0)
      case atStart => exact ⟨rfl, rfl⟩
      case round =>
        obtain ⟨rfl, rfl⟩ := hrel
        go_wp2_with fail
        go_ret
        exact ⟨rfl, rfl⟩
  · obtain ⟨m, rfl⟩ := Int.eq_ofNat_of_zero_le (show 0 ≤ n by omega)
    rw [Int.toNat_natCast]
    have hm1 : (1 : Int) < (m : Int) := by omega
    have hm2 : (1 : Int) ≤ (m : Int) := by omega
    have h63 := depthF_63 m (by omega)
    have hst : (m : Int) - 1 = ((m - 1 : Nat) : Int) := by omega
    obtain ⟨D, hD⟩ : ∃ D, D = depthF m := ⟨_, rfl⟩
    rw [← hD] at h63 ⊢
    have HD := Lib.hid hD; have HST := Lib.hid hst
    clear hD hst h
    go_enter Tryz.func23, Tryz.ntmps23
    go_wp2_with fail
    rw [HST.out]
    go_loop [0, 3] (fun x y => ∃ k j : Nat, k ≤ m ∧ x = .int .i64 k ∧ y = .int .i64 j ∧ Hid (j + bitsN k = D)) (fun x _ => (intOf x).toNat)
    case atStart => exact ⟨m - 1, 0, by omega, rfl, rfl, Lib.hid (by rw [HD.out, Nat.zero_add]; rfl)⟩
    case round =>
      obtain ⟨k, j, hk, rfl, rfl, hj⟩ := hrel
      by_cases h0 : 0 < k
      · have hb := bits_half k h0
        have hj2 := hj.out
        have hj3 : j < 63 := by omega
        have hk2 : (k : Int) / 2 = ((k / 2 : Nat) : Int) := by omega
        have HB := Lib.hid hb; have HK2 := Lib.hid hk2
        clear hb hj2 hk2
        go_wp2_with fail
        go_round
        case rel => exact ⟨k / 2, j + 1, by omega, by rw [← HK2.out], by go_num, Lib.hid (by have := HB.out; have := hj.out; omega)⟩
        case measure => simp [intOf]; omega
      · obtain rfl : k = 0 := by omega
        have := hj.out
        rw [bitsN_zero] at this
        obtain rfl : j = D := by omega
        go_wp2_with fail
        go_ret
        exact ⟨rfl, rfl⟩

/-- Why there is no tree; 0: there is one. -/
def whyF (k : Int) (n : Nat) : Int := if k = 1 ∨ k = 2 then (if n = 0 then 8 else if 1024 < n then 19 else 0) else 2
set_option maxHeartbeats 1000000 in
theorem mwhy_any (k : Int) (ad : Option Addr) (n cap : Nat) (w : World) : Calls Tryz.prog 186 #[.int .i64 k, .slice ad n cap] w fun e w' => e = .returned (.int .i64 (whyF k n)) ∧ w = w' := by
  rcases (show (k = 1 ∨ k = 2) ∨ (¬ k = 1 ∧ ¬ k = 2) by omega) with hk | ⟨h1, h2⟩
  · have hkb := kindB_yes hk
    have hw : whyF k n = if n = 0 then 8 else if 1024 < n then 19 else 0 := by unfold whyF; rw [if_pos hk]
    rw [hw]
    clear hk hw
    rcases (show n = 0 ∨ (0 < n ∧ n ≤ 1024) ∨ (0 < n ∧ 1024 < n) by omega) with rfl | ⟨g1, g2⟩ | ⟨g1, g2⟩
    all_goals
      first | rw [if_pos rfl] | rw [if_neg (by omega), if_neg (by omega)] | rw [if_neg (by omega), if_pos (by omega)]
    · go_enter Tryz.func186, Tryz.ntmps186
      go_wp2_with fail
      refine (mis_any _ _).mono ?_
      rintro e w2 ⟨rfl, rfl⟩
      go_wp2_with fail
      go_ret
      exact ⟨rfl, rfl⟩
    all_goals
      have e1 : ((n : Int) == 0) = false := by rw [beq_eq_false_iff_ne]; omega
      go_enter Tryz.func186, Tryz.ntmps186
      go_wp2_with fail
      refine (mis_any _ _).mono ?_
      rintro e w2 ⟨rfl, rfl⟩
      go_wp2_with fail
      go_ret
      exact ⟨rfl, rfl⟩
  · have hkb := kindB_no h1 h2
    have hw : whyF k n = 2 := by unfold whyF; rw [if_neg (by omega)]
    rw [hw]
    clear hw
    go_enter Tryz.func186, Tryz.ntmps186
    go_wp2_with fail
    refine (mis_any _ _).mono ?_
    rintro e w2 ⟨rfl, rfl⟩
    go_wp2_with fail
    go_ret
    exact ⟨rfl, rfl⟩
set_option maxRecDepth 100000 in
set_option maxHeartbeats 1000000 in
theorem tdepth_any (n : Int) (h2 : n < 9223372036854775808) (w : World) : Calls Tryz.prog 24 #[.int .i64 n] w fun e w' => e = .returned (.int .i64 (depthF n.toNat)) ∧ w = w' := by
  by_cases h : n ≤ 0
  · rw [depth_toNat n (by omega)]
    have g1 : decide (n > 0) = false := by simpa using h
    go_enter Tryz.func24, Tryz.ntmps24
    go_wp2_with fail
    go_loop [3, 4] (fun x y => x = .int .i64 0 ∧ y = .int .u64 1) (fun _ _ => 0)
    case atStart => exact ⟨rfl, rfl⟩
    case round =>
      obtain ⟨rfl, rfl⟩ := hrel
      go_wp2_with fail
      go_ret
      exact ⟨rfl, rfl⟩
  · obtain ⟨m, hm⟩ : ∃ m, m = n.toNat := ⟨_, rfl⟩
    have h63 := depthF_63 m (by omega)
    have hlt := depthF_lt m
    have hge := depthF_ge m
    rw [← hm]
    obtain ⟨D, hD⟩ : ∃ D, D = depthF m := ⟨_, rfl⟩
    rw [← hD] at h63 hlt hge ⊢
    have HLT := Lib.hid hlt; have HM := Lib.hid hm
    have g0 : 0 < n := by omega
    have g1 : 0 ≤ n := by omega
    clear hD hlt h hm
    go_enter Tryz.func24, Tryz.ntmps24
    go_wp2_with fail
    go_loop [3, 4] (fun x y => ∃ j s : Nat, j ≤ D ∧ Hid (s = 2 ^ j) ∧ x = .int .i64 j ∧ y = .int .u64 s) (fun x _ => D - (intOf x).toNat)
    case atStart => exact ⟨0, 1, by omega, Lib.hid rfl, rfl, rfl⟩
    case round =>
      obtain ⟨j, s, hj, hs, rfl, rfl⟩ := hrel
      by_cases hjD : j < D
      · have hsm : s < m := by rw [hs.out]; exact HLT.out j hjD
        have hs2 : (s : Int) < n := by have := HM.out; omega
        have HSM := Lib.hid hsm; clear hsm
        go_wp2_with fail
        go_round
        case rel => exact ⟨j + 1, 2 * s, by omega, Lib.hid (by rw [hs.out, Nat.pow_succ]; omega), by go_num, by go_num⟩
        case measure => simp [intOf]; omega
      · obtain rfl : j = D := by omega
        have hsm : m ≤ s := by rw [hs.out]; exact hge
        have hs2 : n ≤ (s : Int) := by have := HM.out; omega
        go_wp2_with fail
        go_ret
        exact ⟨rfl, rfl⟩
set_option maxHeartbeats 1000000 in
theorem twhy_any (k : Int) (ad : Option Addr) (n cap : Nat) (w : World) : Calls Tryz.prog 188 #[.int .i64 k, .slice ad n cap] w fun e w' => e = .returned (.int .i64 (whyF k n)) ∧ w = w' := by
  rcases (show (k = 1 ∨ k = 2) ∨ (¬ k = 1 ∧ ¬ k = 2) by omega) with hk | ⟨h1, h2⟩
  · have hw : whyF k n = if n = 0 then 8 else if 1024 < n then 19 else 0 := by unfold whyF; rw [if_pos hk]
    rw [hw]
    clear hw
    rcases (show n = 0 ∨ (0 < n ∧ n ≤ 1024) ∨ (0 < n ∧ 1024 < n) by omega) with rfl | ⟨g1, g2⟩ | ⟨g1, g2⟩
    all_goals
      first | rw [if_pos rfl] | rw [if_neg (by omega), if_neg (by omega)] | rw [if_neg (by omega), if_pos (by omega)]
    · rcases hk with rfl | rfl
      all_goals
        go_enter Tryz.func188, Tryz.ntmps188
        go_wp2_with fail
        go_ret
        exact ⟨rfl, rfl⟩
    all_goals
      have e1 : ((n : Int) == 0) = false := by rw [beq_eq_false_iff_ne]; omega
      rcases hk with rfl | rfl
      all_goals
        go_enter Tryz.func188, Tryz.ntmps188
        go_wp2_with fail
        go_ret
        exact ⟨rfl, rfl⟩
  · have hw : whyF k n = 2 := by unfold whyF; rw [if_neg (by omega)]
    rw [hw]
    have b1 : (k != 1) = true := by simpa using h1
    have b2 : (k != 2) = true := by simpa using h2
    clear hw
    go_enter Tryz.func188, Tryz.ntmps188
    go_wp2_with fail
    go_ret
    exact ⟨rfl, rfl⟩
end
section
open Go.RowKit

/-- The slice lies in a block of bytes, or nowhere. -/
def ByteBlk (w : World) (u : Value) : Prop := ∀ k, u.ownBlock = some k → ∃ cs fr, w.heap[k]? = some (.cells cs 5 fr)
theorem ByteBlk.keep {w w' : World} {u : Value} {S : Nat → Prop} (h : ByteBlk w u) (k : Keep S w w') (hn : ∀ x cs fr, w.heap[x]? = some (.cells cs 5 fr) → ¬ S x) : ByteBlk w' u := fun x hx => by
  obtain ⟨cs, fr, h1⟩ := h x hx
  exact ⟨cs, fr, k.at h1 (hn x cs fr h1)⟩
/-- Behind the pointer to block g stands a tree that has noted these texts, its list in block a. -/
def Tr (w : World) (g : Nat) (a : Option Nat) (texts : List (List UInt8)) : Prop :=
  ∃ (v : Value) (vs : List Value), w.heap[g]? = some (.cells #[v] 28 (0, 0)) ∧ Own w 0 100 slE 1 v vs ∧ v.ownBlock = a ∧ vs.length = texts.length ∧
    ∀ (i : Nat) u l, vs[i]? = some u → texts[i]? = some l → Rd w u8E 1 u l ∧ ByteBlk w u
/-- Of the tree's blocks and new ones alone have any turned. -/
def Grew (w : World) (g : Nat) (a : Option Nat) (w' : World) (a' : Option Nat) : Prop :=
  Keep (fun k => k = g ∨ a = some k) w w' ∧ (a' = a ∨ ∃ k, a' = some k ∧ w.heap.size ≤ k)
theorem Grew.of_below {w w' : World} (g : Nat) (a : Option Nat) (h : Below w.heap.size w w') : Grew w g a w' a := ⟨Keep.of_below h, .inl rfl⟩
theorem Grew.trans {w w1 w2 : World} {g : Nat} {a a1 a2 : Option Nat} (h : Grew w g a w1 a1) (k : Grew w1 g a1 w2 a2) : Grew w g a w2 a2 := by
  obtain ⟨h1, h2⟩ := h
  obtain ⟨k1, k2⟩ := k
  refine ⟨h1.then k1 fun x hx => ?_, ?_⟩
  · rcases hx with hx | hx
    · exact .inl (.inl hx)
    · rcases h2 with h2 | ⟨y, h2, h3⟩
      · exact .inl (.inr (h2 ▸ hx))
      · rw [h2] at hx; cases hx; exact .inr h3
  · rcases k2 with k2 | ⟨y, k2, k3⟩
    · rw [k2]; exact h2
    · exact .inr ⟨y, k2, Nat.le_trans h1.size k3⟩
theorem Tr.lt {w : World} {g : Nat} {a : Option Nat} {texts : List (List UInt8)} (h : Tr w g a texts) : g < w.heap.size ∧ ∀ k, a = some k → k < w.heap.size := by
  obtain ⟨v, vs, h1, h2, h3, _⟩ := h
  exact ⟨heap_lt h1, fun k hk => (h2.lt k (by rw [h3]; exact hk)).2⟩
theorem Tr.later {w w' : World} {g : Nat} {a : Option Nat} {texts : List (List UInt8)} (h : Tr w g a texts) (hb : Below w.heap.size w w') : Tr w' g a texts := by
  obtain ⟨v, vs, h1, h2, h3, h4, h5⟩ := h
  exact ⟨v, vs, (hb.block g (heap_lt h1)).trans h1, h2.later hb, h3, h4, fun i u l p q => ⟨(h5 i u l p q).1.later hb, (h5 i u l p q).2.keep (S := fun _ => False) (Keep.of_below hb) (fun _ _ _ _ e => e)⟩⟩
/-- What a call on a tree leaves. -/
def TrRet (w : World) (g : Nat) (a : Option Nat) (texts : List (List UInt8)) (v : Value) (e : Ending) (w' : World) : Prop := e = .returned v ∧ ∃ a', Tr w' g a' texts ∧ Grew w g a w' a'
theorem Tryz.infoSl : (Tryz.prog.info? 100).map (fun i => (i.zero, i.size, i.bytes)) = some (some (.slice none 0 0), 1, 24) := by kernel_rfl
theorem Own.shape1 {w : World} {B : Nat} {e : TypeId} {v : Value} {l : List Value} (h : Own w B e slE 1 v l) : ∃ ad cap, v = .slice ad l.length cap := by
  obtain ⟨ad, cap, h, _⟩ := (h.rd slE_len).shape; exact ⟨ad, cap, h⟩
theorem Own.type {α : Type} {w : World} {B : Nat} {e T : TypeId} {enc : α → List Value} {sz : Nat} {v : Value} {l : List α} (h : Own w B e enc sz v l) {g : Nat} {cs : Array Value} {fr : Nat × Nat} (hg : w.heap[g]? = some (.cells cs T fr)) (hT : T ≠ e) : v.ownBlock ≠ some g := by
  intro hv
  rcases h.2 with ⟨h, _⟩ | ⟨g', cap', cur, h, _, hh, _⟩
  · rw [h] at hv; simp [Value.ownBlock] at hv
  · rw [h] at hv
    simp [Value.ownBlock] at hv
    subst hv
    rw [hg] at hh
    simp at hh
    exact hT hh.2.1
theorem Own.at {α : Type} {w : World} {B : Nat} {e : TypeId} {enc : α → List Value} {sz : Nat} {v : Value} {l : List α} (h : Own w B e enc sz v l) {k : Nat} (hk : v.ownBlock = some k) : ∃ cs fr, w.heap[k]? = some (.cells cs e fr) := by
  rcases h.2 with ⟨h, _⟩ | ⟨g', cap', cur, h, _, hh, _⟩
  · rw [h] at hk; simp [Value.ownBlock] at hk
  · rw [h] at hk
    simp [Value.ownBlock] at hk
    subst hk
    exact ⟨_, _, hh⟩
/-- A tree, when a block of another type has turned. -/
theorem Tr.keep {w w' : World} {g : Nat} {a : Option Nat} {texts : List (List UInt8)} {S : Nat → Prop} (h : Tr w g a texts) (k : Keep S w w') (hS : ∀ x cs T fr, w.heap[x]? = some (.cells cs T fr) → S x → T ≠ 5 ∧ T ≠ 100 ∧ T ≠ 28) : Tr w' g a texts := by
  obtain ⟨v, vs, h1, h2, h3, h4, h5⟩ := h
  refine ⟨v, vs, k.at h1 (fun e => (hS _ _ _ _ h1 e).2.2 rfl), h2.keep k (fun x hx e => ?_), h3, h4, fun i u l p q => ?_⟩
  · obtain ⟨cs, fr, h6⟩ := h2.at hx
    exact (hS _ _ _ _ h6 e).2.1 rfl
  · obtain ⟨r1, r2⟩ := h5 i u l p q
    refine ⟨r1.keep k fun x hx _ e => ?_, r2.keep k fun x cs fr h6 e => (hS _ _ _ _ h6 e).1 rfl⟩
    obtain ⟨cs, fr, h6⟩ := r2 x hx
    exact (hS _ _ _ _ h6 e).1 rfl
theorem Tr.keep1 {w w' : World} {g R : Nat} {a : Option Nat} {texts : List (List UInt8)} (h : Tr w g a texts) (k : Keep (· = R) w w') {cs : Array Value} {T : TypeId} {fr : Nat × Nat} (hR : w.heap[R]? = some (.cells cs T fr)) (hT : T ≠ 5 ∧ T ≠ 100 ∧ T ≠ 28) : Tr w' g a texts :=
  h.keep k fun x cs' T' fr' h1 e => by
    subst e
    rw [hR] at h1
    simp at h1
    rw [← h1.2.1]; exact hT
/-- The tree has a text more, and its blocks and new ones alone have turned. -/
theorem tr_more {w w' : World} {g : Nat} {texts : List (List UInt8)} {v v' u : Value} {vs : List Value} {b : List UInt8} (h1 : w.heap[g]? = some (.cells #[v] 28 (0, 0))) (h2 : Own w 0 100 slE 1 v vs)
    (h4 : vs.length = texts.length) (h5 : ∀ (i : Nat) u l, vs[i]? = some u → texts[i]? = some l → Rd w u8E 1 u l ∧ ByteBlk w u)
    (hu : Rd w u8E 1 u b) (hub : ByteBlk w u) (hk : Keep (fun k => k = g ∨ v.ownBlock = some k) w w') (hh : w'.heap[g]? = some (.cells #[v'] 28 (0, 0)))
    (hown : Own w' 0 100 slE 1 v' (vs ++ [u])) : Tr w' g v'.ownBlock (texts ++ [b]) := by
  have hS : ∀ x cs fr, w.heap[x]? = some (.cells cs 5 fr) → ¬ (x = g ∨ v.ownBlock = some x) := by
    rintro x cs fr h6 (rfl | e)
    · rw [h1] at h6; simp at h6
    · exact h2.type h6 (by decide) e
  have key : ∀ u l, Rd w u8E 1 u l → ByteBlk w u → Rd w' u8E 1 u l ∧ ByteBlk w' u := by
    intro u l r1 r2
    refine ⟨r1.keep hk fun x hx _ e => ?_, r2.keep hk hS⟩
    obtain ⟨cs, fr, h6⟩ := r2 x hx
    exact hS x cs fr h6 e
  refine ⟨v', vs ++ [u], hh, hown, rfl, by simp [h4], fun i x l p q => ?_⟩
  rcases Nat.lt_or_ge i vs.length with hi | hi
  · rw [List.getElem?_append_left hi] at p
    rw [List.getElem?_append_left (by omega)] at q
    exact key x l (h5 i x l p q).1 (h5 i x l p q).2
  · rw [List.getElem?_append_right hi] at p
    rw [List.getElem?_append_right (by omega), ← h4] at q
    match hj : i - vs.length, p, q with
    | 0, p, q => simp at p q; subst p; subst q; exact key u b hu hub
    | j + 1, p, q => simp at p

set_option maxRecDepth 100000 in
set_option maxHeartbeats 1000000 in
theorem tsum_any (w : World) (g : Nat) (a : Option Nat) (texts : List (List UInt8)) (b : List UInt8) (u : Value) (hb : Rd w u8E 1 u b) (hl : b.length < 1099511627776) (ht : Tr w g a texts)
    (hub : ByteBlk w u) (hn : texts.length < 1000000000) :
    Calls Tryz.prog 289 #[.pointer (some ⟨g, 0, none⟩), u] w (TrRet w g a (texts ++ [b]) (.agg (c8 (shaF b)))) := by
  obtain ⟨v, vs, h1, h2, rfl, h4, h5⟩ := ht
  obtain ⟨ad, cap, rfl⟩ := h2.shape1
  obtain ⟨ub, ucap, rfl, _⟩ := hb.shape
  have H5 := Lib.hid h5; have HB := Lib.hid hb; have H1 := Lib.hid h1; have H2 := Lib.hid h2; have HUB := Lib.hid hub; have H4 := Lib.hid h4
  clear h5 hb h1 h2 hub h4
  go_enter Tryz.func289, Tryz.ntmps289
  go_wp2_with (refine wpList_alloc_g rfl _ rfl _ _ Tryz.zeroHash rfl ?_)
  intro R w1 hR1
  have hg1 := (hR1.out.below.block g (heap_lt H1.out)).trans H1.out
  have hgR : g < R := by have := heap_lt H1.out; have := hR1.out.eq; omega
  have q := Lib.cell_of_heap hg1 0
  simp only [List.getElem?_toArray, List.getElem?_cons_zero] at q
  have HG1 := Lib.hid hg1
  clear hg1
  have hown1 := H2.out.later hR1.out.below
  have hlen : vs.length + 1 ≤ maxLen := by have := H4.out; unfold maxLen; omega
  have hbytes : (vs.length + 1) * 24 ≤ 140737488355328 := by have := H4.out; omega
  have HO := Lib.hid hown1; have HL := Lib.hid hlen; have HBY := Lib.hid hbytes
  clear hown1 hlen hbytes
  go_wp2_with (at_builtin; refine own_app rfl _ _ _ rfl Tryz.underlying26 Tryz.infoSl rfl (by omega) (B := 0) (base := 0) (w0 := w) (.slice ub b.length ucap) HO.out rfl rfl rfl rfl (by simp [slE, Value.oneCell']) HL.out HBY.out (hR1.out.below.mono (Nat.zero_le _)) (Nat.zero_le _) (Nat.zero_le _) (Nat.zero_le _) ?_)
  intro v' w2 hown2 _ hgr2 hm2
  obtain ⟨ad', cap', hv'⟩ := hown2.shape1
  obtain ⟨N, hN⟩ : ∃ N, N = (vs ++ [Value.slice ub b.length ucap]).length := ⟨_, rfl⟩
  rw [← hN] at hv'
  subst hv'
  clear hN
  have hR1lt := heap_lt hR1.out.cells
  have hg2 : w2.heap[g]? = some (.cells #[.slice ad vs.length cap] 28 (0, 0)) := by
    rw [hgr2.block g (heap_lt HG1.out) ?_]
    · exact HG1.out
    · exact fun e => HO.out.type HG1.out (by decide) e.symm
  have hR2 : w2.heap[R]? = some (.cells (cB 32 []) 36 (0, 0)) := by
    rw [hgr2.block R hR1lt ?_]
    · exact hR1.out.cells
    · intro e
      have := (H2.out.lt R e.symm).2
      have := hR1.out.eq
      omega
  have hk2 : Keep (fun k => k = g ∨ Value.ownBlock (.slice ad vs.length cap) = some k) w w2 := (Keep.of_below hR1.out.below).then (S' := fun k => Value.ownBlock (.slice ad vs.length cap) = some k) ⟨hgr2.os, hgr2.tape, hgr2.output, hgr2.size, fun k hk hn => hgr2.block k hk (fun e => hn e.symm)⟩ (fun x hx => .inl (.inr hx))
  have hmv : Value.ownBlock (.slice ad' N cap') = Value.ownBlock (.slice ad vs.length cap) ∨ ∃ k, Value.ownBlock (.slice ad' N cap') = some k ∧ w.heap.size ≤ k := by
    rcases hm2 with ⟨h, _⟩ | ⟨k, h, h2⟩
    · exact .inl h
    · exact .inr ⟨k, h, Nat.le_trans hR1.out.below.size h2⟩
  have hap : Value.ownBlock (.slice ad' N cap') ≠ some R ∧ Value.ownBlock (.slice ad' N cap') ≠ some g := by
    constructor
    · rcases hm2 with ⟨h, _⟩ | ⟨k, h, h2⟩
      · rw [h]; intro e
        have := (H2.out.lt R e).2
        have := hR1.out.eq
        omega
      · rw [h]; intro e; cases e; omega
    · exact hown2.type hg2 (by decide)
  have HOWN2 := Lib.hid hown2; have HG2 := Lib.hid hg2; have HR2 := Lib.hid hR2; have HK2 := Lib.hid hk2; have HMV := Lib.hid hmv; have HAP := Lib.hid hap
  have hz12 : w1.heap.size ≤ w2.heap.size := hgr2.size
  clear hown2 hg2 hR2 hk2 hmv hap hgr2 hm2 q
  have HWR := Lib.hid hR1.out.eq; have HB1 := Lib.hid hR1.out.below
  clear hR1 HO HG1
  go_wp2_with (refine wpList_store1_g rfl 26 _ _ rfl g 0 (.slice ad' N cap') rfl rfl rfl rfl 28 _ HG2.out (by kernel_rfl) (by simp) _ rfl ?_)
  intro w3 h3 k3 z3
  have hown3 := HOWN2.out.keep k3 (fun k hk e => HAP.out.2 (by rw [hk, e]))
  have hR3 := k3.at HR2.out (by omega)
  have hk3 := HK2.out.then k3 (fun x hx => .inl (.inl hx))
  have hrb : Rd w3 u8E 1 (.slice ub b.length ucap) b := HB.out.keep hk3 (fun k hk hl e => by
    obtain ⟨cs, fr, h6⟩ := HUB.out k hk
    rcases e with e | e
    · subst e; have := H1.out; rw [this] at h6; simp at h6
    · exact H2.out.type h6 (by decide) e)
  have HOWN3 := Lib.hid hown3; have HR3 := Lib.hid hR3; have HK3 := Lib.hid hk3; have H3 := Lib.hid h3; have HRB := Lib.hid hrb
  clear hown3 hR3 hk3 h3 k3 z3 hrb HOWN2 HG2 HR2 HK2
  go_wp2_with fail
  refine (refSum_any _ b _ HRB.out (by omega)).mono ?_
  rintro e w4 ⟨rfl, hb4⟩
  have hown4 := HOWN3.out.later hb4
  have hR4 := (hb4.block R (heap_lt HR3.out)).trans HR3.out
  have hg4 := (hb4.block g (heap_lt H3.out)).trans H3.out
  have hk4 := HK3.out.then_below hb4
  have HOWN4 := Lib.hid hown4; have HR4 := Lib.hid hR4; have HG4 := Lib.hid hg4; have HK4 := Lib.hid hk4
  clear hown4 hR4 hg4 hk4 hb4 HOWN3 HR3 H3 HK3 HRB
  go_wp2_with (refine wpList_store_row_g (t := 36) (old := cB 32 []) rfl 36 _ _ rfl R (c8 (shaF b)) rfl rfl HR4.out (Tryz.sizeHs _ (shaF_length _)) (by rw [c8_size, shaF_length]; rfl) (by rw [← cB_full 32 _ (shaF_length _)]; exact one_b _ _) ?_)
  intro w5 h5 k5 z5
  have hk5 := HK4.out.then k5 (fun x hx => .inr (by have := HWR.out; omega))
  have hg5 := k5.at HG4.out (by omega)
  have hown5 := HOWN4.out.keep k5 (fun k hk e => HAP.out.1 (by rw [hk, e]))
  have HF : Hid (Tr w5 g _ (texts ++ [b])) := Lib.hid (tr_more H1.out H2.out H4.out H5.out HB.out HUB.out hk5 hg5 hown5)
  have HKF := Lib.hid hk5
  have HH5 := Lib.hid h5
  clear hk5 hg5 hown5 h5 k5 z5 HOWN4 HR4 HG4 HK4
  go_wp2_with fail
  exact bodyPost_ret (results_cell_row rfl _ _ R _ (c8 (shaF b)) _ _ rfl HH5.out Tryz.underlying36 rfl (Tryz.sizeHs _ (shaF_length _))) rfl ⟨rfl, _, HF.out, HKF.out, HMV.out⟩
end
section
open Go.RowKit

def leafN (k : Int) (b : List UInt8) : List (List UInt8) := if k = 1 ∨ k = 2 then [leafT k.toNat b] else []
def nodeN (k : Int) (a b : List UInt8) : List (List UInt8) := if k = 1 ∨ k = 2 then [nodeT k.toNat a b] else []
theorem Grew.from {w w1 w2 : World} {g : Nat} {a a2 : Option Nat} (h : Below w.heap.size w w1) (k : Grew w1 g a w2 a2) : Grew w g a w2 a2 := (Grew.of_below g a h).trans k
theorem Grew.to {w w1 w2 : World} {g : Nat} {a a1 : Option Nat} (h : Grew w g a w1 a1) {R : Nat} (hR : w.heap.size ≤ R) (k : Keep (· = R) w1 w2) : Grew w g a w2 a1 := ⟨h.1.then k (fun x hx => .inr (by omega)), h.2⟩
theorem Own.bytes {w : World} {B : Nat} {v : Value} {l : List UInt8} (h : Own w B 5 u8E 1 v l) : ByteBlk w v := fun _ hk => h.at hk

set_option maxRecDepth 100000 in
set_option maxHeartbeats 1000000 in
theorem tleaf_any (w : World) (g : Nat) (a : Option Nat) (texts : List (List UInt8)) (k : Int) (b : List UInt8) (u : Value) (hb : Rd w u8E 1 u b) (hl : b.length < 1000000000000) (ht : Tr w g a texts) (hn : texts.length < 1000000000) :
    Calls Tryz.prog 195 #[.pointer (some ⟨g, 0, none⟩), .int .i64 k, u] w (TrRet w g a (texts ++ leafN k b) (.agg (c8 (leafK k b)))) := by
  obtain ⟨ad, cap, rfl, hc1, hc2⟩ := hb.shape
  have H := Lib.hid hb; have HT := Lib.hid ht; clear hb ht
  rcases kind_cases k with rfl | rfl | ⟨h1, h2⟩
  case inr.inr =>
    have he : leafK k b = zero32 := by unfold leafK; rw [if_neg (by omega)]
    have hen : leafN k b = [] := by unfold leafN; rw [if_neg (by omega)]
    rw [he, hen, List.append_nil]
    have b1 : (k != 1) = true := by simpa using h1
    have b2 : (k != 2) = true := by simpa using h2
    clear he hen
    go_enter Tryz.func195, Tryz.ntmps195
    go_wp2_with (refine wpList_alloc_g rfl _ rfl _ _ Tryz.zeroHash rfl ?_)
    intro R w1 h1
    go_wp2_with (refine wpList_store_row_g (t := 36) (old := cB 32 []) rfl 36 _ _ rfl R (c8 zero32) rfl rfl h1.out.cells (Tryz.sizeHs _ zero32_length) (by rw [c8_size, zero32_length]; rfl) (by rw [← cB_full 32 _ zero32_length]; exact one_b _ _) ?_)
    intro w5 h5 k5 z5
    have H5 := Lib.hid h5
    have H6 := Lib.hid (k5.onto h1.out.below (Nat.le_refl _) (by have := h1.out.eq; omega))
    clear h5 k5 z5
    go_wp2_with fail
    exact bodyPost_ret (results_cell_row rfl _ _ R _ (c8 zero32) _ _ rfl H5.out Tryz.underlying36 rfl (Tryz.sizeHs _ zero32_length)) rfl ⟨rfl, a, HT.out.later H6.out, Grew.of_below g a H6.out⟩
  case inl =>
    have he : leafK 1 b = shaF (2 :: b) := rfl
    have hen : leafN 1 b = [2 :: b] := rfl
    rw [he, hen]
    clear he hen
    go_enter Tryz.func195, Tryz.ntmps195
    go_wp2_with (refine wpList_alloc_g rfl _ rfl _ _ Tryz.zeroHash rfl ?_)
    intro R w1 h1
    have hn1 : (w1.alloc (.cells #[.int .u8 2] 5)).heap[w1.heap.size]? = some (.cells #[.int .u8 2] 5 (0, 0)) := heap_alloc_new _ _
    have hrd1 := (H.out.later h1.out.below).alloc (.cells #[.int .u8 2] 5)
    have ho1 : Own (w1.alloc (.cells #[.int .u8 2] 5)) w.heap.size 5 u8E 1 (.slice (some ⟨w1.heap.size, 0, none⟩) 1 1) [2] := own_new1 hn1 rfl h1.out.below.size
    have HRD := Lib.hid hrd1; have HO := Lib.hid ho1
    clear hrd1 ho1 hn1
    go_wp2_with (at_builtin; refine own_apps rfl _ _ _ rfl Tryz.underlying100 Tryz.infoU8 rfl (by omega) (fun _ => rfl) u8E_one HO.out rfl _ rfl HRD.out (by unfold maxLen; simp; omega) (by simp; omega) (B := w.heap.size) (w0 := w) (h1.out.below.alloc h1.out.below.size _) (Nat.le_refl _) (by have := h1.out.below.size; simp; omega) ?_)
    intro v' w2 hown2 hb2 hgr2
    have hR2 : w2.heap[R]? = some (.cells (cB 32 []) 36 (0, 0)) := (hgr2.block R (by have := heap_lt h1.out.cells; simp; omega) (by have := heap_lt h1.out.cells; simp [Value.ownBlock]; omega)).trans ((Below.heap_alloc _ _ _ (heap_lt h1.out.cells)).trans h1.out.cells)
    have hrd2 := hown2.rd (fun _ => rfl)
    have hbb2 := hown2.bytes
    have ht2 := HT.out.later hb2
    obtain ⟨ad', cap', hv', _⟩ := hrd2.shape
    have hln : (2 :: b).length = b.length + 1 := by simp
    rw [hln] at hv'
    subst hv'
    have HR2 := Lib.hid hR2; have HRD2 := Lib.hid hrd2; have HBB2 := Lib.hid hbb2; have HT2 := Lib.hid ht2; have HB2 := Lib.hid hb2; have HWR := Lib.hid h1.out.eq
    clear hown2 hb2 hgr2 hR2 hrd2 hbb2 ht2 HRD HO h1 hln
    go_wp2_with fail
    refine (tsum_any w2 g a texts _ _ HRD2.out (by simp; omega) HT2.out HBB2.out hn).mono ?_
    rintro e w3 ⟨rfl, a3, ht3, hg3⟩
    have hR3 := hg3.1.at HR2.out (by
      have := HWR.out; have := HT.out.lt
      rintro (e | e)
      · omega
      · have := this.2 _ e; omega)
    have HR3 := Lib.hid hR3; have HT3 := Lib.hid ht3; have HG3 := Lib.hid (Grew.from HB2.out hg3)
    clear hR3 ht3 hg3 HRD2 HBB2 HT2 HR2
    go_wp2_with (refine wpList_store_row_g (t := 36) (old := cB 32 []) rfl 36 _ _ rfl R (c8 (shaF (2 :: b))) rfl rfl HR3.out (Tryz.sizeHs _ (shaF_length _)) (by rw [c8_size, shaF_length]; rfl) (by rw [← cB_full 32 _ (shaF_length _)]; exact one_b _ _) ?_)
    intro w5 h5 k5 z5
    have ht5 := HT3.out.keep1 k5 HR3.out (by decide)
    have hg5 := HG3.out.to (by have := HWR.out; omega) k5
    have H5 := Lib.hid h5; have HT5 := Lib.hid ht5; have HG5 := Lib.hid hg5
    clear h5 k5 z5 ht5 hg5 HT3 HG3 HR3
    go_wp2_with fail
    exact bodyPost_ret (results_cell_row rfl _ _ R _ (c8 (shaF (2 :: b))) _ _ rfl H5.out Tryz.underlying36 rfl (Tryz.sizeHs _ (shaF_length _))) rfl ⟨rfl, a3, HT5.out, HG5.out⟩
  case inr.inl =>
    have he : leafK 2 b = shaF (4 :: b) := rfl
    have hen : leafN 2 b = [4 :: b] := rfl
    rw [he, hen]
    clear he hen
    go_enter Tryz.func195, Tryz.ntmps195
    go_wp2_with (refine wpList_alloc_g rfl _ rfl _ _ Tryz.zeroHash rfl ?_)
    intro R w1 h1
    have hn1 : (w1.alloc (.cells #[.int .u8 4] 5)).heap[w1.heap.size]? = some (.cells #[.int .u8 4] 5 (0, 0)) := heap_alloc_new _ _
    have hrd1 := (H.out.later h1.out.below).alloc (.cells #[.int .u8 4] 5)
    have ho1 : Own (w1.alloc (.cells #[.int .u8 4] 5)) w.heap.size 5 u8E 1 (.slice (some ⟨w1.heap.size, 0, none⟩) 1 1) [4] := own_new1 hn1 rfl h1.out.below.size
    have HRD := Lib.hid hrd1; have HO := Lib.hid ho1
    clear hrd1 ho1 hn1
    go_wp2_with (at_builtin; refine own_apps rfl _ _ _ rfl Tryz.underlying100 Tryz.infoU8 rfl (by omega) (fun _ => rfl) u8E_one HO.out rfl _ rfl HRD.out (by unfold maxLen; simp; omega) (by simp; omega) (B := w.heap.size) (w0 := w) (h1.out.below.alloc h1.out.below.size _) (Nat.le_refl _) (by have := h1.out.below.size; simp; omega) ?_)
    intro v' w2 hown2 hb2 hgr2
    have hR2 : w2.heap[R]? = some (.cells (cB 32 []) 36 (0, 0)) := (hgr2.block R (by have := heap_lt h1.out.cells; simp; omega) (by have := heap_lt h1.out.cells; simp [Value.ownBlock]; omega)).trans ((Below.heap_alloc _ _ _ (heap_lt h1.out.cells)).trans h1.out.cells)
    have hrd2 := hown2.rd (fun _ => rfl)
    have hbb2 := hown2.bytes
    have ht2 := HT.out.later hb2
    obtain ⟨ad', cap', hv', _⟩ := hrd2.shape
    have hln : (4 :: b).length = b.length + 1 := by simp
    rw [hln] at hv'
    subst hv'
    have HR2 := Lib.hid hR2; have HRD2 := Lib.hid hrd2; have HBB2 := Lib.hid hbb2; have HT2 := Lib.hid ht2; have HB2 := Lib.hid hb2; have HWR := Lib.hid h1.out.eq
    clear hown2 hb2 hgr2 hR2 hrd2 hbb2 ht2 HRD HO h1 hln
    go_wp2_with fail
    refine (tsum_any w2 g a texts _ _ HRD2.out (by simp; omega) HT2.out HBB2.out hn).mono ?_
    rintro e w3 ⟨rfl, a3, ht3, hg3⟩
    have hR3 := hg3.1.at HR2.out (by
      have := HWR.out; have := HT.out.lt
      rintro (e | e)
      · omega
      · have := this.2 _ e; omega)
    have HR3 := Lib.hid hR3; have HT3 := Lib.hid ht3; have HG3 := Lib.hid (Grew.from HB2.out hg3)
    clear hR3 ht3 hg3 HRD2 HBB2 HT2 HR2
    go_wp2_with (refine wpList_store_row_g (t := 36) (old := cB 32 []) rfl 36 _ _ rfl R (c8 (shaF (4 :: b))) rfl rfl HR3.out (Tryz.sizeHs _ (shaF_length _)) (by rw [c8_size, shaF_length]; rfl) (by rw [← cB_full 32 _ (shaF_length _)]; exact one_b _ _) ?_)
    intro w5 h5 k5 z5
    have ht5 := HT3.out.keep1 k5 HR3.out (by decide)
    have hg5 := HG3.out.to (by have := HWR.out; omega) k5
    have H5 := Lib.hid h5; have HT5 := Lib.hid ht5; have HG5 := Lib.hid hg5
    clear h5 k5 z5 ht5 hg5 HT3 HG3 HR3
    go_wp2_with fail
    exact bodyPost_ret (results_cell_row rfl _ _ R _ (c8 (shaF (4 :: b))) _ _ rfl H5.out Tryz.underlying36 rfl (Tryz.sizeHs _ (shaF_length _))) rfl ⟨rfl, a3, HT5.out, HG5.out⟩
end
section
open Go.RowKit

theorem Own.slice {α : Type} {w : World} {B : Nat} {e : TypeId} {enc : α → List Value} {sz : Nat} {v : Value} {l : List α} (h : Own w B e enc sz v l) : ∃ ad n cap, v = .slice ad n cap := by
  rcases h.2 with ⟨h, _⟩ | ⟨g', cap', cur, h, _⟩
  · exact ⟨_, _, _, h⟩
  · exact ⟨_, _, _, h⟩
set_option maxRecDepth 100000 in
set_option maxHeartbeats 2000000 in
theorem tnode_any (w : World) (g : Nat) (ar : Option Nat) (texts : List (List UInt8)) (k : Int) (a b : List UInt8) (ha : a.length = 32) (hb : b.length = 32) (ht : Tr w g ar texts) (hn : texts.length < 1000000000) :
    Calls Tryz.prog 287 #[.pointer (some ⟨g, 0, none⟩), .int .i64 k, .agg (c8 a), .agg (c8 b)] w (TrRet w g ar (texts ++ nodeN k a b) (.agg (c8 (nodeK k a b)))) := by
  have HA := Lib.hid ha; have HB := Lib.hid hb; have HT := Lib.hid ht; clear ha hb ht
  rcases kind_cases k with rfl | rfl | ⟨h1, h2⟩
  case inr.inr =>
    have he : nodeK k a b = zero32 := by unfold nodeK; rw [if_neg (by omega)]
    have hen : nodeN k a b = [] := by unfold nodeN; rw [if_neg (by omega)]
    rw [he, hen, List.append_nil]
    have b1 : (k != 1) = true := by simpa using h1
    have b2 : (k != 2) = true := by simpa using h2
    clear he hen
    go_enter Tryz.func287, Tryz.ntmps287
    go_wp2_with (refine wpList_alloc_g rfl _ rfl _ _ Tryz.zeroHash rfl ?_)
    intro R w1 h1
    have h0 : Below w.heap.size w w1 := ((Below.refl _ _).alloc (Nat.le_refl _) _ |>.alloc (by simp) _).trans (h1.out.below.mono (by simp; omega))
    go_wp2_with (refine wpList_store_row_g (t := 36) (old := cB 32 []) rfl 36 _ _ rfl R (c8 zero32) rfl rfl h1.out.cells (Tryz.sizeHs _ zero32_length) (by rw [c8_size, zero32_length]; rfl) (by rw [← cB_full 32 _ zero32_length]; exact one_b _ _) ?_)
    intro w5 h5 k5 z5
    have H5 := Lib.hid h5
    have H6 := Lib.hid (k5.onto h0 (Nat.le_refl _) (by have := h1.out.eq; simp at this; omega))
    clear h5 k5 z5 h0
    go_wp2_with fail
    exact bodyPost_ret (results_cell_row rfl _ _ R _ (c8 zero32) _ _ rfl H5.out Tryz.underlying36 rfl (Tryz.sizeHs _ zero32_length)) rfl ⟨rfl, ar, HT.out.later H6.out, Grew.of_below g ar H6.out⟩
  case inl =>
    obtain ⟨tx, htx⟩ : ∃ tx, tx = (3 : UInt8) :: (a ++ b) := ⟨_, rfl⟩
    have he : nodeK 1 a b = shaF tx := by rw [htx]; rfl
    have hen : nodeN 1 a b = [tx] := by rw [htx]; rfl
    have htl : tx.length = 65 := by rw [htx]; simp [HA.out, HB.out]
    obtain ⟨cs, hcs⟩ : ∃ cs, cs = (shaF tx).map byteV := ⟨_, rfl⟩
    have hc8 : c8 (shaF tx) = cs.toArray := by rw [hcs]; rfl
    have hc32 : cs.length = 32 := by rw [hcs, List.length_map, shaF_length]
    have hone : ∀ v ∈ cs, v.oneCell' = true := by rw [hcs]; intro v hv; obtain ⟨x, _, rfl⟩ := List.mem_map.1 hv; rfl
    have hsz : (Tryz.prog.info? 36).map (·.size) = some cs.length := by rw [hc32]; kernel_rfl
    have hts := fun (w : World) a' u h1 h2 h3 => tsum_any w g a' texts tx u h1 (by rw [htl]; omega) h2 h3 hn
    rw [he, hen, hc8]
    rw [hc8] at hts
    have HTS := Lib.hid hts; have HC8 := Lib.hid hc8; have HTX := Lib.hid htx; have HCS := Lib.hid hcs; have HTL := Lib.hid htl
    clear he hen htx hcs hc8 hts htl
    go_enter Tryz.func287, Tryz.ntmps287
    go_wp2_with (refine wpList_alloc_g rfl _ rfl _ _ Tryz.zeroHash rfl ?_)
    intro R w1 h1
    go_wp2_with fail
    have h0 : Below w.heap.size w w1 := ((Below.refl _ _).alloc (Nat.le_refl _) _ |>.alloc (by simp) _).trans (h1.out.below.mono (by simp; omega))
    have hA1 : w1.heap[w.heap.size]? = some (.cells (c8 a) 36 (0, 0)) := (h1.out.below.block _ (by simp; omega)).trans (by rw [Below.heap_alloc _ _ _ (by simp)]; exact heap_alloc_new _ _)
    have hB1 : w1.heap[w.heap.size + 1]? = some (.cells (c8 b) 36 (0, 0)) := (h1.out.below.block _ (by simp)).trans (by have := heap_alloc_new (w.alloc (.cells (c8 a) 36)) (.cells (c8 b) 36 (0, 0)); rwa [World.size_alloc] at this)
    have hn1 : (w1.alloc (.cells #[.int .u8 3] 5)).drew.heap[w1.heap.size]? = some (.cells #[.int .u8 3] 5 (0, 0)) := heap_alloc_new _ _
    have ho1 : Own (w1.alloc (.cells #[.int .u8 3] 5)).drew w1.heap.size 5 u8E 1 (.slice (some ⟨w1.heap.size, 0, none⟩) 1 1) [3] := own_new1 hn1 rfl (Nat.le_refl _)
    have hra : Rd (w1.alloc (.cells #[.int .u8 3] 5)).drew u8E 1 (.slice (some ⟨w.heap.size, 0, none⟩) 32 32) a := ((rd_box hA1 32 HA.out.symm (by omega)).alloc _).later (Below.refl _ _).drew
    have hrb : Rd w1 u8E 1 (.slice (some ⟨w.heap.size + 1, 0, none⟩) 32 32) b := rd_box hB1 32 HB.out.symm (by omega)
    have HO := Lib.hid ho1; have HRA := Lib.hid hra; have HRB := Lib.hid hrb; have HB0 := Lib.hid h0; have HWR := Lib.hid h1.out.eq
    have hz1 : w.heap.size + 3 ≤ w1.heap.size := by have := h1.out.size; simp at this; omega
    have hRlt := heap_lt h1.out.cells
    have hRne : ∀ w3 : World, Below w1.heap.size w1 w3 → ¬ (R = g ∨ ar = some R) := by
      intro _ _ e
      have h5 := HT.out.lt
      have h6 := HWR.out
      simp at h6
      rcases e with e | e
      · omega
      · have := h5.2 _ e; omega
    clear ho1 hra hrb h0 hn1 hA1 hB1
    go_region_held3 (fun _ => True) (trivial) (first
      | (refine step_own_apps rfl _ _ _ rfl Tryz.underlying100 Tryz.infoU8 rfl (by omega) (fun _ => rfl) u8E_one HO.out rfl _ rfl HRA.out (by unfold maxLen; simp [HA.out]) (by simp [HA.out]) (B := w1.heap.size) (w0 := w1) ((Below.refl _ _).alloc (Nat.le_refl _) _).drew (Nat.le_refl _) (by show _ ≤ (World.alloc _ _).heap.size; rw [World.size_alloc]; exact Nat.le_succ _) ?_; intro v2 w2 hown2 hb2 _; obtain ⟨ad2, n2, cap2, hv2⟩ := hown2.slice; subst hv2; have HOWN2 := Lib.hid hown2; have HB2 := Lib.hid hb2; clear hown2 hb2 HO HRA)
      | (refine step_own_apps rfl _ _ _ rfl Tryz.underlying100 Tryz.infoU8 rfl (by omega) (fun _ => rfl) u8E_one HOWN2.out rfl _ rfl (HRB.out.later HB2.out) (by unfold maxLen; simp [HA.out, HB.out]) (by simp [HA.out, HB.out]) (B := w1.heap.size) (w0 := w1) HB2.out (Nat.le_refl _) HB2.out.size ?_; intro v3 w3 hown3 hb3 _; obtain ⟨ad3, n3, cap3, hv3⟩ := hown3.slice; subst hv3; have HOWN3 := Lib.hid hown3; have HB3 := Lib.hid hb3; clear hown3 hb3 HOWN2 HB2)
      | (go_at_call 289; ((with_reducible refine (HTS.out _ ar _ (by have hq := HOWN3.out.rd (fun _ => rfl); rw [List.append_assoc, List.cons_append, List.nil_append] at hq; rw [HTX.out]; exact hq) (HT.out.later (HB0.out.trans (HB3.out.mono HB0.out.size))) HOWN3.out.bytes).mono ?_); rintro e w4 ⟨rfl, a4, ht4, hg4⟩; have hR4 := hg4.1.at ((HB3.out.block R hRlt).trans h1.out.cells) (hRne _ HB3.out); have hth := there_row hR4)))
    all_goals
      have h5 := setCells_row (vs := cs) hR4 (by rw [cB_size _ _ (by simp)]; exact hc32)
      have hk5 := (setCells_keep R cs 0 w4).1
      have hb03 : Below w.heap.size w w3 := HB0.out.trans (HB3.out.mono HB0.out.size)
      have ht5 := ht4.keep1 hk5 hR4 (by decide)
      have hg5 := (Grew.from hb03 hg4).to (by have := HWR.out; simp at this; omega) hk5
      have H5 := Lib.hid h5; have HT5 := Lib.hid ht5; have HG5 := Lib.hid hg5; have HS := Lib.hid hsz
      clear h5 hk5 hb03 ht5 hg5 ht4 hg4 hth hR4 hsz
      go_wp2_with fail
      exact bodyPost_ret (results_cell_row rfl _ _ R _ cs.toArray _ _ rfl H5.out Tryz.underlying36 rfl (by rw [List.size_toArray]; exact HS.out)) rfl ⟨rfl, a4, HT5.out, HG5.out⟩
  case inr.inl =>
    obtain ⟨tx, htx⟩ : ∃ tx, tx = (5 : UInt8) :: (a ++ b) := ⟨_, rfl⟩
    have he : nodeK 2 a b = shaF tx := by rw [htx]; rfl
    have hen : nodeN 2 a b = [tx] := by rw [htx]; rfl
    have htl : tx.length = 65 := by rw [htx]; simp [HA.out, HB.out]
    obtain ⟨cs, hcs⟩ : ∃ cs, cs = (shaF tx).map byteV := ⟨_, rfl⟩
    have hc8 : c8 (shaF tx) = cs.toArray := by rw [hcs]; rfl
    have hc32 : cs.length = 32 := by rw [hcs, List.length_map, shaF_length]
    have hone : ∀ v ∈ cs, v.oneCell' = true := by rw [hcs]; intro v hv; obtain ⟨x, _, rfl⟩ := List.mem_map.1 hv; rfl
    have hsz : (Tryz.prog.info? 36).map (·.size) = some cs.length := by rw [hc32]; kernel_rfl
    have hts := fun (w : World) a' u h1 h2 h3 => tsum_any w g a' texts tx u h1 (by rw [htl]; omega) h2 h3 hn
    rw [he, hen, hc8]
    rw [hc8] at hts
    have HTS := Lib.hid hts; have HC8 := Lib.hid hc8; have HTX := Lib.hid htx; have HCS := Lib.hid hcs; have HTL := Lib.hid htl
    clear he hen htx hcs hc8 hts htl
    go_enter Tryz.func287, Tryz.ntmps287
    go_wp2_with (refine wpList_alloc_g rfl _ rfl _ _ Tryz.zeroHash rfl ?_)
    intro R w1 h1
    go_wp2_with fail
    have h0 : Below w.heap.size w w1 := ((Below.refl _ _).alloc (Nat.le_refl _) _ |>.alloc (by simp) _).trans (h1.out.below.mono (by simp; omega))
    have hA1 : w1.heap[w.heap.size]? = some (.cells (c8 a) 36 (0, 0)) := (h1.out.below.block _ (by simp; omega)).trans (by rw [Below.heap_alloc _ _ _ (by simp)]; exact heap_alloc_new _ _)
    have hB1 : w1.heap[w.heap.size + 1]? = some (.cells (c8 b) 36 (0, 0)) := (h1.out.below.block _ (by simp)).trans (by have := heap_alloc_new (w.alloc (.cells (c8 a) 36)) (.cells (c8 b) 36 (0, 0)); rwa [World.size_alloc] at this)
    have hn1 : (w1.alloc (.cells #[.int .u8 5] 5)).drew.heap[w1.heap.size]? = some (.cells #[.int .u8 5] 5 (0, 0)) := heap_alloc_new _ _
    have ho1 : Own (w1.alloc (.cells #[.int .u8 5] 5)).drew w1.heap.size 5 u8E 1 (.slice (some ⟨w1.heap.size, 0, none⟩) 1 1) [5] := own_new1 hn1 rfl (Nat.le_refl _)
    have hra : Rd (w1.alloc (.cells #[.int .u8 5] 5)).drew u8E 1 (.slice (some ⟨w.heap.size, 0, none⟩) 32 32) a := ((rd_box hA1 32 HA.out.symm (by omega)).alloc _).later (Below.refl _ _).drew
    have hrb : Rd w1 u8E 1 (.slice (some ⟨w.heap.size + 1, 0, none⟩) 32 32) b := rd_box hB1 32 HB.out.symm (by omega)
    have HO := Lib.hid ho1; have HRA := Lib.hid hra; have HRB := Lib.hid hrb; have HB0 := Lib.hid h0; have HWR := Lib.hid h1.out.eq
    have hz1 : w.heap.size + 3 ≤ w1.heap.size := by have := h1.out.size; simp at this; omega
    have hRlt := heap_lt h1.out.cells
    have hRne : ∀ w3 : World, Below w1.heap.size w1 w3 → ¬ (R = g ∨ ar = some R) := by
      intro _ _ e
      have h5 := HT.out.lt
      have h6 := HWR.out
      simp at h6
      rcases e with e | e
      · omega
      · have := h5.2 _ e; omega
    clear ho1 hra hrb h0 hn1 hA1 hB1
    go_region_held3 (fun _ => True) (trivial) (first
      | (refine step_own_apps rfl _ _ _ rfl Tryz.underlying100 Tryz.infoU8 rfl (by omega) (fun _ => rfl) u8E_one HO.out rfl _ rfl HRA.out (by unfold maxLen; simp [HA.out]) (by simp [HA.out]) (B := w1.heap.size) (w0 := w1) ((Below.refl _ _).alloc (Nat.le_refl _) _).drew (Nat.le_refl _) (by show _ ≤ (World.alloc _ _).heap.size; rw [World.size_alloc]; exact Nat.le_succ _) ?_; intro v2 w2 hown2 hb2 _; obtain ⟨ad2, n2, cap2, hv2⟩ := hown2.slice; subst hv2; have HOWN2 := Lib.hid hown2; have HB2 := Lib.hid hb2; clear hown2 hb2 HO HRA)
      | (refine step_own_apps rfl _ _ _ rfl Tryz.underlying100 Tryz.infoU8 rfl (by omega) (fun _ => rfl) u8E_one HOWN2.out rfl _ rfl (HRB.out.later HB2.out) (by unfold maxLen; simp [HA.out, HB.out]) (by simp [HA.out, HB.out]) (B := w1.heap.size) (w0 := w1) HB2.out (Nat.le_refl _) HB2.out.size ?_; intro v3 w3 hown3 hb3 _; obtain ⟨ad3, n3, cap3, hv3⟩ := hown3.slice; subst hv3; have HOWN3 := Lib.hid hown3; have HB3 := Lib.hid hb3; clear hown3 hb3 HOWN2 HB2)
      | (go_at_call 289; ((with_reducible refine (HTS.out _ ar _ (by have hq := HOWN3.out.rd (fun _ => rfl); rw [List.append_assoc, List.cons_append, List.nil_append] at hq; rw [HTX.out]; exact hq) (HT.out.later (HB0.out.trans (HB3.out.mono HB0.out.size))) HOWN3.out.bytes).mono ?_); rintro e w4 ⟨rfl, a4, ht4, hg4⟩; have hR4 := hg4.1.at ((HB3.out.block R hRlt).trans h1.out.cells) (hRne _ HB3.out); have hth := there_row hR4)))
    all_goals
      have h5 := setCells_row (vs := cs) hR4 (by rw [cB_size _ _ (by simp)]; exact hc32)
      have hk5 := (setCells_keep R cs 0 w4).1
      have hb03 : Below w.heap.size w w3 := HB0.out.trans (HB3.out.mono HB0.out.size)
      have ht5 := ht4.keep1 hk5 hR4 (by decide)
      have hg5 := (Grew.from hb03 hg4).to (by have := HWR.out; simp at this; omega) hk5
      have H5 := Lib.hid h5; have HT5 := Lib.hid ht5; have HG5 := Lib.hid hg5; have HS := Lib.hid hsz
      clear h5 hk5 hb03 ht5 hg5 ht4 hg4 hth hR4 hsz
      go_wp2_with fail
      exact bodyPost_ret (results_cell_row rfl _ _ R _ cs.toArray _ _ rfl H5.out Tryz.underlying36 rfl (by rw [List.size_toArray]; exact HS.out)) rfl ⟨rfl, a4, HT5.out, HG5.out⟩
end
end Go.Proofs.YtmclmccgghnglaaGreat
