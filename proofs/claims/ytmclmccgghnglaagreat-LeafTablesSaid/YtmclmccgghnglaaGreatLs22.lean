/- tallageref07.Check. What is checked at a place is the leaf there, or two texts have one sum: plainly. -/
import Derived.Test.YtmclmccgghnglaaGreatLs19
namespace Go.Proofs.YtmclmccgghnglaaGreat
section
open Go.RowKit

/-- The texts that Check sums. -/
def checkNt (k : Int) (leaf : List UInt8) (i : Int) (p : List (List UInt8)) : List (List UInt8) :=
  if (k = 1 ∨ k = 2) ∧ p.length ≤ 10 ∧ ¬ (i < 0 ∨ ((2 ^ p.length : Nat) : Int) ≤ i) then leafN k leaf ++ foldNt k (leafK k leaf) i.toNat p p.length else []

set_option maxRecDepth 100000 in
set_option maxHeartbeats 4000000 in
theorem tcheck_any (w : World) (g : Nat) (a : Option Nat) (texts : List (List UInt8)) (k i : Int) (root leaf : List UInt8) (p : List (List UInt8)) (vb vp : Value) (hr : root.length = 32) (hB : ∀ w' a', Grew w g a w' a' → Rd w' u8E 1 vb leaf) (hl : leaf.length < 1000000000000)
    (hP : ∀ w' a', Grew w g a w' a' → Rd w' hE 32 vp p) (ht : Tr w g a texts) (h32 : All32 p) (htl : texts.length < 800000000) (hi64 : i < 9223372036854775808) :
    Calls Tryz.prog 97 #[.pointer (some ⟨g, 0, none⟩), .int .i64 k, .agg (c8 root), vb, .int .i64 i, vp] w (TrRet w g a (texts ++ checkNt k leaf i p) (.int .i64 (checkF k root leaf i p))) := by
  have hg0 : Grew w g a w a := Grew.of_below g a (Below.refl _ _)
  obtain ⟨ad, cap, rfl, hc1, hc2⟩ := (hP w a hg0).shape
  obtain ⟨bad, bcap, rfl, hd1, hd2⟩ := (hB w a hg0).shape
  obtain ⟨m, hm⟩ : ∃ m, m = p.length := ⟨_, rfl⟩
  obtain ⟨n, hn⟩ : ∃ n, n = leaf.length := ⟨_, rfl⟩
  rw [← hm] at hc1 hP ⊢
  rw [← hn] at hd1 hB hl ⊢
  have HP := Lib.hid hP; have HBR := Lib.hid hB; have H32 := Lib.hid h32; have HM := Lib.hid hm; have HN := Lib.hid hn; have HR := Lib.hid hr; have HI64 := Lib.hid hi64
  obtain ⟨z, hz⟩ : ∃ z, z = foldK k (leafK k leaf) i p := ⟨_, rfl⟩
  have hz32 : z.length = 32 := by rw [hz]; exact foldK_length _ _ (leafK_length _ _) _ _
  have HZ := Lib.hid hz; have HZ32 := Lib.hid hz32
  obtain ⟨res, hres⟩ : ∃ res, res = checkF k root leaf i p := ⟨_, rfl⟩
  obtain ⟨nt, hnt⟩ : ∃ nt, nt = texts ++ checkNt k leaf i p := ⟨_, rfl⟩
  rw [← hres, ← hnt]
  have HRES := Lib.hid hres; have HNT := Lib.hid hnt
  have hb1 : Below w.heap.size w (w.alloc (.cells (c8 root) 36)) := (Below.refl _ _).alloc (Nat.le_refl _) _
  have HB1 := Lib.hid hb1
  have HT := Lib.hid ht
  clear hP hB h32 hn hr hi64 hz hz32 hres hnt hb1 ht hg0
  rcases kind_cases k with hk | hk | ⟨h1, h2⟩
  case inr.inr =>
    have he : res = 2 := by rw [HRES.out]; unfold checkF; rw [if_neg (by omega)]
    have hnt : nt = texts := by rw [HNT.out]; unfold checkNt; rw [if_neg (by omega), List.append_nil]
    have b1 : (k != 1) = true := by simpa using h1
    have b2 : (k != 2) = true := by simpa using h2
    rw [he, hnt]
    clear he hm hnt
    go_enter Tryz.func97, Tryz.ntmps97
    go_wp2_with fail
    go_ret
    exact ⟨rfl, a, HT.out.later HB1.out, Grew.of_below g a HB1.out⟩
  all_goals
    have hk12 : k = 1 ∨ k = 2 := by omega
    have e19 : 10 < m → res = 19 ∧ nt = texts := fun h10 => ⟨by rw [HRES.out]; unfold checkF; rw [if_pos hk12, if_pos (by rw [← hm]; exact h10)], by rw [HNT.out]; unfold checkNt; rw [if_neg (by omega), List.append_nil]⟩
    have e5 : m ≤ 10 → (i < 0 ∨ ((2 ^ m : Nat) : Int) ≤ i) → res = 5 ∧ nt = texts := fun h10 hi => ⟨by rw [HRES.out]; unfold checkF; rw [if_pos hk12, if_neg (by omega), if_pos (by rw [← hm]; exact hi)], by rw [HNT.out]; unfold checkNt; rw [if_neg (by rw [← hm]; intro h; exact h.2.2 hi), List.append_nil]⟩
    have e0 : m ≤ 10 → ¬ (i < 0 ∨ ((2 ^ m : Nat) : Int) ≤ i) → res = (if z = root then 0 else 15) ∧ nt = (texts ++ leafN k leaf) ++ foldNt k (leafK k leaf) i.toNat p p.length := fun h10 hi => ⟨by rw [HRES.out]; unfold checkF; rw [if_pos hk12, if_neg (by omega), if_neg (by rw [← hm]; exact hi), ← HZ.out], by rw [HNT.out]; unfold checkNt; rw [if_pos ⟨hk12, by rw [← hm]; exact h10, by rw [← hm]; exact hi⟩, List.append_assoc]⟩
    have E19 := Lib.hid e19; have E5 := Lib.hid e5; have E0 := Lib.hid e0
    subst hk
    clear hk12 e19 e5 e0 hm
    rcases Nat.lt_or_ge 10 m with h10 | h10
    · have j1 : (m : Int) > 10 := by omega
      go_enter Tryz.func97, Tryz.ntmps97
      go_wp2_with fail
      go_ret
      exact ⟨by rw [(E19.out h10).1]; rfl, a, by rw [(E19.out h10).2]; exact HT.out.later HB1.out, Grew.of_below g a HB1.out⟩
    · have j1 : ¬ (m : Int) > 10 := by omega
      have hg1 : (w.alloc (.cells (c8 root) 36)).heap[w.heap.size]? = some (.cells (c8 root) 36 (0, 0)) := heap_alloc_new _ _
      go_enter Tryz.func97, Tryz.ntmps97
      go_wp2_with fail
      obtain ⟨w1, hw1'⟩ : ∃ w1, w1 = w.alloc (.cells (c8 root) 36) := ⟨_, rfl⟩
      rw [← hw1'] at hg1 HB1 ⊢
      clear hw1'
      have HG1 := Lib.hid hg1; clear hg1
      go_loopw [13, 27] (fun x y wr => ∃ j s : Nat, j ≤ m ∧ y = .int .i64 j ∧ Hid (s = 2 ^ j) ∧ x = .int .i64 s ∧ wr = w1) (fun _ y _ => m - (intOf y).toNat)
      case atStart => exact ⟨0, 1, Nat.zero_le _, rfl, Lib.hid rfl, rfl, rfl⟩
      case round =>
        obtain ⟨j, s, hj, rfl, hs, rfl, rfl⟩ := hrel
        have hs1 : s ≤ 1024 := by rw [hs.out]; exact Nat.le_trans (Nat.pow_le_pow_right (by omega) (Nat.le_trans hj h10)) (by decide)
        by_cases hjm : j < m
        · go_wp2_with fail
          go_roundw
          case rel => exact ⟨j + 1, s * 2, by omega, by go_num, Lib.hid (by rw [hs.out, Nat.pow_succ]), by go_num, trivial⟩
          case measure => simp [intOf]; omega
        · have hje : j = m := by omega
          subst hje
          by_cases hi : i < 0 ∨ (s : Int) ≤ i
          · have E := Lib.hid (E5.out h10 (by rw [← hs.out]; exact hi))
            have hi2 : i < 0 ∨ (¬ i < 0 ∧ (s : Int) ≤ i) := by omega
            clear hi
            rcases hi2 with hi | ⟨hi, hi2⟩
            all_goals
              go_wp2_with fail
              go_ret
              exact ⟨by rw [E.out.1]; rfl, a, by rw [E.out.2]; exact HT.out.later HB1.out, Grew.of_below g a HB1.out⟩
          · have E := Lib.hid (E0.out h10 (by rw [← hs.out]; exact hi))
            obtain ⟨i0, rfl⟩ : ∃ i0 : Nat, i = (i0 : Int) := ⟨i.toNat, by omega⟩
            have hi1 : ((i0 : Int) < 0) = False := eq_false (by omega)
            have hi2 : ¬ s ≤ i0 := by omega
            have hi3 : ¬ (s : Int) ≤ (i0 : Int) := by omega
            clear hi
            go_upto_region 12 with fail
            have hgr1 : Grew w g a wr.drew a := Grew.of_below g a (HB1.out.trans (Below.refl _ _).drew)
            have HGR1 := Lib.hid hgr1; have HT1 := Lib.hid (HT.out.later (HB1.out.trans (Below.refl _ _).drew))
            have hS : wr.drew.heap[w.heap.size]? = some (.cells (c8 root) 36 (0, 0)) := HG1.out
            have L : Hid (∀ w' : World, w'.heap[w.heap.size]? = some (.cells (c8 root) 36 (0, 0)) → (Instr.loadAt 36 (.pointer (some ⟨w.heap.size, 0, none⟩))).run Tryz.prog w' = .ok (.agg (c8 root)) w') := Lib.hid fun w' e => load_hash e HR.out
            clear hgr1
            refine wp_region_till (fun w' => w'.heap[w.heap.size]? = some (.cells (c8 root) 36 (0, 0))) 10 11 (by kernel_rfl) rfl ?_
            refine till_take 0 (some 39) rfl rfl (by kernel_rfl) (by kernel_rfl) (by kernel_rfl) (by kernel_rfl) (by kernel_rfl) (by kernel_rfl) (fun _ _ _ h => h) (.inl ⟨by rfl, fun w' _ => (by go_simp; rfl)⟩) hS ?_
            go_frame
            refine till_take 1 (some 40) rfl rfl (by kernel_rfl) (by kernel_rfl) (by kernel_rfl) (by kernel_rfl) (by kernel_rfl) (by kernel_rfl) (fun _ _ _ h => h) (.inl ⟨by rfl, fun w' _ => (by go_simp; rfl)⟩) hS ?_
            go_frame
            refine till_take 2 (some 41) rfl rfl (by kernel_rfl) (by kernel_rfl) (by kernel_rfl) (by kernel_rfl) (by kernel_rfl) (by kernel_rfl) (fun _ _ _ h => h) (.inl ⟨by rfl, fun w' _ => (by go_simp; rfl)⟩) hS ?_
            go_frame
            refine till_take 3 (some 42) rfl rfl (by kernel_rfl) (by kernel_rfl) (by kernel_rfl) (by kernel_rfl) (by kernel_rfl) (by kernel_rfl) (fun _ _ _ h => h) (.inl ⟨by rfl, fun w' _ => (by go_simp; rfl)⟩) hS ?_
            go_frame
            refine till_take 4 (some 43) rfl rfl (by kernel_rfl) (by kernel_rfl) (by kernel_rfl) (by kernel_rfl) (by kernel_rfl) (by kernel_rfl) (fun _ _ _ h => h) (.inl ⟨by rfl, fun w' _ => (by go_simp; rfl)⟩) hS ?_
            go_frame
            refine till_take 6 (some 45) rfl rfl (by kernel_rfl) (by kernel_rfl) (by kernel_rfl) (by kernel_rfl) (by kernel_rfl) (by kernel_rfl) (fun _ _ _ h => h) (.inl ⟨by rfl, fun w' _ => (by go_simp; rfl)⟩) hS ?_
            go_frame
            refine till_take 7 (some 46) rfl rfl (by kernel_rfl) (by kernel_rfl) (by kernel_rfl) (by kernel_rfl) (by kernel_rfl) (by kernel_rfl) (fun _ _ _ h => h) (.inl ⟨by rfl, fun w' _ => (by go_simp; rfl)⟩) hS ?_
            go_frame
            refine till_take 9 (some 48) rfl rfl (by kernel_rfl) (by kernel_rfl) (by kernel_rfl) (by kernel_rfl) (by kernel_rfl) (by kernel_rfl) (fun _ _ _ h => h) (yields_load (by rfl) 36 (.tmp 8) rfl (.pointer (some ⟨w.heap.size, 0, none⟩)) rfl _ L.out) hS ?_
            go_frame
            refine till_one 5 rfl (by kernel_rfl) fun K hK => ?_
            simp only [List.getElem_toArray, List.getElem_cons_succ, List.getElem_cons_zero]
            rw [if_pos (by rfl)]
            go_simp
            refine (tleaf_any wr.drew g a texts _ leaf _ (HBR.out _ _ HGR1.out) (by rw [← HN.out]; exact hl) HT1.out (by omega)).mono ?_
            rintro e w5 ⟨rfl, a5, ht5, hg5⟩
            have hS5 := tr_other HT1.out hg5 hS (by decide)
            refine hK _ _ (fun _ _ => hS5) ?_
            have HT5 := Lib.hid ht5; have HGR5 := Lib.hid (HGR1.out.trans hg5)
            clear hK ht5 hg5 hS
            refine till_one 8 rfl (by kernel_rfl) fun K hK => ?_
            simp only [List.getElem_toArray, List.getElem_cons_succ, List.getElem_cons_zero]
            rw [if_pos (by rfl)]
            go_simp
            refine (tfold_any w5 g a5 _ _ i0 _ p _ (leafK_length _ _) (fun w' a' h => HP.out w' a' (HGR5.out.trans h)) HT5.out H32.out (by rw [← HM.out]; omega) (by rw [List.length_append]; have := leafN_le 1 leaf; have := leafN_le 2 leaf; omega) HI64.out).mono ?_
            rintro e w6 ⟨rfl, a6, ht6, hg6⟩
            have hS6 := tr_other HT5.out hg6 hS5 (by decide)
            refine hK _ _ (fun _ _ => hS6) ?_
            rw [← E.out.2] at ht6
            have HT6 := Lib.hid ht6; have HGR6 := Lib.hid (HGR5.out.trans hg6)
            clear hK ht6 hg6 hS5
            rw [← HZ.out]
            have heq := Tryz.eqH z root HZ32.out HR.out
            by_cases hzr : z = root
            · rw [decide_eq_true hzr] at heq
              have HZR := Lib.hid hzr; clear hzr
              refine till_one 10 rfl (by kernel_rfl) fun K hK => ?_
              simp only [List.getElem_toArray, List.getElem_cons_succ, List.getElem_cons_zero]
              rw [if_pos (by rfl)]
              go_simp
              refine hK _ _ (fun h => absurd rfl h) ?_
              clear hK heq hS6
              refine till_done (by kernel_rfl) ?_ _
              go_wp2_with fail
              go_ret
              exact ⟨by rw [E.out.1, if_pos HZR.out]; rfl, a6, HT6.out, HGR6.out⟩
            · rw [decide_eq_false hzr] at heq
              have HZR := Lib.hid hzr; clear hzr
              refine till_one 10 rfl (by kernel_rfl) fun K hK => ?_
              simp only [List.getElem_toArray, List.getElem_cons_succ, List.getElem_cons_zero]
              rw [if_pos (by rfl)]
              go_simp
              refine hK _ _ (fun h => absurd rfl h) ?_
              clear hK heq hS6
              refine till_done (by kernel_rfl) ?_ _
              go_wp2_with fail
              go_ret
              exact ⟨by rw [E.out.1, if_neg HZR.out]; rfl, a6, HT6.out, HGR6.out⟩
end
section
open Go.RowKit

theorem node_parts {k : Nat} {a b c d : List UInt8} (ha : a.length = 32) (hc : c.length = 32) (h : nodeT k a b = nodeT k c d) : a = c ∧ b = d := by
  unfold nodeT at h
  exact List.append_inj (List.cons.inj h).2 (by rw [ha, hc])
theorem mem_foldNt {k : Int} (hk : k = 1 ∨ k = 2) (x : List UInt8) (i : Nat) (p : List (List UInt8)) (j : Nat) : ∀ m, j < m → (if i / 2 ^ j % 2 = 0 then nodeT k.toNat (foldAt k x i p j) (hAt p j) else nodeT k.toNat (hAt p j) (foldAt k x i p j)) ∈ foldNt k x i p m
  | 0, h => absurd h (Nat.not_lt_zero _)
  | m + 1, h => by
    rw [foldNt, List.mem_append]
    rcases Nat.lt_or_ge j m with h1 | h1
    · exact .inl (mem_foldNt hk x i p j m h1)
    · obtain rfl : j = m := by omega
      right
      unfold stepN nodeN
      split <;> exact List.mem_singleton.2 rfl
theorem sound_down {k : Int} (hk : k = 1 ∨ k = 2) (l : List (List UInt8)) (x : List UInt8) (hx : x.length = 32) (i : Nat) (p : List (List UInt8)) (h32 : All32 p) (hi : i < 2 ^ depthF l.length) (N : List (List UInt8)) (hn : ¬ Twin N)
    (h1 : ∀ t ∈ notesF k.toNat l, t ∈ N) (h2 : ∀ t ∈ foldNt k x i p (depthF l.length), t ∈ N) :
    ∀ c j, j + c = depthF l.length → foldAt k x i p (depthF l.length) = hAt (rowN k l (depthF l.length)) (i / 2 ^ depthF l.length) → foldAt k x i p j = hAt (rowN k l j) (i / 2 ^ j)
  | 0, j, hj, h => by obtain rfl : j = depthF l.length := by omega
                      exact h
  | c + 1, j, hj, h => by
    have ih := sound_down hk l x hx i p h32 hi N hn h1 h2 c (j + 1) (by omega) h
    have hm : i / 2 ^ (j + 1) < (rowN k l (j + 1)).length := by
      rw [rowN_pow k l (j + 1) (by omega), Nat.div_lt_iff_lt_mul (Nat.pow_pos (by omega)), ← Nat.pow_add, Nat.sub_add_cancel (by omega)]
      exact hi
    rw [rowN_node hk l j _ (by omega) hm] at ih
    have hmem := h2 _ (mem_foldNt hk x i p j _ (by omega))
    have hs : foldAt k x i p (j + 1) = stepK k (i / 2 ^ j) (foldAt k x i p j) (hAt p j) := rfl
    rw [hs] at ih
    have hh := rowN_half k l j (by omega)
    have hl1 : 2 * (i / 2 ^ (j + 1)) + 1 < (rowN k l j).length := by omega
    have hup : nodeT k.toNat (hAt (rowN k l j) (2 * (i / 2 ^ (j + 1)))) (hAt (rowN k l j) (2 * (i / 2 ^ (j + 1)) + 1)) ∈ N := by
      refine h1 _ (mem_notes_up k.toNat l j (by omega) _ ?_)
      unfold upT
      refine List.mem_map.2 ⟨i / 2 ^ (j + 1), List.mem_range.2 (by show _ < (rowN k l j).length / 2; omega), ?_⟩
      have e : ∀ q, q < (rowN k l j).length → (rowAt k.toNat (groundF k.toNat (depthF l.length) l) j).getD q [] = hAt (rowN k l j) q := fun q hq => by
        rw [hAt_eq _ q hq, List.getD_eq_getElem?_getD]
        show ((rowN k l j)[q]?).getD [] = _
        rw [List.getElem?_eq_getElem hq]; rfl
      rw [e _ (by omega), e _ hl1]
    have hf := foldAt_length k x hx i p j
    have hp := hAt_length h32 j
    rw [place_next] at ih hup
    obtain ⟨q, hq⟩ : ∃ q, q = i / 2 ^ j := ⟨_, rfl⟩
    rw [← hq] at ih hup hmem ⊢
    have ha := hAt_length (rowN_32 k l j) (2 * (q / 2))
    unfold stepK nodeK at ih
    simp only [if_pos hk] at ih
    rcases Nat.mod_two_eq_zero_or_one q with h0 | h0
    · rw [if_pos h0] at ih hmem
      have := (node_parts hf ha (no_twin hn hmem hup ih)).1
      rw [this, show 2 * (q / 2) = q by omega]
    · rw [if_neg (by omega)] at ih hmem
      have := (node_parts hp ha (no_twin hn hmem hup ih)).2
      rw [this, show 2 * (q / 2) + 1 = q by omega]
theorem sound {k : Int} (hk : k = 1 ∨ k = 2) (l : List (List UInt8)) (leaf : List UInt8) (i : Int) (p : List (List UInt8)) (h32 : All32 p) (hn : l.length ≤ 1024) (hp : p.length = depthF l.length) (h : checkF k (rootF k.toNat l) leaf i p = 0) :
    0 ≤ i ∧ (leaf = tAt l i.toNat ∨ Twin (notesF k.toNat l ++ checkNt k leaf i p)) := by
  have hd := depthF_10 _ hn
  unfold checkF at h
  rw [if_pos hk, if_neg (by omega)] at h
  by_cases hi : i < 0 ∨ ((2 ^ p.length : Nat) : Int) ≤ i
  · rw [if_pos hi] at h; cases h
  · rw [if_neg hi] at h
    have hf : foldK k (leafK k leaf) i p = rootF k.toNat l := by
      split at h
      · assumption
      · cases h
    refine ⟨by omega, ?_⟩
    by_cases ht : Twin (notesF k.toNat l ++ checkNt k leaf i p)
    · exact .inr ht
    left
    have hcn : checkNt k leaf i p = leafN k leaf ++ foldNt k (leafK k leaf) i.toNat p p.length := by unfold checkNt; rw [if_pos ⟨hk, by omega, hi⟩]
    rw [hcn] at ht
    obtain ⟨i0, rfl⟩ : ∃ i0 : Nat, i = (i0 : Int) := ⟨i.toNat, by omega⟩
    rw [Int.toNat_natCast] at ht ⊢
    unfold foldK at hf
    rw [Int.toNat_natCast, hp] at hf
    rw [hp] at ht hi
    have hi2 : i0 < 2 ^ depthF l.length := Nat.not_le.1 (fun h => hi (.inr (Int.ofNat_le.2 h)))
    have hz : i0 / 2 ^ depthF l.length = 0 := Nat.div_eq_of_lt hi2
    have h0 := sound_down hk l (leafK k leaf) (leafK_length _ _) i0 p h32 hi2 _ ht (fun t h => List.mem_append_left _ h) (fun t h => List.mem_append_right _ (List.mem_append_right _ h)) (depthF l.length) 0 (by omega) (by rw [hz, rowN_top, hf]; rfl)
    have hg : hAt (rowN k l 0) i0 = leafF k.toNat (l.getD i0 []) := by
      have h1 : i0 < (rowN k l 0).length := by rw [rowN_pow k l 0 (Nat.zero_le _), Nat.sub_zero]; exact hi2
      rw [hAt_eq _ i0 h1]
      have h3 : (rowN k l 0)[i0]? = some (leafF k.toNat (l.getD i0 [])) := groundF_at _ _ _ _ hi2
      rw [List.getElem?_eq_getElem h1] at h3
      exact Option.some.inj h3
    rw [Nat.pow_zero, Nat.div_one, hg] at h0
    have e1 : foldAt k (leafK k leaf) i0 p 0 = leafF k.toNat leaf := by show leafK k leaf = _; unfold leafK; rw [if_pos hk]
    rw [e1] at h0
    have m1 : leafT k.toNat leaf ∈ notesF k.toNat l ++ (leafN k leaf ++ foldNt k (leafK k leaf) i0 p (depthF l.length)) := List.mem_append_right _ (List.mem_append_left _ (by unfold leafN; rw [if_pos hk]; simp))
    have m2 : leafT k.toNat (l.getD i0 []) ∈ notesF k.toNat l ++ (leafN k leaf ++ foldNt k (leafK k leaf) i0 p (depthF l.length)) := List.mem_append_left _ (mem_notes_ground _ _ _ (by unfold groundT; exact List.mem_map.2 ⟨i0, List.mem_range.2 hi2, rfl⟩))
    have := no_twin ht m1 m2 h0
    unfold leafT at this
    exact (List.cons.inj this).2
end
end Go.Proofs.YtmclmccgghnglaaGreat
