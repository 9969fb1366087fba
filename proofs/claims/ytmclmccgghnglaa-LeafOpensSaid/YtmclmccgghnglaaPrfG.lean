/- tallageref07.Check. -/
import Derived.Test.YtmclmccgghnglaaLcK15
namespace Go.Proofs.Ytmclmccgghnglaa
open Go.RowKit

/-- The texts that Check sums. -/
def checkNt (k : Int) (leaf : List UInt8) (i : Int) (p : List (List UInt8)) : List (List UInt8) :=
  if (k = 1 ∨ k = 2) ∧ p.length ≤ 10 ∧ ¬ (i < 0 ∨ ((2 ^ p.length : Nat) : Int) ≤ i) then leafN k leaf ++ foldNt k (leafK k leaf) i.toNat p p.length else []

set_option maxRecDepth 100000 in
set_option maxHeartbeats 4000000 in
theorem tcheck_any (w : World) (g : Nat) (a : Option Nat) (texts : List (List UInt8)) (k i : Int) (root leaf : List UInt8) (p : List (List UInt8)) (vb vp : Value) (hr : root.length = 32) (hB : ∀ w' a', Grew w g a w' a' → Rd w' u8E 1 vb leaf) (hl : leaf.length < 1000000000000)
    (hP : ∀ w' a', Grew w g a w' a' → Rd w' hE 32 vp p) (ht : Tr w g a texts) (h32 : All32 p) (htl : texts.length < 800000000) (hi64 : i < 9223372036854775808) :
    Calls Try.prog 14 #[.pointer (some ⟨g, 0, none⟩), .int .i64 k, .agg (c8 root), vb, .int .i64 i, vp] w (TrRet w g a (texts ++ checkNt k leaf i p) (.int .i64 (checkF k root leaf i p))) := by
  have hg0 : Grew w g a w a := Grew.of_below g a (Below.refl _ _)
  obtain ⟨ad, cap, rfl, hc1, hc2⟩ := (hP w a hg0).shape
  obtain ⟨bad, bcap, rfl, hd1, hd2⟩ := (hB w a hg0).shape
  obtain ⟨m, hm⟩ : ∃ m, m = p.length := ⟨_, rfl⟩
  obtain ⟨n, hn⟩ : ∃ n, n = leaf.length := ⟨_, rfl⟩
  rw [← hm] at hc1 hP ⊢
  rw [← hn] at hd1 hB hl ⊢
  have HP := Lib.hid hP; have HBR := Lib.hid hB; have H32 := Lib.hid h32; have HM := Lib.hid hm; have HN := Lib.hid hn; have HR := Lib.hid hr; have HI64 := Lib.hid hi64
  obtain ⟨z, hz⟩ : ∃ z, z = foldK k (leafK k leaf) i p := ⟨_, rfl⟩
  have hz32 : z.length = 32 := by rw [hz]; exact foldK_length _ _ (leafK_length _ _) _ _
  have HZ := Lib.hid hz; have HZ32 := Lib.hid hz32
  obtain ⟨res, hres⟩ : ∃ res, res = checkF k root leaf i p := ⟨_, rfl⟩
  obtain ⟨nt, hnt⟩ : ∃ nt, nt = texts ++ checkNt k leaf i p := ⟨_, rfl⟩
  rw [← hres, ← hnt]
  have HRES := Lib.hid hres; have HNT := Lib.hid hnt
  have hb1 : Below w.heap.size w (w.alloc (.cells (c8 root) 23)) := (Below.refl _ _).alloc (Nat.le_refl _) _
  have HB1 := Lib.hid hb1
  have HT := Lib.hid ht
  clear hP hB h32 hn hr hi64 hz hz32 hres hnt hb1 ht hg0
  rcases kind_cases k with hk | hk | ⟨h1, h2⟩
  case inr.inr =>
    have he : res = 2 := by rw [HRES.out]; unfold checkF; rw [if_neg (by omega)]
    have hnt : nt = texts := by rw [HNT.out]; unfold checkNt; rw [if_neg (by omega), List.append_nil]
    have b1 : (k != 1) = true := by simpa using h1
    have b2 : (k != 2) = true := by simpa using h2
    rw [he, hnt]
    clear he hm hnt
    go_enter Try.func14, Try.ntmps14
    go_wp2_with fail
    go_ret
    exact ⟨rfl, a, HT.out.later HB1.out, Grew.of_below g a HB1.out⟩
  all_goals
    have hk12 : k = 1 ∨ k = 2 := by omega
    have e19 : 10 < m → res = 19 ∧ nt = texts := fun h10 => ⟨by rw [HRES.out]; unfold checkF; rw [if_pos hk12, if_pos (by rw [← hm]; exact h10)], by rw [HNT.out]; unfold checkNt; rw [if_neg (by omega), List.append_nil]⟩
    have e5 : m ≤ 10 → (i < 0 ∨ ((2 ^ m : Nat) : Int) ≤ i) → res = 5 ∧ nt = texts := fun h10 hi => ⟨by rw [HRES.out]; unfold checkF; rw [if_pos hk12, if_neg (by omega), if_pos (by rw [← hm]; exact hi)], by rw [HNT.out]; unfold checkNt; rw [if_neg (by rw [← hm]; intro h; exact h.2.2 hi), List.append_nil]⟩
    have e0 : m ≤ 10 → ¬ (i < 0 ∨ ((2 ^ m : Nat) : Int) ≤ i) → res = (if z = root then 0 else 15) ∧ nt = (texts ++ leafN k leaf) ++ foldNt k (leafK k leaf) i.toNat p p.length := fun h10 hi => ⟨by rw [HRES.out]; unfold checkF; rw [if_pos hk12, if_neg (by omega), if_neg (by rw [← hm]; exact hi), ← HZ.out], by rw [HNT.out]; unfold checkNt; rw [if_pos ⟨hk12, by rw [← hm]; exact h10, by rw [← hm]; exact hi⟩, List.append_assoc]⟩
    have E19 := Lib.hid e19; have E5 := Lib.hid e5; have E0 := Lib.hid e0
    subst hk
    clear hk12 e19 e5 e0 hm
    rcases Nat.lt_or_ge 10 m with h10 | h10
    · have j1 : (m : Int) > 10 := by omega
      go_enter Try.func14, Try.ntmps14
      go_wp2_with fail
      go_ret
      exact ⟨by rw [(E19.out h10).1]; rfl, a, by rw [(E19.out h10).2]; exact HT.out.later HB1.out, Grew.of_below g a HB1.out⟩
    · have j1 : ¬ (m : Int) > 10 := by omega
      have hg1 : (w.alloc (.cells (c8 root) 23)).heap[w.heap.size]? = some (.cells (c8 root) 23 (0, 0)) := heap_alloc_new _ _
      go_enter Try.func14, Try.ntmps14
      go_wp2_with fail
      obtain ⟨w1, hw1'⟩ : ∃ w1, w1 = w.alloc (.cells (c8 root) 23) := ⟨_, rfl⟩
      rw [← hw1'] at hg1 HB1 ⊢
      clear hw1'
      have HG1 := Lib.hid hg1; clear hg1
      go_loopw [13, 27] (fun x y wr => ∃ j s : Nat, j ≤ m ∧ y = .int .i64 j ∧ Hid (s = 2 ^ j) ∧ x = .int .i64 s ∧ wr = w1) (fun _ y _ => m - (intOf y).toNat)
      case atStart => exact ⟨0, 1, Nat.zero_le _, rfl, Lib.hid rfl, rfl, rfl⟩
      case round =>
        obtain ⟨j, s, hj, rfl, hs, rfl, rfl⟩ := hrel
        have hs1 : s ≤ 1024 := by rw [hs.out]; exact Nat.le_trans (Nat.pow_le_pow_right (by omega) (Nat.le_trans hj h10)) (by decide)
        by_cases hjm : j < m
        · go_wp2_with fail
          go_roundw
          case rel => exact ⟨j + 1, s * 2, by omega, by go_num, Lib.hid (by rw [hs.out, Nat.pow_succ]), by go_num, trivial⟩
          case measure => simp [intOf]; omega
        · have hje : j = m := by omega
          subst hje
          by_cases hi : i < 0 ∨ (s : Int) ≤ i
          · have E := Lib.hid (E5.out h10 (by rw [← hs.out]; exact hi))
            have hi2 : i < 0 ∨ (¬ i < 0 ∧ (s : Int) ≤ i) := by omega
            clear hi
            rcases hi2 with hi | ⟨hi, hi2⟩
            all_goals
              go_wp2_with fail
              go_ret
              exact ⟨by rw [E.out.1]; rfl, a, by rw [E.out.2]; exact HT.out.later HB1.out, Grew.of_below g a HB1.out⟩
          · have E := Lib.hid (E0.out h10 (by rw [← hs.out]; exact hi))
            obtain ⟨i0, rfl⟩ : ∃ i0 : Nat, i = (i0 : Int) := ⟨i.toNat, by omega⟩
            have hi1 : ((i0 : Int) < 0) = False := eq_false (by omega)
            have hi2 : ¬ s ≤ i0 := by omega
            have hi3 : ¬ (s : Int) ≤ (i0 : Int) := by omega
            clear hi
            go_upto_region 12 with fail
            have hgr1 : Grew w g a wr.drew a := Grew.of_below g a (HB1.out.trans (Below.refl _ _).drew)
            have HGR1 := Lib.hid hgr1; have HT1 := Lib.hid (HT.out.later (HB1.out.trans (Below.refl _ _).drew))
            have hS : wr.drew.heap[w.heap.size]? = some (.cells (c8 root) 23 (0, 0)) := HG1.out
            have L : Hid (∀ w' : World, w'.heap[w.heap.size]? = some (.cells (c8 root) 23 (0, 0)) → (Instr.loadAt 23 (.pointer (some ⟨w.heap.size, 0, none⟩))).run Try.prog w' = .ok (.agg (c8 root)) w') := Lib.hid fun w' e => load_hash e HR.out
            clear hgr1
            refine wp_region_till (fun w' => w'.heap[w.heap.size]? = some (.cells (c8 root) 23 (0, 0))) 10 11 (by kernel_rfl) rfl ?_
            refine till_take 0 (some 39) rfl rfl (by kernel_rfl) (by kernel_rfl) (by kernel_rfl) (by kernel_rfl) (by kernel_rfl) (by kernel_rfl) (fun _ _ _ h => h) (.inl ⟨by rfl, fun w' _ => (by go_simp; rfl)⟩) hS ?_
            go_frame
            refine till_take 1 (some 40) rfl rfl (by kernel_rfl) (by kernel_rfl) (by kernel_rfl) (by kernel_rfl) (by kernel_rfl) (by kernel_rfl) (fun _ _ _ h => h) (.inl ⟨by rfl, fun w' _ => (by go_simp; rfl)⟩) hS ?_
            go_frame
            refine till_take 2 (some 41) rfl rfl (by kernel_rfl) (by kernel_rfl) (by kernel_rfl) (by kernel_rfl) (by kernel_rfl) (by kernel_rfl) (fun _ _ _ h => h) (.inl ⟨by rfl, fun w' _ => (by go_simp; rfl)⟩) hS ?_
            go_frame
            refine till_take 3 (some 42) rfl rfl (by kernel_rfl) (by kernel_rfl) (by kernel_rfl) (by kernel_rfl) (by kernel_rfl) (by kernel_rfl) (fun _ _ _ h => h) (.inl ⟨by rfl, fun w' _ => (by go_simp; rfl)⟩) hS ?_
            go_frame
            refine till_take 4 (some 43) rfl rfl (by kernel_rfl) (by kernel_rfl) (by kernel_rfl) (by kernel_rfl) (by kernel_rfl) (by kernel_rfl) (fun _ _ _ h => h) (.inl ⟨by rfl, fun w' _ => (by go_simp; rfl)⟩) hS ?_
            go_frame
            refine till_take 6 (some 45) rfl rfl (by kernel_rfl) (by kernel_rfl) (by kernel_rfl) (by kernel_rfl) (by kernel_rfl) (by kernel_rfl) (fun _ _ _ h => h) (.inl ⟨by rfl, fun w' _ => (by go_simp; rfl)⟩) hS ?_
            go_frame
            refine till_take 7 (some 46) rfl rfl (by kernel_rfl) (by kernel_rfl) (by kernel_rfl) (by kernel_rfl) (by kernel_rfl) (by kernel_rfl) (fun _ _ _ h => h) (.inl ⟨by rfl, fun w' _ => (by go_simp; rfl)⟩) hS ?_
            go_frame
            refine till_take 9 (some 48) rfl rfl (by kernel_rfl) (by kernel_rfl) (by kernel_rfl) (by kernel_rfl) (by kernel_rfl) (by kernel_rfl) (fun _ _ _ h => h) (yields_load (by rfl) 23 (.tmp 8) rfl (.pointer (some ⟨w.heap.size, 0, none⟩)) rfl _ L.out) hS ?_
            go_frame
            refine till_one 5 rfl (by kernel_rfl) fun K hK => ?_
            simp only [List.getElem_toArray, List.getElem_cons_succ, List.getElem_cons_zero]
            rw [if_pos (by rfl)]
            go_simp
            refine (tleaf_any wr.drew g a texts _ leaf _ (HBR.out _ _ HGR1.out) (by rw [← HN.out]; exact hl) HT1.out (by omega)).mono ?_
            rintro e w5 ⟨rfl, a5, ht5, hg5⟩
            have hS5 := tr_other HT1.out hg5 hS (by decide)
            refine hK _ _ (fun _ _ => hS5) ?_
            have HT5 := Lib.hid ht5; have HGR5 := Lib.hid (HGR1.out.trans hg5)
            clear hK ht5 hg5 hS
            refine till_one 8 rfl (by kernel_rfl) fun K hK => ?_
            simp only [List.getElem_toArray, List.getElem_cons_succ, List.getElem_cons_zero]
            rw [if_pos (by rfl)]
            go_simp
            refine (tfold_any w5 g a5 _ _ i0 _ p _ (leafK_length _ _) (fun w' a' h => HP.out w' a' (HGR5.out.trans h)) HT5.out H32.out (by rw [← HM.out]; omega) (by rw [List.length_append]; have := leafN_le 1 leaf; have := leafN_le 2 leaf; omega) HI64.out).mono ?_
            rintro e w6 ⟨rfl, a6, ht6, hg6⟩
            have hS6 := tr_other HT5.out hg6 hS5 (by decide)
            refine hK _ _ (fun _ _ => hS6) ?_
            rw [← E.out.2] at ht6
            have HT6 := Lib.hid ht6; have HGR6 := Lib.hid (HGR5.out.trans hg6)
            clear hK ht6 hg6 hS5
            rw [← HZ.out]
            have heq := Try.eqH z root HZ32.out HR.out
            by_cases hzr : z = root
            · rw [decide_eq_true hzr] at heq
              have HZR := Lib.hid hzr; clear hzr
              refine till_one 10 rfl (by kernel_rfl) fun K hK => ?_
              simp only [List.getElem_toArray, List.getElem_cons_succ, List.getElem_cons_zero]
              rw [if_pos (by rfl)]
              go_simp
              refine hK _ _ (fun h => absurd rfl h) ?_
              clear hK heq hS6
              refine till_done (by kernel_rfl) ?_ _
              go_wp2_with fail
              go_ret
              exact ⟨by rw [E.out.1, if_pos HZR.out]; rfl, a6, HT6.out, HGR6.out⟩
            · rw [decide_eq_false hzr] at heq
              have HZR := Lib.hid hzr; clear hzr
              refine till_one 10 rfl (by kernel_rfl) fun K hK => ?_
              simp only [List.getElem_toArray, List.getElem_cons_succ, List.getElem_cons_zero]
              rw [if_pos (by rfl)]
              go_simp
              refine hK _ _ (fun h => absurd rfl h) ?_
              clear hK heq hS6
              refine till_done (by kernel_rfl) ?_ _
              go_wp2_with fail
              go_ret
              exact ⟨by rw [E.out.1, if_neg HZR.out]; rfl, a6, HT6.out, HGR6.out⟩
end Go.Proofs.Ytmclmccgghnglaa
