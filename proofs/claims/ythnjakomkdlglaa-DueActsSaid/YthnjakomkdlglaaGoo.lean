/- Whether a list has no negative (code). No condition. -/
import Derived.Test.YthnjakomkdlglaaLit
namespace Go.Proofs.Ythnjakomkdlglaa
open Go.RowKit
def goodL (l : List Int) : Bool := decide (l ≠ [] ∧ ∀ x ∈ l, 0 ≤ x)
theorem neg_any (n : Int) (w : World) : Calls Try.prog 73 #[.int .i64 n] w fun e w' => e = .returned (.bool (decide (n < 0))) ∧ w = w' := by
  by_cases h : n < 0
  · rw [decide_eq_true h]
    go_enter Try.func73, Try.ntmps73
    go_wp2
    go_ret
    exact ⟨rfl, rfl⟩
  · rw [decide_eq_false h]
    go_enter Try.func73, Try.ntmps73
    go_wp2
    go_ret
    exact ⟨rfl, rfl⟩
set_option maxHeartbeats 4000000 in
theorem idx_any {w : World} {v : Value} {l : List Int} (hrd : Rd w intE 1 v l) :
    Calls Try.prog 107 #[v, .func (.func 73) #[] #[]] w (fun e w' => ∃ r : Int, e = .returned (.int .i64 r) ∧ ((∀ x ∈ l, 0 ≤ x) → r = -1) ∧ (¬ (∀ x ∈ l, 0 ≤ x) → 0 ≤ r) ∧ w = w') := by
  obtain ⟨ad, cap, rfl, c1, c2⟩ := hrd.shape
  obtain ⟨n, hn⟩ : ∃ n, n = l.length := ⟨_, rfl⟩
  rw [← hn] at c1 hrd ⊢
  have H := Lib.hid hrd; have HN := Lib.hid hn
  clear hrd hn
  go_enter Try.func107, Try.ntmps107
  go_wp2_with fail
  go_loopw [8] (fun vi wr => ∃ k : Nat, vi = .int .i64 k ∧ k ≤ n ∧ Hid (∀ x ∈ l.take k, 0 ≤ x) ∧ wr = w) (fun vi _ => n - (intOf vi).toNat)
  case atStart => exact ⟨0, rfl, Nat.zero_le _, Lib.hid (by simp), rfl⟩
  case round =>
    obtain ⟨k, rfl, hk, HP, rfl⟩ := hrel
    by_cases hlt : k < n
    · have hi : k < l.length := by rw [← HN.out]; exact hlt
      obtain ⟨q, off, rfl, hq, t0⟩ := H.out.at k hi
      replace t0 : wr.cell? ⟨q, off + k, none⟩ = some (.int .i64 l[k]) := t0
      have hmem : l[k] ∈ l := List.getElem_mem hi
      have htk : ∀ h : 0 ≤ l[k], ∀ x ∈ l.take (k + 1), 0 ≤ x := by
        intro h x hx
        rw [List.take_succ_eq_append_getElem hi] at hx
        rcases List.mem_append.1 hx with hx | hx
        · exact HP.out x hx
        · simp only [List.mem_singleton] at hx; rw [hx]; exact h
      obtain ⟨y, hy⟩ : ∃ y, y = l[k] := ⟨_, rfl⟩
      rw [← hy] at t0 hmem htk
      have HM := Lib.hid hmem; have HTK := Lib.hid htk; have HLT := Lib.hid hlt
      have i1 : (k : Int) < (n : Int) := by omega
      clear hmem htk hy hq hi
      go_wp2_with fail
      refine (neg_any y _).mono ?_
      rintro e w2 ⟨rfl, rfl⟩
      clear t0
      by_cases hneg : y < 0
      · rw [decide_eq_true hneg]
        have HNG := Lib.hid hneg
        clear hneg
        go_wp2_with fail
        go_ret
        exact ⟨_, rfl, fun h => absurd (h _ HM.out) (by have := HNG.out; omega), fun _ => by omega, rfl⟩
      · rw [decide_eq_false hneg]
        have HNG : Hid (0 ≤ y) := Lib.hid (by omega)
        clear hneg
        go_wp2_with fail
        go_roundw
        case rel => exact ⟨k + 1, by go_num, Nat.succ_le_of_lt HLT.out, Lib.hid (HTK.out HNG.out), by first | rfl | trivial⟩
        case measure => have hh : k < n := HLT.out; simp [intOf]; omega
    · have hall : ∀ x ∈ l, 0 ≤ x := by
        have h8 := HP.out
        rwa [List.take_of_length_le (by rw [← HN.out]; omega)] at h8
      have HALL := Lib.hid hall
      clear hall HP
      go_wp2_with fail
      go_ret
      exact ⟨_, rfl, fun _ => rfl, fun h => absurd HALL.out h, rfl⟩
set_option maxHeartbeats 4000000 in
theorem contains_any {w : World} {v : Value} {l : List Int} (hrd : Rd w intE 1 v l) :
    Calls Try.prog 72 #[v, .func (.func 73) #[] #[]] w (fun e w' => e = .returned (.bool (decide (¬ ∀ x ∈ l, 0 ≤ x))) ∧ w = w') := by
  have H := Lib.hid hrd
  clear hrd
  go_enter Try.func72, Try.ntmps72
  go_wp2_with fail
  refine (idx_any H.out).mono ?_
  rintro e w2 ⟨r, rfl, h1, h2, rfl⟩
  by_cases hp : ∀ x ∈ l, 0 ≤ x
  · obtain rfl := h1 hp
    have HD : Hid (decide (¬ ∀ x ∈ l, 0 ≤ x) = false) := Lib.hid (decide_eq_false (fun h => h hp))
    clear h1 h2 hp
    go_wp2_with fail
    go_ret
    exact ⟨by rw [HD.out]; rfl, rfl⟩
  · have h0 := h2 hp
    have HP := Lib.hid hp
    clear h1 h2 hp
    go_wp2_with fail
    go_ret
    exact ⟨by rw [decide_eq_true HP.out]; rfl, rfl⟩
set_option maxHeartbeats 4000000 in
theorem good_any {w : World} {v : Value} {l : List Int} (hrd : Rd w intE 1 v l) :
    Calls Try.prog 37 #[v] w (fun e w' => e = .returned (.bool (goodL l)) ∧ w = w') := by
  have H := Lib.hid hrd
  obtain ⟨ad, cap, rfl, c1, c2⟩ := hrd.shape
  clear hrd
  by_cases hl : l = []
  · subst hl
    go_enter Try.func37, Try.ntmps37
    go_wp2_with fail
    go_ret
    exact ⟨rfl, rfl⟩
  · have hp : 0 < l.length := by cases l with | nil => exact absurd rfl hl | cons _ _ => simp
    have HL := Lib.hid hl
    clear hl
    go_enter Try.func37, Try.ntmps37
    go_wp2_with fail
    refine (contains_any H.out).mono ?_
    rintro e w2 ⟨rfl, rfl⟩
    by_cases hq : ∀ x ∈ l, 0 ≤ x
    · rw [show decide (¬ ∀ x ∈ l, 0 ≤ x) = false from decide_eq_false (fun h => h hq)]
      have HG : Hid (goodL l = true) := Lib.hid (decide_eq_true ⟨HL.out, hq⟩)
      clear hq
      go_wp2_with fail
      go_ret
      exact ⟨by rw [HG.out]; rfl, rfl⟩
    · rw [decide_eq_true hq]
      have HG : Hid (goodL l = false) := Lib.hid (decide_eq_false (fun h => hq h.2))
      clear hq
      go_wp2_with fail
      go_ret
      exact ⟨by rw [HG.out]; rfl, rfl⟩
end Go.Proofs.Ythnjakomkdlglaa
