/- Chapter 10: CellBack: what the walk wants. No condition. -/
import Derived.Test.YtnoocidoblndgaaCelF
namespace Go.Proofs.Ytnoocidoblndgaa
open Go.RowKit

set_option maxHeartbeats 1000000 in
theorem ints_any (l m : List Int) (u v : Value) (w : World) (hu : Rd w intE 1 u l) (hv : Rd w intE 1 v m) :
    Calls Try.prog 25 #[u, v] w (Ret w (.bool (decide (l = m)))) := by
  obtain ⟨ad, cap, rfl, hc1, hc2⟩ := hu.shape
  obtain ⟨ad2, cap2, rfl, hc3, hc4⟩ := hv.shape
  by_cases hne : l.length = m.length
  · have hd : ((l.length : Int) != (m.length : Int)) = false := by rw [hne]; simp
    have HN := Lib.hid hne; clear hne
    go_enter Try.func25, Try.ntmps25
    go_wp2
    go_loopw [13] (fun i wr => ∃ k : Nat, k ≤ l.length ∧ i = .int .i64 k ∧ Hid (l.take k = m.take k) ∧ Below w.heap.size w wr) (fun i _ => l.length - (intOf i).toNat)
    case atStart => exact ⟨0, by omega, rfl, rfl, Below.refl _ _⟩
    case round =>
      obtain ⟨k, hk, rfl, hp, hb⟩ := hrel
      by_cases hlt : k < l.length
      · have hlt2 : k < m.length := by rw [← HN.out]; exact hlt
        obtain ⟨b, off, rfl, hbb, hcell⟩ := (hu.later hb).at k hlt
        obtain ⟨b2, off2, rfl, hbb2, hcell2⟩ := (hv.later hb).at k hlt2
        obtain ⟨x, hx⟩ : ∃ x, x = l[k] := ⟨_, rfl⟩
        obtain ⟨y, hy⟩ : ∃ y, y = m[k] := ⟨_, rfl⟩
        rw [← hx] at hcell; rw [← hy] at hcell2
        replace hcell : wr.cell? ⟨b, off + k, none⟩ = some (.int .i64 x) := hcell
        replace hcell2 : wr.cell? ⟨b2, off2 + k, none⟩ = some (.int .i64 y) := hcell2
        have HX := Lib.hid hx; have HY := Lib.hid hy; clear hx hy
        have hi1 : (k : Int) < (l.length : Int) := by omega
        have hi2 : (k : Int) < (m.length : Int) := by omega
        by_cases he : x = y
        · subst he
          have hp2 := Lib.hid (take_eq hlt hlt2 hp.out (HX.out.symm.trans HY.out))
          go_wp2
          go_quiet (fail)
          go_wp2
          go_roundw
          case rel => exact ⟨k + 1, by omega, by go_num, hp2, below_drewN hb _⟩
          case measure => simp [intOf]; omega
        · have hne : (x != y) = true := by simp [he]
          have HE := Lib.hid he
          clear he
          go_wp2
          go_quiet (fail)
          go_wp2
          go_ret
          exact ⟨by rw [decide_eq_false (fun h => HE.out (by rw [HX.out, HY.out]; subst h; rfl))]; rfl, below_drewN hb _⟩
      · have hlm : Hid (l = m) := by
          have h := hp.out
          have h2 := HN.out
          rwa [List.take_of_length_le (by omega), List.take_of_length_le (by omega)] at h
        go_wp2
        go_ret
        exact ⟨by rw [decide_eq_true hlm.out]; rfl, hb⟩
  · have hd : ((l.length : Int) != (m.length : Int)) = true := by simp; omega
    go_enter Try.func25, Try.ntmps25
    go_wp2
    go_ret
    exact ⟨by rw [decide_eq_false (by intro h; exact hne (by rw [h]))]; rfl, Below.refl _ _⟩
theorem back_add {s : PS} {k : Txt} {m : Nat} (hm : m < uMax) (h : amtV (getP s.t) k = 0) (hk : k ≠ []) (hh : m < uHalf) :
    addE (getP s.t) k m = 0 ∧ amtV (getP (s.addA k m).t) k = m ∧ subE (getP (s.addA k m).t) k m = 0 ∧ amtV (getP ((s.addA k m).subA k m).t) k = 0 := by
  have h1 : amtV (getP (s.addA k m).t) k = m := by
    unfold PS.addA
    rw [h, Nat.zero_add, if_pos hh, amtV_setAmt _ _ _ hk hm, if_pos rfl]
  refine ⟨by unfold addE; rw [h, Nat.zero_add, if_pos hh], h1, by unfold subE; rw [h1, if_pos (Nat.le_refl _)], ?_⟩
  unfold PS.subA
  rw [h1, if_pos (Nat.le_refl _), Nat.sub_self, amtV_setAmt _ _ _ hk (by decide), if_pos rfl]
theorem back_no {s : PS} {k : Txt} {m : Nat} (h : amtV (getP s.t) k = 0) (_ : k ≠ []) (hh : ¬ m < uHalf) : addE (getP s.t) k m = 6 := by
  unfold addE; rw [h, Nat.zero_add, if_neg hh]
end Go.Proofs.Ytnoocidoblndgaa
