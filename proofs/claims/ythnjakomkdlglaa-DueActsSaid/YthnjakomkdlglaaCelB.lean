/- cell.Int, SetInt, Next, and the document's: their contracts. -/
import Derived.Test.YthnjakomkdlglaaCelA
namespace Go.Proofs.Ythnjakomkdlglaa
open Go.RowKit

def intF : List Int → Int
  | [n] => n
  | _ => 0
theorem intF_no {l : List Int} (h : ¬ l.length = 1) : intF l = 0 := by
  unfold intF
  split
  · exact absurd rfl h
  · rfl
theorem one_of {l : List Int} (h : l.length = 1) : ∃ a, l = [a] := by
  match l, h with
  | [a], _ => exact ⟨a, rfl⟩
/-- The number under a key. -/
def getI (f : Txt → Option Txt) (k : Txt) : Int := intF (rowF (valF f k))
theorem getI_bound (f : Txt → Option Txt) (k : Txt) : 0 ≤ getI f k ∧ getI f k < 9223372036854775808 := by
  unfold getI
  have h := rowF_bound (valF f k)
  generalize rowF (valF f k) = l at h
  by_cases h1 : l.length = 1
  · obtain ⟨a, rfl⟩ := one_of h1
    exact h a (by simp)
  · rw [intF_no h1]; exact ⟨Int.le_refl _, by decide⟩
def PS.setInt (s : PS) (k : Txt) (n : Int) : PS := if n < 1 then s.del k else s.set k (numL n)
theorem sz_setInt (s : PS) (k : Txt) (n : Int) : (s.setInt k n).sz ≤ s.sz + 2 := by
  unfold PS.setInt
  split
  · exact sz_del _ _
  · exact sz_set _ _ _
theorem Fit.setInt {s : PS} (h : Fit s) (k : Txt) (n : Int) : Fit (s.setInt k n) := by
  unfold PS.setInt
  split
  · exact h.del k
  · exact h.set k (by rw [numL_length]; omega)
def nextI (n : Int) : Int := if n < 9223372036854775807 then n + 1 else n

set_option maxHeartbeats 1000000 in
theorem int_any {w : World} {x : Option Addr} {m : Bool} {f : Txt → Option Txt} (h : Look w x m f) (hf : FitF f) (k : Txt) :
    Calls Try.prog 45 #[.pointer x, .string (bs k)] w (Ret w (.int .i64 (getI f k))) := by
  go_enter Try.func45, Try.ntmps45
  go_wp2_with fail
  refine (row_any h hf k).mono ?_
  rintro e w3 ⟨v, rfl, ho, hb3⟩
  obtain ⟨l, hll⟩ : ∃ l, l = rowF (valF f k) := ⟨_, rfl⟩
  rw [← hll] at ho
  have HG : Hid (getI f k = intF l) := Lib.hid (by rw [hll]; rfl)
  have hrd := RowRet.rd ho
  have HB := Lib.hid hb3
  clear ho hll hb3
  obtain ⟨ad, cap, rfl, c1, c2⟩ := hrd.shape
  obtain ⟨n, hn⟩ : ∃ n, n = l.length := ⟨_, rfl⟩
  rw [← hn] at c1 ⊢
  by_cases h5 : n = 1
  · subst h5
    obtain ⟨a, rfl⟩ := one_of hn.symm
    obtain ⟨q, off, rfl, hq, t0⟩ := hrd.at 0 (by simp)
    replace t0 : w3.cell? ⟨q, off, none⟩ = some (.int .i64 a) := t0
    clear hrd hn
    go_wp2_with fail
    go_ret
    exact ⟨by rw [HG.out]; rfl, HB.out⟩
  · have h5' : ((n : Int) == 1) = false := beq_eq_false_iff_ne.2 (by omega)
    have HG0 : Hid (getI f k = 0) := Lib.hid (by rw [HG.out, intF_no (by omega)])
    clear h5 hn hrd
    go_wp2_with fail
    go_ret
    exact ⟨by rw [HG0.out]; rfl, HB.out⟩

set_option maxHeartbeats 1000000 in
theorem rint_any {w : World} {g : Nat} {s : PS} {F : List Nat} (h : RS w g s F) (hz : s.sz < 1099511627776) (hf : Fit s) (k : Txt) :
    Calls Try.prog 53 #[.pointer (some ⟨g, 0, none⟩), .string (bs k)] w (Ret w (.int .i64 (getI (getP s.t) k))) := by
  go_enter Try.func53, Try.ntmps53
  go_wp2_with fail
  refine (rrow_any h hz hf k).mono ?_
  rintro e w3 ⟨v, rfl, ho, hb3⟩
  obtain ⟨l, hll⟩ : ∃ l, l = rowF (valF (getP s.t) k) := ⟨_, rfl⟩
  rw [← hll] at ho
  have HG : Hid (getI (getP s.t) k = intF l) := Lib.hid (by rw [hll]; rfl)
  have hrd := RowRet.rd ho
  have HB := Lib.hid hb3
  clear ho hll hb3
  obtain ⟨ad, cap, rfl, c1, c2⟩ := hrd.shape
  obtain ⟨n, hn⟩ : ∃ n, n = l.length := ⟨_, rfl⟩
  rw [← hn] at c1 ⊢
  by_cases h5 : n = 1
  · subst h5
    obtain ⟨a, rfl⟩ := one_of hn.symm
    obtain ⟨q, off, rfl, hq, t0⟩ := hrd.at 0 (by simp)
    replace t0 : w3.cell? ⟨q, off, none⟩ = some (.int .i64 a) := t0
    clear hrd hn
    go_wp2_with fail
    go_ret
    exact ⟨by rw [HG.out]; rfl, HB.out⟩
  · have h5' : ((n : Int) != 1) = true := by rw [bne_iff_ne]; omega
    have HG0 : Hid (getI (getP s.t) k = 0) := Lib.hid (by rw [HG.out, intF_no (by omega)])
    clear h5 hn hrd
    go_wp2_with fail
    go_ret
    exact ⟨by rw [HG0.out]; rfl, HB.out⟩

set_option maxHeartbeats 1000000 in
theorem setInt_any {w : World} {g : Nat} {s : PS} {F : List Nat} (h : St w g s F) (hz : s.sz < 1099511627776) (k : Txt) (n : Int) (hn : n < 9223372036854775808) :
    Calls Try.prog 42 #[.pointer (some ⟨g, 0, none⟩), .string (bs k), .int .i64 n] w (StRet w g F (s.setInt k n) (.tuple #[])) := by
  have L := Lib.hid (Liv.start h); have HZ := Lib.hid hz
  clear h hz
  by_cases h1 : n < 1
  · have hp : s.setInt k n = s.putv k [] := by unfold PS.setInt PS.putv; rw [if_pos h1, if_pos rfl]
    rw [hp]
    clear hp
    go_enter Try.func42, Try.ntmps42
    go_wp2_with fail
    refine (L.out.call fun F h => put_any h HZ.out k []).mono ?_
    rintro e w1 ⟨rfl, L1, _⟩
    have L1 := Lib.hid L1
    go_wp2_with fail
    go_end0
    exact L1.out.ret
  · have hp : s.setInt k n = s.putv k (numL n) := by
      unfold PS.setInt PS.putv
      rw [if_neg h1, if_neg (by intro e; have := numL_length n; rw [e] at this; cases this)]
    rw [hp]
    clear hp
    go_enter Try.func42, Try.ntmps42
    go_wp2_with fail
    refine (num_pos n _ (by omega) hn).mono ?_
    rintro e w1 ⟨rfl, hb1⟩
    have L1 := Lib.hid (L.out.later hb1)
    clear hb1 L
    go_wp2_with fail
    refine (L1.out.call fun F h => put_any h HZ.out k (numL n)).mono ?_
    rintro e w1 ⟨rfl, L1, _⟩
    have L1 := Lib.hid L1
    go_wp2_with fail
    go_end0
    exact L1.out.ret

set_option maxHeartbeats 1000000 in
theorem rsetInt_any {w : World} {g : Nat} {s : PS} {F : List Nat} (h : RS w g s F) (hz : s.sz < 1099511627776) (k : Txt) (n : Int) (hn : n < 9223372036854775808) :
    Calls Try.prog 50 #[.pointer (some ⟨g, 0, none⟩), .string (bs k), .int .i64 n] w (RRet w g F (s.setInt k n) (.tuple #[])) := by
  have L := Lib.hid (RLiv.start h); have HZ := Lib.hid hz
  clear h hz
  by_cases h1 : n < 1
  · have hp : s.setInt k n = s.del k := by unfold PS.setInt; rw [if_pos h1]
    rw [hp]
    clear hp
    go_enter Try.func50, Try.ntmps50
    go_wp2_with fail
    refine (L.out.call fun F h => rdel_any h (by have := HZ.out; unfold PS.sz at this; omega) (by have := HZ.out; unfold PS.sz at this; omega) k).mono ?_
    rintro e w1 ⟨rfl, L1, _⟩
    have L1 := Lib.hid L1
    go_wp2_with fail
    go_end0
    exact L1.out.ret
  · have hp : s.setInt k n = s.set k (numL n) := by unfold PS.setInt; rw [if_neg h1]
    rw [hp]
    clear hp
    go_enter Try.func50, Try.ntmps50
    go_wp2_with fail
    refine (refNum_pos n _ (by omega) hn).mono ?_
    rintro e w1 ⟨rfl, hb1⟩
    have L1 := Lib.hid (L.out.later hb1)
    clear hb1 L
    go_wp2_with fail
    refine (L1.out.call fun F h => rset_any h (by have := HZ.out; unfold PS.sz at this; omega) (by have := HZ.out; unfold PS.sz at this; omega) k (numL n)).mono ?_
    rintro e w1 ⟨rfl, L1, _⟩
    have L1 := Lib.hid L1
    go_wp2_with fail
    go_end0
    exact L1.out.ret

end Go.Proofs.Ythnjakomkdlglaa
