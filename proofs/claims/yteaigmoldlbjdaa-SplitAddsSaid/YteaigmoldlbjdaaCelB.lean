/- cell.Int, SetInt, Next, and the document's: their contracts. -/
import Derived.Test.YteaigmoldlbjdaaCelA
namespace Go.Proofs.Yteaigmoldlbjdaa
open Go.RowKit

def intF : List Int → Int
  | [n] => n
  | _ => 0
theorem intF_no {l : List Int} (h : ¬ l.length = 1) : intF l = 0 := by
  unfold intF
  split
  · exact absurd rfl h
  · rfl
theorem one_of {l : List Int} (h : l.length = 1) : ∃ a, l = [a] := by
  match l, h with
  | [a], _ => exact ⟨a, rfl⟩
/-- The number under a key. -/
def getI (f : Txt → Option Txt) (k : Txt) : Int := intF (rowF (valF f k))
theorem getI_bound (f : Txt → Option Txt) (k : Txt) : 0 ≤ getI f k ∧ getI f k < 9223372036854775808 := by
  unfold getI
  have h := rowF_bound (valF f k)
  generalize rowF (valF f k) = l at h
  by_cases h1 : l.length = 1
  · obtain ⟨a, rfl⟩ := one_of h1
    exact h a (by simp)
  · rw [intF_no h1]; exact ⟨Int.le_refl _, by decide⟩
def PS.setInt (s : PS) (k : Txt) (n : Int) : PS := if n < 1 then s.del k else s.set k (numL n)
theorem sz_setInt (s : PS) (k : Txt) (n : Int) : (s.setInt k n).sz ≤ s.sz + 2 := by
  unfold PS.setInt
  split
  · exact sz_del _ _
  · exact sz_set _ _ _
theorem Fit.setInt {s : PS} (h : Fit s) (k : Txt) (n : Int) : Fit (s.setInt k n) := by
  unfold PS.setInt
  split
  · exact h.del k
  · exact h.set k (by rw [numL_length]; omega)
def nextI (n : Int) : Int := if n < 9223372036854775807 then n + 1 else n

set_option maxHeartbeats 1000000 in
theorem int_any {w : World} {x : Option Addr} {m : Bool} {f : Txt → Option Txt} (h : Look w x m f) (hf : FitF f) (k : Txt) :
    Calls Try.prog 95 #[.pointer x, .string (bs k)] w (Ret w (.int .i64 (getI f k))) := by
  go_enter Try.func95, Try.ntmps95
  go_wp2_with fail
  refine (row_any h hf k).mono ?_
  rintro e w3 ⟨v, rfl, ho, hb3⟩
  obtain ⟨l, hll⟩ : ∃ l, l = rowF (valF f k) := ⟨_, rfl⟩
  rw [← hll] at ho
  have HG : Hid (getI f k = intF l) := Lib.hid (by rw [hll]; rfl)
  have hrd := RowRet.rd ho
  have HB := Lib.hid hb3
  clear ho hll hb3
  obtain ⟨ad, cap, rfl, c1, c2⟩ := hrd.shape
  obtain ⟨n, hn⟩ : ∃ n, n = l.length := ⟨_, rfl⟩
  rw [← hn] at c1 ⊢
  by_cases h5 : n = 1
  · subst h5
    obtain ⟨a, rfl⟩ := one_of hn.symm
    obtain ⟨q, off, rfl, hq, t0⟩ := hrd.at 0 (by simp)
    replace t0 : w3.cell? ⟨q, off, none⟩ = some (.int .i64 a) := t0
    clear hrd hn
    go_wp2_with fail
    go_ret
    exact ⟨by rw [HG.out]; rfl, HB.out⟩
  · have h5' : ((n : Int) == 1) = false := beq_eq_false_iff_ne.2 (by omega)
    have HG0 : Hid (getI f k = 0) := Lib.hid (by rw [HG.out, intF_no (by omega)])
    clear h5 hn hrd
    go_wp2_with fail
    go_ret
    exact ⟨by rw [HG0.out]; rfl, HB.out⟩

end Go.Proofs.Yteaigmoldlbjdaa
