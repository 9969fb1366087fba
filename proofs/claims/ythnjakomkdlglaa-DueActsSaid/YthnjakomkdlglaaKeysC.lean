/- keys.Table, Less: their contracts. -/
import Derived.Test.YthnjakomkdlglaaKeysK
namespace Go.Proofs.Ythnjakomkdlglaa
open Go.RowKit

set_option maxHeartbeats 1000000 in
theorem table_any (t : Int) (w : World) :
    Calls Try.prog 43 #[.int .i64 t] w (Ret w (.string (bs (keyF t [])))) := by
  go_enter Try.func43, Try.ntmps43
  go_wp2_with (go_at_call 39; refine (key_any t [] (.slice none 0 0) _ (by simp) I64s_nil (Rd.nil _ _ _)).mono ?_; rintro e w1 ⟨rfl, hb1⟩)
  go_ret
  exact ⟨rfl, hb1⟩

/-- Which bytes stand ahead. -/
def lexLt : List UInt8 → List UInt8 → Bool
  | [], [] => false
  | [], _ :: _ => true
  | _ :: _, [] => false
  | a :: l, b :: m => if a = b then lexLt l m else decide (a < b)
theorem lexLt_drop {l m : List UInt8} {k : Nat} (h1 : k < l.length) (h2 : k < m.length) (h : l[k] = m[k]) : lexLt (l.drop k) (m.drop k) = lexLt (l.drop (k + 1)) (m.drop (k + 1)) := by
  rw [List.drop_eq_getElem_cons h1, List.drop_eq_getElem_cons h2, lexLt, if_pos h]
theorem lexLt_ne {l m : List UInt8} {k : Nat} (h1 : k < l.length) (h2 : k < m.length) (h : ¬ l[k] = m[k]) : lexLt (l.drop k) (m.drop k) = decide (l[k] < m[k]) := by
  rw [List.drop_eq_getElem_cons h1, List.drop_eq_getElem_cons h2, lexLt, if_neg h]
theorem lexLt_short {l m : List UInt8} {k : Nat} (h1 : k < l.length) (h2 : ¬ k < m.length) : lexLt (l.drop k) (m.drop k) = false := by
  rw [List.drop_eq_getElem_cons h1, List.drop_of_length_le (l := m) (by omega)]; rfl
theorem lexLt_end {l m : List UInt8} {k : Nat} (h1 : k = l.length) : lexLt (l.drop k) (m.drop k) = decide (l.length < m.length) := by
  subst h1
  rw [List.drop_length]
  by_cases h : l.length < m.length
  · rw [List.drop_eq_getElem_cons h]; simp [lexLt, h]
  · rw [List.drop_of_length_le (by omega)]; simp [lexLt, h]

end Go.Proofs.Ythnjakomkdlglaa
