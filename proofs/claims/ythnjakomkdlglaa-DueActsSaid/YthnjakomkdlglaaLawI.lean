/- A store that no call made: its methods. No condition. -/
import Derived.Test.YthnjakomkdlglaaStoW
namespace Go.Proofs.Ythnjakomkdlglaa
open Go.RowKit

/-- No call made it: nil, or the zero value. -/
def NotMade (w : World) (x : Option Addr) : Prop := x = none ∨ ∃ g cs T, x = some ⟨g, 0, none⟩ ∧ w.heap[g]? = some (.cells cs T (0, 0)) ∧ cs[0]? = some (.bool false)
theorem NotMade.later {w w' : World} {x : Option Addr} (h : NotMade w x) (hb : Below w.heap.size w w') : NotMade w' x := by
  rcases h with h | ⟨g, cs, T, h1, h2, h3⟩
  · exact .inl h
  · exact .inr ⟨g, cs, T, h1, (hb.block g (heap_lt h2)).trans h2, h3⟩
theorem is_not {w : World} {x : Option Addr} (h : NotMade w x) : Calls Try.prog 71 #[.pointer x] w fun e w' => e = .returned (.bool false) ∧ w = w' := by
  rcases h with rfl | ⟨g, cs, T, rfl, h1, h2⟩
  · exact is_nil w
  · exact is_zero g w cs T h1 h2
theorem sget_not {w : World} {x : Option Addr} (h : NotMade w x) (k : Txt) : Calls Try.prog 82 #[.pointer x, .string (bs k)] w fun e w' => e = .returned (.tuple #[.string (bs []), .bool false]) ∧ w = w' := by
  have H := Lib.hid h; clear h
  go_enter Try.func82, Try.ntmps82
  go_wp2_with fail
  refine (is_not H.out).mono ?_
  rintro e w1 ⟨rfl, rfl⟩
  go_wp2_with fail
  go_ret2
  exact ⟨rfl, rfl⟩
theorem sset_not {w : World} {x : Option Addr} (h : NotMade w x) (k : Txt) (v : Txt) : Calls Try.prog 110 #[.pointer x, .string (bs k), .string (bs v)] w fun e w' => e = .returned (.int .i64 1) ∧ w = w' := by
  have H := Lib.hid h; clear h
  go_enter Try.func110, Try.ntmps110
  go_wp2_with fail
  refine (is_not H.out).mono ?_
  rintro e w1 ⟨rfl, rfl⟩
  go_wp2_with fail
  go_ret
  exact ⟨rfl, rfl⟩
theorem smade_not {w : World} {x : Option Addr} (h : NotMade w x) : Calls Try.prog 36 #[.pointer x] w fun e w' => e = .returned (.bool false) ∧ w = w' := by
  have H := Lib.hid h; clear h
  go_enter Try.func36, Try.ntmps36
  go_wp2_with fail
  refine (is_not H.out).mono ?_
  rintro e w1 ⟨rfl, rfl⟩
  go_wp2_with fail
  go_ret
  exact ⟨rfl, rfl⟩
theorem sunder_not {w : World} {x : Option Addr} (h : NotMade w x) (k : Txt) : Calls Try.prog 54 #[.pointer x, .string (bs k)] w fun e w' => e = .returned (.slice none 0 0) ∧ w = w' := by
  have H := Lib.hid h; clear h
  go_enter Try.func54, Try.ntmps54
  go_wp2_with fail
  refine (is_not H.out).mono ?_
  rintro e w1 ⟨rfl, rfl⟩
  go_wp2_with fail
  go_ret
  exact ⟨rfl, rfl⟩
theorem sdel_not {w : World} {x : Option Addr} (h : NotMade w x) (k : Txt) : Calls Try.prog 44 #[.pointer x, .string (bs k)] w fun e w' => e = .returned (.bool false) ∧ w = w' := by
  have H := Lib.hid h; clear h
  go_enter Try.func44, Try.ntmps44
  go_wp2_with fail
  refine (sget_not H.out k).mono ?_
  rintro e w1 ⟨rfl, rfl⟩
  go_wp2_with fail
  go_ret
  exact ⟨rfl, rfl⟩
theorem sall_not {w : World} {x : Option Addr} (h : NotMade w x) : Calls Try.prog 23 #[.pointer x] w fun e w' => e = .returned (.slice none 0 0) ∧ w = w' := by
  have H := Lib.hid h; clear h
  go_enter Try.func23, Try.ntmps23
  go_wp2_with fail
  refine (sunder_not H.out []).mono ?_
  rintro e w1 ⟨rfl, rfl⟩
  go_wp2_with fail
  go_ret
  exact ⟨rfl, rfl⟩
end Go.Proofs.Ythnjakomkdlglaa
