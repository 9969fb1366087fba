/- A store that no call made: its methods. No condition. -/
import Derived.Test.YteaigmoldlbjdaaStoW
namespace Go.Proofs.Yteaigmoldlbjdaa
open Go.RowKit

/-- No call made it: nil, or the zero value. -/
def NotMade (w : World) (x : Option Addr) : Prop := x = none ∨ ∃ g cs T, x = some ⟨g, 0, none⟩ ∧ w.heap[g]? = some (.cells cs T (0, 0)) ∧ cs[0]? = some (.bool false)
theorem NotMade.later {w w' : World} {x : Option Addr} (h : NotMade w x) (hb : Below w.heap.size w w') : NotMade w' x := by
  rcases h with h | ⟨g, cs, T, h1, h2, h3⟩
  · exact .inl h
  · exact .inr ⟨g, cs, T, h1, (hb.block g (heap_lt h2)).trans h2, h3⟩
theorem is_not {w : World} {x : Option Addr} (h : NotMade w x) : Calls Try.prog 58 #[.pointer x] w fun e w' => e = .returned (.bool false) ∧ w = w' := by
  rcases h with rfl | ⟨g, cs, T, rfl, h1, h2⟩
  · exact is_nil w
  · exact is_zero g w cs T h1 h2
theorem sget_not {w : World} {x : Option Addr} (h : NotMade w x) (k : Txt) : Calls Try.prog 19 #[.pointer x, .string (bs k)] w fun e w' => e = .returned (.tuple #[.string (bs []), .bool false]) ∧ w = w' := by
  have H := Lib.hid h; clear h
  go_enter Try.func19, Try.ntmps19
  go_wp2_with fail
  refine (is_not H.out).mono ?_
  rintro e w1 ⟨rfl, rfl⟩
  go_wp2_with fail
  go_ret2
  exact ⟨rfl, rfl⟩
theorem sset_not {w : World} {x : Option Addr} (h : NotMade w x) (k : Txt) (v : Txt) : Calls Try.prog 125 #[.pointer x, .string (bs k), .string (bs v)] w fun e w' => e = .returned (.int .i64 1) ∧ w = w' := by
  have H := Lib.hid h; clear h
  go_enter Try.func125, Try.ntmps125
  go_wp2_with fail
  refine (is_not H.out).mono ?_
  rintro e w1 ⟨rfl, rfl⟩
  go_wp2_with fail
  go_ret
  exact ⟨rfl, rfl⟩
theorem sundo_not {w : World} {x : Option Addr} (h : NotMade w x) (m : Int) : Calls Try.prog 79 #[.pointer x, .int .i64 m] w fun e w' => e = .returned (.bool false) ∧ w = w' := by
  have H := Lib.hid h; clear h
  go_enter Try.func79, Try.ntmps79
  go_wp2_with fail
  refine (is_not H.out).mono ?_
  rintro e w1 ⟨rfl, rfl⟩
  go_wp2_with fail
  go_ret
  exact ⟨rfl, rfl⟩
theorem smade_not {w : World} {x : Option Addr} (h : NotMade w x) : Calls Try.prog 63 #[.pointer x] w fun e w' => e = .returned (.bool false) ∧ w = w' := by
  have H := Lib.hid h; clear h
  go_enter Try.func63, Try.ntmps63
  go_wp2_with fail
  refine (is_not H.out).mono ?_
  rintro e w1 ⟨rfl, rfl⟩
  go_wp2_with fail
  go_ret
  exact ⟨rfl, rfl⟩
theorem smark_not {w : World} {x : Option Addr} (h : NotMade w x) : Calls Try.prog 78 #[.pointer x] w fun e w' => e = .returned (.int .i64 0) ∧ w = w' := by
  have H := Lib.hid h; clear h
  go_enter Try.func78, Try.ntmps78
  go_wp2_with fail
  refine (is_not H.out).mono ?_
  rintro e w1 ⟨rfl, rfl⟩
  go_wp2_with fail
  go_ret
  exact ⟨rfl, rfl⟩
theorem slen_not {w : World} {x : Option Addr} (h : NotMade w x) : Calls Try.prog 32 #[.pointer x] w fun e w' => e = .returned (.int .i64 0) ∧ w = w' := by
  have H := Lib.hid h; clear h
  go_enter Try.func32, Try.ntmps32
  go_wp2_with fail
  refine (is_not H.out).mono ?_
  rintro e w1 ⟨rfl, rfl⟩
  go_wp2_with fail
  go_ret
  exact ⟨rfl, rfl⟩
theorem sunder_not {w : World} {x : Option Addr} (h : NotMade w x) (k : Txt) : Calls Try.prog 85 #[.pointer x, .string (bs k)] w fun e w' => e = .returned (.slice none 0 0) ∧ w = w' := by
  have H := Lib.hid h; clear h
  go_enter Try.func85, Try.ntmps85
  go_wp2_with fail
  refine (is_not H.out).mono ?_
  rintro e w1 ⟨rfl, rfl⟩
  go_wp2_with fail
  go_ret
  exact ⟨rfl, rfl⟩
theorem sdel_not {w : World} {x : Option Addr} (h : NotMade w x) (k : Txt) : Calls Try.prog 124 #[.pointer x, .string (bs k)] w fun e w' => e = .returned (.bool false) ∧ w = w' := by
  have H := Lib.hid h; clear h
  go_enter Try.func124, Try.ntmps124
  go_wp2_with fail
  refine (sget_not H.out k).mono ?_
  rintro e w1 ⟨rfl, rfl⟩
  go_wp2_with fail
  go_ret
  exact ⟨rfl, rfl⟩
end Go.Proofs.Yteaigmoldlbjdaa
