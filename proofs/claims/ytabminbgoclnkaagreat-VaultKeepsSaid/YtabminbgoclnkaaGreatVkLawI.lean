/- A store that no call made: its methods. No condition. -/
import Derived.Test.YtabminbgoclnkaaGreatVk7
namespace Go.Proofs.YtabminbgoclnkaaGreat
open Go.RowKit

def NotMade (w : World) (x : Option Addr) : Prop := x = none ∨ ∃ g cs T, x = some ⟨g, 0, none⟩ ∧ w.heap[g]? = some (.cells cs T (0, 0)) ∧ cs[0]? = some (.bool false)
theorem NotMade.later {w w' : World} {x : Option Addr} (h : NotMade w x) (hb : Below w.heap.size w w') : NotMade w' x := by
 rcases h with h | ⟨g, cs, T, h1, h2, h3⟩
 ·exact .inl h
 ·exact .inr ⟨g, cs, T, h1, (hb.block g (heap_lt h2)).trans h2, h3⟩
theorem is_not {w : World} {x : Option Addr} (h : NotMade w x) : Calls Tryz.prog 102 #[.pointer x] w fun e w' => e = .returned (.bool false) ∧ w = w' := by
 rcases h with rfl | ⟨g, cs, T, rfl, h1, h2⟩
 ·exact is_nil w
 ·exact is_zero g w cs T h1 h2
theorem sget_not {w : World} {x : Option Addr} (h : NotMade w x) (k : Txt) : Calls Tryz.prog 94 #[.pointer x, .string (bs k)] w fun e w' => e = .returned (.tuple #[.string (bs []), .bool false]) ∧ w = w' := by
 have H := hh h; clear h
 go_enter Tryz.func94, Tryz.ntmps94
 go_wp2_with fail; refine (is_not H.out).mono ?_; rintro e w1 ⟨rfl, rfl⟩; go_wp2_with fail
 go_ret2
 exact ⟨rfl, rfl⟩
theorem sunder_not {w : World} {x : Option Addr} (h : NotMade w x) (k : Txt) : Calls Tryz.prog 72 #[.pointer x, .string (bs k)] w fun e w' => e = .returned (.slice none 0 0) ∧ w = w' := by
 have H := hh h; clear h
 go_enter Tryz.func72, Tryz.ntmps72
 go_wp2_with fail; refine (is_not H.out).mono ?_; rintro e w1 ⟨rfl, rfl⟩; go_wp2_with fail
 go_ret
 exact ⟨rfl, rfl⟩
end Go.Proofs.YtabminbgoclnkaaGreat
