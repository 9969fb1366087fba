/- What stands under a key behind a Set or a Delete: no condition. (The same facts stand in LawH: never import both.) -/
import Derived.Test.YthnjakomkdlglaaCelP
namespace Go.Proofs.Ythnjakomkdlglaa
open Go.RowKit

theorem getP_set (s : PS) (k v q : Txt) : getP (s.set k v).t q = if k = q ∧ k ≠ [] then some v else getP s.t q := by
  unfold PS.set
  by_cases h : k = [] ∨ getP s.t k = some v
  · rw [if_pos h]
    by_cases h2 : k = q ∧ k ≠ []
    · rw [if_pos h2]
      rcases h with h | h
      · exact absurd h h2.2
      · rw [← h2.1]; exact h
    · rw [if_neg h2]
  · rw [if_neg h]
    have h1 : k ≠ [] := fun e => h (.inl e)
    show getP (layP s.t k v true) q = _
    rw [getP_lay]
    by_cases h2 : k = q
    · have h3 : k = q ∧ k ≠ [] := ⟨h2, h1⟩
      rw [if_pos h2, if_pos h3]; rfl
    · rw [if_neg h2, if_neg fun e => h2 e.1]
theorem getP_sdel (s : PS) (k q : Txt) : getP (s.del k).t q = if k = q then none else getP s.t q := by
  unfold PS.del
  by_cases h : getP s.t k = none
  · rw [if_pos h]
    by_cases h2 : k = q
    · rw [if_pos h2, ← h2]; exact h
    · rw [if_neg h2]
  · rw [if_neg h]
    show getP (layP s.t k [] false) q = _
    rw [getP_lay]; rfl
theorem eq_txt (a b : Txt) : ((bs a).toList == (bs b).toList) = decide (a = b) := by
  rw [toList_bs, toList_bs, Bool.eq_iff_iff, beq_iff_eq, decide_eq_true_iff]

theorem valF_set (s : PS) (k v q : Txt) : valF (getP (s.set k v).t) q = if k = q ∧ k ≠ [] then v else valF (getP s.t) q := by
  unfold valF
  rw [getP_set]
  split <;> rfl
theorem valF_del (s : PS) (k q : Txt) : valF (getP (s.del k).t) q = if k = q then [] else valF (getP s.t) q := by
  unfold valF
  rw [getP_sdel]
  split <;> rfl
theorem valF_putv (s : PS) (k v q : Txt) (hk : k ≠ []) : valF (getP (s.putv k v).t) q = if k = q then v else valF (getP s.t) q := by
  unfold PS.putv
  split
  · rename_i h; rw [valF_del, h]
  · rw [valF_set]
    by_cases h : k = q
    · rw [if_pos ⟨h, hk⟩, if_pos h]
    · rw [if_neg fun e => h e.1, if_neg h]
/-- The row that was set is read. -/
theorem rowF_setRow (s : PS) (k q : Txt) {l : List Int} (hk : k ≠ []) (h : ∀ x ∈ l, 0 ≤ x ∧ x < 9223372036854775808) : rowF (valF (getP (s.setRow k l).t) q) = if k = q then l else rowF (valF (getP s.t) q) := by
  unfold PS.setRow
  rw [if_neg (by rintro ⟨x, hx, h1⟩; have := (h x hx).1; omega), valF_putv _ _ _ _ hk]
  split
  · exact rowF_flat h
  · rfl
theorem keyF_ne {t : Int} {ids : List Int} (h1 : 1 ≤ t) (h2 : t ≤ 255) (h : ∀ x ∈ ids, 0 ≤ x) : keyF t ids ≠ [] := by
  unfold keyF
  rw [if_neg]
  · simp
  · rintro (h3 | h3 | ⟨x, hx, h3⟩)
    · omega
    · omega
    · have := h x hx; omega
end Go.Proofs.Ythnjakomkdlglaa
