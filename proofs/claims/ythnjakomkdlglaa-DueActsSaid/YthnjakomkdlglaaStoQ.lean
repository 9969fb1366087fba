/- A row of sorted keys that is cut into blocks, plainly: no condition. -/
import Derived.Test.YthnjakomkdlglaaStoP
namespace Go.Proofs.Ythnjakomkdlglaa

/-- Keys rise. -/
def UpK (ks : List Txt) : Prop := ks.Pairwise fun x y => less x y = true
theorem upK_keys {t : Tab} : UpK (keysP t) ↔ Up t := List.pairwise_map
theorem UpK.ne {ks : List Txt} (h : UpK ks) {i j : Nat} (hj : j < ks.length) (hij : i < j) : less (ks[i]'(by omega)) ks[j] = true :=
  List.pairwise_iff_getElem.1 h i j (by omega) hj hij

/-- Where a key stands, or would, among sorted keys. -/
structure At (ks : List Txt) (k : Txt) (i : Nat) : Prop where
  le : i ≤ ks.length
  lo : ∀ j (h : j < ks.length), j < i → less ks[j] k = true
  hi : ∀ j (h : j < ks.length), i ≤ j → less ks[j] k = false

theorem At.take {ks : List Txt} {k : Txt} {i : Nat} (h : At ks k i) : ∀ x ∈ ks.take i, less x k = true := by
  intro x hx
  obtain ⟨j, hj, e⟩ := List.mem_iff_getElem.1 hx
  rw [List.length_take] at hj
  rw [List.getElem_take] at e
  rw [← e]; exact h.lo j (by omega) (by omega)
theorem At.drop {ks : List Txt} {k : Txt} {i : Nat} (h : At ks k i) (hk : k ∉ ks) : ∀ y ∈ ks.drop i, less k y = true := by
  intro y hy
  obtain ⟨j, hj, e⟩ := List.mem_iff_getElem.1 hy
  rw [List.length_drop] at hj
  rw [List.getElem_drop] at e
  have h1 := h.hi (i + j) (by omega) (by omega)
  rw [e] at h1
  rcases not_less h1 with h2 | h2
  · exact absurd (h2 ▸ List.mem_of_mem_drop hy) hk
  · exact h2
/-- A key that is there stands at its place. -/
theorem At.there {ks : List Txt} {k : Txt} {i : Nat} (h : At ks k i) (hu : UpK ks) (hk : k ∈ ks) : ∃ hi : i < ks.length, ks[i] = k := by
  obtain ⟨j, hj, e⟩ := List.mem_iff_getElem.1 hk
  have h1 : ¬ j < i := fun hji => by have := h.lo j hj hji; rw [e, less_irrefl] at this; cases this
  have hi : i < ks.length := by omega
  refine ⟨hi, ?_⟩
  rcases Nat.lt_or_ge i j with h2 | h2
  · have h3 := hu.ne hj h2
    rw [e, h.hi i hi (Nat.le_refl _)] at h3; cases h3
  · obtain rfl : i = j := by omega
    exact e

/-- Which block: the first whose last key is not below k, or the last one. -/
structure Find (bl : List (List Txt)) (k : Txt) (i : Nat) : Prop where
  lt : i < bl.length
  lo : ∀ j (h : j < bl.length), j < i → ∀ x ∈ bl[j].getLast?, less x k = true
  hi : i + 1 = bl.length ∨ ∀ x ∈ (bl[i]'lt).getLast?, less x k = false

theorem flat_parts {bl : List (List Txt)} {i : Nat} (h : i < bl.length) : bl.flatten = (bl.take i).flatten ++ (bl[i] ++ (bl.drop (i + 1)).flatten) := by
  have h1 : bl = bl.take i ++ bl[i] :: bl.drop (i + 1) := by rw [List.getElem_cons_drop h, List.take_append_drop]
  conv => lhs; rw [h1]
  rw [List.flatten_append, List.flatten_cons]
theorem last_le {b : List Txt} (hu : UpK b) {x l : Txt} (hx : x ∈ b) (hl : l ∈ b.getLast?) : x = l ∨ less x l = true := by
  rw [Option.mem_def, List.getLast?_eq_some_iff] at hl
  obtain ⟨c, rfl⟩ := hl
  rcases List.mem_append.1 hx with h | h
  · exact .inr ((List.pairwise_append.1 hu).2.2 x h l (List.mem_singleton.2 rfl))
  · exact .inl (List.mem_singleton.1 h)
theorem upK_block {bl : List (List Txt)} (hu : UpK bl.flatten) {b : List Txt} (hb : b ∈ bl) : UpK b := (List.pairwise_flatten.1 hu).1 b hb
theorem Find.before {bl : List (List Txt)} {k : Txt} {i : Nat} (h : Find bl k i) (hu : UpK bl.flatten) (hn : ∀ b ∈ bl, b ≠ []) : ∀ x ∈ (bl.take i).flatten, less x k = true := by
  intro x hx
  obtain ⟨b, hb, hxb⟩ := List.mem_flatten.1 hx
  obtain ⟨j, hj, e⟩ := List.mem_iff_getElem.1 hb
  rw [List.length_take] at hj
  rw [List.getElem_take] at e
  have hb2 : b ∈ bl := List.mem_of_mem_take hb
  obtain ⟨l, hl⟩ : ∃ l, l ∈ b.getLast? := by
    cases hg : b.getLast? with
    | none => exact absurd (List.getLast?_eq_none_iff.1 hg) (hn b hb2)
    | some l => exact ⟨l, rfl⟩
  have h1 := h.lo j (by omega) (by omega) l (by rw [e]; exact hl)
  rcases last_le (upK_block hu hb2) hxb hl with rfl | h2
  · exact h1
  · exact less_trans h2 h1
theorem Find.behind {bl : List (List Txt)} {k : Txt} {i : Nat} (h : Find bl k i) (hu : UpK bl.flatten) (hn : ∀ b ∈ bl, b ≠ []) : ∀ y ∈ (bl.drop (i + 1)).flatten, less k y = true := by
  intro y hy
  rcases h.hi with h1 | h1
  · rw [List.drop_of_length_le (by omega)] at hy; simp at hy
  · have hb2 : bl[i]'h.lt ∈ bl := List.getElem_mem _
    obtain ⟨l, hl⟩ : ∃ l, l ∈ (bl[i]'h.lt).getLast? := by
      cases hg : (bl[i]'h.lt).getLast? with
      | none => exact absurd (List.getLast?_eq_none_iff.1 hg) (hn _ hb2)
      | some l => exact ⟨l, rfl⟩
    have h2 := h1 l hl
    rw [flat_parts h.lt] at hu
    have h3 := (List.pairwise_append.1 hu).2.1
    have h4 := (List.pairwise_append.1 h3).2.2 l (List.mem_of_getLast? hl) y hy
    exact less_of_le h2 h4 |> fun h5 => h5

/-- A new key in its block. -/
theorem enter_keys {t : Tab} {bl : List (List Txt)} {k : Txt} {i a : Nat} (hu : Up t) (hf : bl.flatten = keysP t) (hn : ∀ b ∈ bl, b ≠ []) (h : Find bl k i) (ha : At (bl[i]'h.lt) k a) (hk : getP t k = none) (v : Txt) :
    keysP (insP t k v) = (bl.take i ++ ((bl[i]'h.lt).take a ++ k :: (bl[i]'h.lt).drop a) :: bl.drop (i + 1)).flatten := by
  have hu2 : UpK bl.flatten := by rw [hf]; exact upK_keys.2 hu
  have hkb : k ∉ bl[i]'h.lt := fun hm => mem_keys.1 (by rw [← hf]; exact List.mem_flatten.2 ⟨_, List.getElem_mem _, hm⟩) hk
  have h1 : keysP t = ((bl.take i).flatten ++ (bl[i]'h.lt).take a) ++ ((bl[i]'h.lt).drop a ++ (bl.drop (i + 1)).flatten) := by
    rw [← hf, flat_parts h.lt, List.append_assoc, ← List.append_assoc (List.take a _), List.take_append_drop]
  rw [keys_ins k v h1 (fun x hx => ?_) (fun y hy => ?_)]
  · rw [List.flatten_append, List.flatten_cons]; simp
  · rcases List.mem_append.1 hx with hx | hx
    · exact h.before hu2 hn x hx
    · exact ha.take x hx
  · rcases List.mem_append.1 hy with hy | hy
    · exact ha.drop hkb y hy
    · exact h.behind hu2 hn y hy
/-- A key that is there lies in the block that is found. -/
theorem find_there {t : Tab} {bl : List (List Txt)} {k : Txt} {i : Nat} (hu : Up t) (hf : bl.flatten = keysP t) (hn : ∀ b ∈ bl, b ≠ []) (h : Find bl k i) (hk : getP t k ≠ none) : k ∈ bl[i]'h.lt := by
  have hu2 : UpK bl.flatten := by rw [hf]; exact upK_keys.2 hu
  have hm : k ∈ bl.flatten := by rw [hf]; exact mem_keys.2 hk
  rw [flat_parts h.lt] at hm
  rcases List.mem_append.1 hm with hm | hm
  · have := h.before hu2 hn k hm; rw [less_irrefl] at this; cases this
  · rcases List.mem_append.1 hm with hm | hm
    · exact hm
    · have := h.behind hu2 hn k hm; rw [less_irrefl] at this; cases this
/-- A key goes. -/
theorem leave_keys {t : Tab} {bl : List (List Txt)} {k : Txt} {i a : Nat} (hu : Up t) (hf : bl.flatten = keysP t) (hi : i < bl.length) (ha : a < bl[i].length) (hk : bl[i][a] = k) :
    keysP (delP t k) = (bl.take i ++ (bl[i].take a ++ bl[i].drop (a + 1)) :: bl.drop (i + 1)).flatten := by
  have h1 : keysP t = ((bl.take i).flatten ++ bl[i].take a) ++ k :: (bl[i].drop (a + 1) ++ (bl.drop (i + 1)).flatten) := by
    rw [← hf, flat_parts hi]
    have h2 : bl[i] = bl[i].take a ++ k :: bl[i].drop (a + 1) := by rw [← hk, List.getElem_cons_drop ha, List.take_append_drop]
    conv => lhs; rw [h2]
    simp
  rw [keys_del hu h1, List.flatten_append, List.flatten_cons]; simp

/-! ### those under a beginning -/
/-- What the two loops over the rest of the keys collect: stop at the first key above that does not begin so. -/
def scanP (b : Txt) : Tab → Tab
  | [] => []
  | p :: t => if b.isPrefixOf p.1 then p :: scanP b t else if less b p.1 then [] else scanP b t
theorem scan_under (b : Txt) : ∀ {t : Tab}, Up t → scanP b t = underP t b
  | [], _ => rfl
  | p :: t, hu => by
    have hp := List.pairwise_cons.1 hu
    unfold scanP underP
    by_cases h : b.isPrefixOf p.1 = true
    · rw [if_pos h, List.filter_cons_of_pos (by exact h), scan_under b hp.2]; rfl
    · rw [if_neg h, List.filter_cons_of_neg (by exact h)]
      split
      · rename_i hl
        symm
        refine List.filter_eq_nil_iff.2 fun q hq hbq => h ?_
        rw [List.isPrefixOf_iff_prefix] at hbq ⊢
        exact prefix_between hbq (less_asymm hl) (hp.1 q hq)
      · exact scan_under b hp.2
theorem under_none {t : Tab} {b : Txt} (h : ∀ p ∈ t, less p.1 b = true) : underP t b = [] := by
  refine List.filter_eq_nil_iff.2 fun q hq hbq => ?_
  rw [List.isPrefixOf_iff_prefix] at hbq
  have := prefix_not_less hbq
  rw [h q hq] at this; cases this
theorem under_append (s t : Tab) (b : Txt) : underP (s ++ t) b = underP s b ++ underP t b := List.filter_append _ _
theorem under_nil (t : Tab) : underP t [] = t := List.filter_eq_self.2 fun _ _ => by rw [List.isPrefixOf_iff_prefix]; exact List.nil_prefix
end Go.Proofs.Ythnjakomkdlglaa
