/- Trees of hashes, plainly: no program, no condition. -/
import Derived.Test.YtbfdjjaonjepnaaShaP
namespace Go.Proofs.Ytbfdjjaonjepnaa

/-- What is summed for a leaf, and for a node. -/
def leafT (k : Nat) (b : List UInt8) : List UInt8 := UInt8.ofNat (2 * k) :: b
def nodeT (k : Nat) (a b : List UInt8) : List UInt8 := UInt8.ofNat (2 * k + 1) :: (a ++ b)
def leafF (k : Nat) (b : List UInt8) : List UInt8 := shaF (leafT k b)
def nodeF (k : Nat) (a b : List UInt8) : List UInt8 := shaF (nodeT k a b)
theorem leafF_length (k : Nat) (b : List UInt8) : (leafF k b).length = 32 := shaF_length _
theorem nodeF_length (k : Nat) (a b : List UInt8) : (nodeF k a b).length = 32 := shaF_length _

/-- How deep a tree of n leaves is: the bits of n - 1. -/
def bitsN (n : Nat) : Nat := if h : n = 0 then 0 else bitsN (n / 2) + 1
termination_by n
decreasing_by exact Nat.div_lt_self (Nat.pos_of_ne_zero h) (by omega)
theorem bitsN_zero : bitsN 0 = 0 := by rw [bitsN]; simp
theorem bitsN_pos (n : Nat) (h : 0 < n) : bitsN n = bitsN (n / 2) + 1 := by rw [bitsN]; rw [dif_neg (by omega)]
theorem bitsN_lt (n : Nat) : n < 2 ^ bitsN n := by
  induction n using Nat.strongRecOn with
  | ind n ih =>
    rcases Nat.eq_zero_or_pos n with h | h
    · subst h; rw [bitsN_zero]; omega
    · rw [bitsN_pos n h, Nat.pow_succ]
      have := ih (n / 2) (by omega)
      omega
theorem bitsN_le (n d : Nat) (h : n < 2 ^ d) : bitsN n ≤ d := by
  induction d generalizing n with
  | zero => obtain rfl : n = 0 := by omega
            rw [bitsN_zero]; omega
  | succ d ih =>
    rcases Nat.eq_zero_or_pos n with h0 | h0
    · subst h0; rw [bitsN_zero]; omega
    · rw [bitsN_pos n h0]
      have := ih (n / 2) (by rw [Nat.pow_succ] at h; omega)
      omega
def depthF (n : Nat) : Nat := bitsN (n - 1)
theorem depthF_ge (n : Nat) : n ≤ 2 ^ depthF n := by have := bitsN_lt (n - 1); unfold depthF; omega
theorem depthF_le (n d : Nat) (h : n ≤ 2 ^ d) : depthF n ≤ d := bitsN_le _ _ (by have : 0 < 2 ^ d := Nat.pow_pos (by omega); omega)
theorem depthF_lt (n d : Nat) (h : d < depthF n) : 2 ^ d < n := by
  rcases Nat.lt_or_ge (2 ^ d) n with h1 | h1
  · exact h1
  · have := depthF_le n d h1; omega

/-- The lowest row, and the texts of it. -/
def groundT (k d : Nat) (l : List (List UInt8)) : List (List UInt8) := (List.range (2 ^ d)).map fun i => leafT k (l.getD i [])
def groundF (k d : Nat) (l : List (List UInt8)) : List (List UInt8) := (groundT k d l).map shaF
/-- The row above, and the texts of it. -/
def upT (k : Nat) (row : List (List UInt8)) : List (List UInt8) := (List.range (row.length / 2)).map fun i => nodeT k (row.getD (2 * i) []) (row.getD (2 * i + 1) [])
def upF (k : Nat) (row : List (List UInt8)) : List (List UInt8) := (upT k row).map shaF
def rowAt (k : Nat) (g : List (List UInt8)) : Nat → List (List UInt8)
  | 0 => g
  | j + 1 => upF k (rowAt k g j)
/-- All rows, the lowest first. -/
def levelsF (k : Nat) (l : List (List UInt8)) : List (List (List UInt8)) := (List.range (depthF l.length + 1)).map (rowAt k (groundF k (depthF l.length) l))
def rootF (k : Nat) (l : List (List UInt8)) : List UInt8 := (rowAt k (groundF k (depthF l.length) l) (depthF l.length)).getD 0 []
/-- All texts that are summed, in order. -/
def notesF (k : Nat) (l : List (List UInt8)) : List (List UInt8) := groundT k (depthF l.length) l ++ (List.range (depthF l.length)).flatMap fun j => upT k (rowAt k (groundF k (depthF l.length) l) j)

theorem groundT_length (k d : Nat) (l : List (List UInt8)) : (groundT k d l).length = 2 ^ d := by simp [groundT]
theorem groundF_length (k d : Nat) (l : List (List UInt8)) : (groundF k d l).length = 2 ^ d := by simp [groundF, groundT]
theorem upT_length (k : Nat) (r : List (List UInt8)) : (upT k r).length = r.length / 2 := by simp [upT]
theorem upF_length (k : Nat) (r : List (List UInt8)) : (upF k r).length = r.length / 2 := by simp [upF, upT]
theorem rowAt_length (k : Nat) (g : List (List UInt8)) : ∀ j, (rowAt k g j).length = g.length / 2 ^ j
  | 0 => by simp [rowAt]
  | j + 1 => by rw [rowAt, upF_length, rowAt_length k g j, Nat.div_div_eq_div_mul, Nat.pow_succ]
theorem rowAt_pow (k d : Nat) (g : List (List UInt8)) (hg : g.length = 2 ^ d) (j : Nat) (hj : j ≤ d) : (rowAt k g j).length = 2 ^ (d - j) := by
  rw [rowAt_length, hg, Nat.pow_div hj (by omega)]
/-- Each is a hash. -/
def All32 (l : List (List UInt8)) : Prop := ∀ x ∈ l, x.length = 32
theorem all32_map (l : List (List UInt8)) : All32 (l.map shaF) := by
  intro x hx
  obtain ⟨y, _, rfl⟩ := List.mem_map.1 hx
  exact shaF_length y
theorem groundF_32 (k d : Nat) (l : List (List UInt8)) : All32 (groundF k d l) := all32_map _
theorem upF_32 (k : Nat) (r : List (List UInt8)) : All32 (upF k r) := all32_map _
theorem rowAt_32 (k : Nat) (g : List (List UInt8)) (hg : All32 g) : ∀ j, All32 (rowAt k g j)
  | 0 => hg
  | _ + 1 => upF_32 _ _
theorem groundF_at (k d : Nat) (l : List (List UInt8)) (i : Nat) (h : i < 2 ^ d) : (groundF k d l)[i]? = some (leafF k (l.getD i [])) := by
  simp [groundF, groundT, h, leafF]
theorem upF_at (k : Nat) (r : List (List UInt8)) (i : Nat) (h : i < r.length / 2) : (upF k r)[i]? = some (nodeF k (r.getD (2 * i) []) (r.getD (2 * i + 1) [])) := by
  simp [upF, upT, h, nodeF]
theorem levelsF_length (k : Nat) (l : List (List UInt8)) : (levelsF k l).length = depthF l.length + 1 := by simp [levelsF]
theorem levelsF_at (k : Nat) (l : List (List UInt8)) (j : Nat) (h : j ≤ depthF l.length) : (levelsF k l)[j]? = some (rowAt k (groundF k (depthF l.length) l) j) := by
  have : j < depthF l.length + 1 := by omega
  simp [levelsF, this]
theorem top_length (k : Nat) (l : List (List UInt8)) : (rowAt k (groundF k (depthF l.length) l) (depthF l.length)).length = 1 := by
  rw [rowAt_pow k _ _ (groundF_length _ _ _) _ (Nat.le_refl _)]; simp
theorem top_eq (k : Nat) (l : List (List UInt8)) : rowAt k (groundF k (depthF l.length) l) (depthF l.length) = [rootF k l] := by
  have h := top_length k l
  unfold rootF
  match hx : rowAt k (groundF k (depthF l.length) l) (depthF l.length), h with
  | [x], _ => simp
theorem rootF_length (k : Nat) (l : List (List UInt8)) : (rootF k l).length = 32 := by
  have h := rowAt_32 k _ (groundF_32 k (depthF l.length) l) (depthF l.length)
  rw [top_eq] at h
  exact h _ (by simp)

/-! ### two texts of one sum -/
/-- Have two unlike ones of these one sum? -/
def Twin (l : List (List UInt8)) : Prop := ∃ x ∈ l, ∃ y ∈ l, x ≠ y ∧ shaF x = shaF y
theorem Twin.mono {l m : List (List UInt8)} (h : Twin l) (hs : ∀ x ∈ l, x ∈ m) : Twin m := by
  obtain ⟨x, hx, y, hy, h1, h2⟩ := h
  exact ⟨x, hs x hx, y, hs y hy, h1, h2⟩
theorem no_twin {n : List (List UInt8)} (hn : ¬ Twin n) {x y : List UInt8} (hx : x ∈ n) (hy : y ∈ n) (h : shaF x = shaF y) : x = y :=
  Classical.byContradiction fun hne => hn ⟨x, hx, y, hy, hne, h⟩
theorem no_twin_map {n : List (List UInt8)} (hn : ¬ Twin n) : ∀ {a b : List (List UInt8)}, (∀ x ∈ a, x ∈ n) → (∀ x ∈ b, x ∈ n) → a.map shaF = b.map shaF → a = b
  | [], [], _, _, _ => rfl
  | [], _ :: _, _, _, h => by simp at h
  | _ :: _, [], _, _, h => by simp at h
  | x :: a, y :: b, ha, hb, h => by
    simp only [List.map_cons, List.cons.injEq] at h
    rw [no_twin hn (ha x (by simp)) (hb y (by simp)) h.1, no_twin_map hn (fun z hz => ha z (by simp [hz])) (fun z hz => hb z (by simp [hz])) h.2]
theorem nodeT_inj {k : Nat} {a b c d : List UInt8} (h : nodeT k a b = nodeT k c d) (ha : a.length = 32) (hc : c.length = 32) : a = c ∧ b = d := by
  unfold nodeT at h
  simp only [List.cons.injEq, true_and] at h
  exact List.append_inj h (by omega)
theorem getD_32 {l : List (List UInt8)} (h : All32 l) (i : Nat) (hi : i < l.length) : (l.getD i []).length = 32 := by
  rw [List.getD_eq_getElem?_getD, List.getElem?_eq_getElem hi]
  exact h _ (List.getElem_mem hi)
theorem upT_inj {k : Nat} {a b : List (List UInt8)} (ha : All32 a) (hb : All32 b) (hl : a.length = b.length) (he : a.length % 2 = 0) (h : upT k a = upT k b) : a = b := by
  apply List.ext_getElem? fun i => ?_
  rcases Nat.lt_or_ge i a.length with hi | hi
  · have h2 : i / 2 < a.length / 2 := by omega
    have h3 : (upT k a)[i / 2]? = (upT k b)[i / 2]? := by rw [h]
    simp only [upT, List.getElem?_map, List.getElem?_range h2, List.getElem?_range (show i / 2 < b.length / 2 by omega), Option.map_some, Option.some.injEq] at h3
    have h4 := nodeT_inj h3 (getD_32 ha _ (by omega)) (getD_32 hb _ (by omega))
    have key : a.getD i [] = b.getD i [] := by
      rcases Nat.mod_two_eq_zero_or_one i with h5 | h5
      · rw [show i = 2 * (i / 2) by omega]; exact h4.1
      · rw [show i = 2 * (i / 2) + 1 by omega]; exact h4.2
    rw [List.getD_eq_getElem?_getD, List.getD_eq_getElem?_getD, List.getElem?_eq_getElem hi, List.getElem?_eq_getElem (show i < b.length by omega)] at key
    rw [List.getElem?_eq_getElem hi, List.getElem?_eq_getElem (show i < b.length by omega)]
    simpa using key
  · rw [List.getElem?_eq_none hi, List.getElem?_eq_none (by omega)]
theorem row_back {n : List (List UInt8)} (hn : ¬ Twin n) (k d : Nat) (ga gb : List (List UInt8)) (ha : All32 ga) (hb : All32 gb) (la : ga.length = 2 ^ d) (lb : gb.length = 2 ^ d)
    (na : ∀ j, j < d → ∀ x ∈ upT k (rowAt k ga j), x ∈ n) (nb : ∀ j, j < d → ∀ x ∈ upT k (rowAt k gb j), x ∈ n) :
    ∀ c j, j + c = d → rowAt k ga d = rowAt k gb d → rowAt k ga j = rowAt k gb j
  | 0, j, hj, h => by obtain rfl : j = d := by omega
                      exact h
  | c + 1, j, hj, h => by
    have h1 := row_back hn k d ga gb ha hb la lb na nb c (j + 1) (by omega) h
    rw [rowAt, rowAt] at h1
    have h2 := no_twin_map hn (na j (by omega)) (nb j (by omega)) h1
    refine upT_inj (rowAt_32 k ga ha j) (rowAt_32 k gb hb j) (by rw [rowAt_length, rowAt_length, la, lb]) ?_ h2
    rw [rowAt_pow k d ga la j (by omega), show d - j = (d - j - 1) + 1 by omega, Nat.pow_succ]
    omega
theorem mem_notes_up (k : Nat) (l : List (List UInt8)) (j : Nat) (hj : j < depthF l.length) : ∀ x ∈ upT k (rowAt k (groundF k (depthF l.length) l) j), x ∈ notesF k l := by
  intro x hx
  unfold notesF
  exact List.mem_append_right _ (List.mem_flatMap.2 ⟨j, List.mem_range.2 hj, hx⟩)
theorem mem_notes_ground (k : Nat) (l : List (List UInt8)) : ∀ x ∈ groundT k (depthF l.length) l, x ∈ notesF k l := fun _ hx => List.mem_append_left _ hx
/-- Alike but for empty ones at the end. -/
def Alike (a b : List (List UInt8)) : Prop := ∀ i, a.getD i [] = b.getD i []
theorem root_alike (k : Nat) (a b : List (List UInt8)) (hd : depthF a.length = depthF b.length) (h : Alike a b) : rootF k a = rootF k b := by
  unfold rootF groundF groundT
  rw [hd]
  simp only [h _]
theorem apart (k : Nat) (a b : List (List UInt8)) (hd : depthF a.length = depthF b.length) (h : rootF k a = rootF k b) : Alike a b ∨ Twin (notesF k a ++ notesF k b) := by
  by_cases hn : Twin (notesF k a ++ notesF k b)
  · exact .inr hn
  refine .inl fun i => ?_
  have ta := top_eq k a
  have tb := top_eq k b
  rw [h, ← tb, ← hd] at ta
  have h0 := row_back hn k (depthF a.length) _ _ (groundF_32 k _ a) (groundF_32 k _ b) (groundF_length _ _ _) (groundF_length _ _ _)
    (fun j hj x hx => List.mem_append_left _ (mem_notes_up k a j hj x hx)) (fun j hj x hx => List.mem_append_right _ (mem_notes_up k b j (by omega) x (by rw [← hd]; exact hx))) (depthF a.length) 0 (by omega) ta
  have h1 : groundT k (depthF a.length) a = groundT k (depthF a.length) b :=
    no_twin_map hn (fun x hx => List.mem_append_left _ (mem_notes_ground k a x hx)) (fun x hx => List.mem_append_right _ (mem_notes_ground k b x (by rw [← hd]; exact hx))) h0
  rcases Nat.lt_or_ge i (2 ^ depthF a.length) with hi | hi
  · have h2 : (groundT k (depthF a.length) a)[i]? = (groundT k (depthF a.length) b)[i]? := by rw [h1]
    simp only [groundT, List.getElem?_map, List.getElem?_range hi, Option.map_some, Option.some.injEq, leafT, List.cons.injEq, true_and] at h2
    exact h2
  · have := depthF_ge a.length
    have h5 := depthF_ge b.length
    rw [← hd] at h5
    rw [List.getD_eq_getElem?_getD, List.getD_eq_getElem?_getD, List.getElem?_eq_none (by omega), List.getElem?_eq_none (by omega)]
end Go.Proofs.Ytbfdjjaonjepnaa
