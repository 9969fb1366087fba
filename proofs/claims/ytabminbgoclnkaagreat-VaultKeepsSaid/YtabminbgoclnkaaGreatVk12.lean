/- What stands under a key behind a Set or a Delete: no condition. (The same facts stand in LawH: never import both.) Small pieces that the texts of 28 and 32 hold too (never import both): literal slices, keys, stores. No condition. -/
import Derived.Test.YtabminbgoclnkaaGreatVkCelP
import Derived.Test.YtabminbgoclnkaaGreatVk11
namespace Go.Proofs.YtabminbgoclnkaaGreat
section
open Go.RowKit

theorem getP_set (s : PS) (k v q : Txt) : getP (s.set k v).t q = if k = q ∧ k ≠ [] then some v else getP s.t q := by
 unfold PS.set
 by_cases h : k = [] ∨ getP s.t k = some v
 ·rw [if_pos h]
  by_cases h2 : k = q ∧ k ≠ []
  ·rw [if_pos h2]
   rcases h with h | h
   ·exact absurd h h2.2
   ·rw [← h2.1]; exact h
  ·rw [if_neg h2]
 ·rw [if_neg h]; have h1 : k ≠ [] := fun e => h (.inl e)
  show getP (layP s.t k v true) q = _
  rw [getP_lay]
  by_cases h2 : k = q
  ·have h3 : k = q ∧ k ≠ [] := ⟨h2, h1⟩; rw [if_pos h2, if_pos h3]; rfl
  ·rw [if_neg h2, if_neg fun e => h2 e.1]
theorem getP_sdel (s : PS) (k q : Txt) : getP (s.del k).t q = if k = q then none else getP s.t q := by
 unfold PS.del
 by_cases h : getP s.t k = none
 ·rw [if_pos h]
  by_cases h2 : k = q
  ·rw [if_pos h2, ← h2]; exact h
  ·rw [if_neg h2]
 ·rw [if_neg h]
  show getP (layP s.t k [] false) q = _
  rw [getP_lay]; rfl
theorem eq_txt (a b : Txt) : ((bs a).toList == (bs b).toList) = decide (a = b) := by
 rw [toList_bs, toList_bs, Bool.eq_iff_iff, beq_iff_eq, decide_eq_true_iff]

theorem valF_set (s : PS) (k v q : Txt) : valF (getP (s.set k v).t) q = if k = q ∧ k ≠ [] then v else valF (getP s.t) q := by
 unfold valF
 rw [getP_set]
 split <;> rfl
theorem valF_del (s : PS) (k q : Txt) : valF (getP (s.del k).t) q = if k = q then [] else valF (getP s.t) q := by
 unfold valF
 rw [getP_sdel]
 split <;> rfl
theorem valF_putv (s : PS) (k v q : Txt) (hk : k ≠ []) : valF (getP (s.putv k v).t) q = if k = q then v else valF (getP s.t) q := by
 unfold PS.putv
 split
 ·rename_i h; rw [valF_del, h]
 ·rw [valF_set]
  by_cases h : k = q
  ·rw [if_pos ⟨h, hk⟩, if_pos h]
  ·rw [if_neg fun e => h e.1, if_neg h]
theorem rowF_setRow (s : PS) (k q : Txt) {l : List Int} (hk : k ≠ []) (h : ∀ x ∈ l, 0 ≤ x ∧ x < 9223372036854775808) : rowF (valF (getP (s.setRow k l).t) q) = if k = q then l else rowF (valF (getP s.t) q) := by
 unfold PS.setRow
 rw [if_neg (by rintro ⟨x, hx, h1⟩; have := (h x hx).1; omega), valF_putv _ _ _ _ hk]
 split
 ·exact rowF_flat h
 ·rfl
theorem keyF_ne {t : Int} {ids : List Int} (h1 : 1 ≤ t) (h2 : t ≤ 255) (h : ∀ x ∈ ids, 0 ≤ x) : keyF t ids ≠ [] := by
 unfold keyF
 rw [if_neg]
 ·simp
 ·rintro (h3 | h3 | ⟨x, hx, h3⟩)
  ·omega
  ·omega
  ·have := h x hx; omega
end
section
open Go.RowKit

theorem flat_intE (l : List Int) : l.flatMap intE = l.map (Value.int .i64) := by
 induction l with
 | nil => rfl
 | cons x l ih => rw [List.flatMap_cons, ih]; rfl
theorem own_lit {w : World} {g B : Nat} {l : List Int} (hg : w.heap[g]? = some (.cells (l.map (Value.int .i64)).toArray 3 (0, 0))) (hB : B ≤ g) (hl : l.length ≤ maxLen) : Own w B 3 intE 1 (.slice (some ⟨g, 0, none⟩) l.length l.length) l := by
 refine ⟨by rw [flat_intE]; simp, .inr ⟨g, l.length, _, rfl, hB, hg, Nat.le_refl _, hl, by simp, ?_⟩⟩; rw [flat_intE, List.take_of_length_le (by simp)]
theorem below_at' {a b : World} (h : Below a.heap.size a b) {k : Nat} {o : Obj} (ho : a.heap[k]? = some o) : b.heap[k]? = some o := (Keep.of_below (S := fun _ => False) h).at ho id
theorem I64s.one {n : Int} (h : -9223372036854775808 ≤ n ∧ n < 9223372036854775808) : I64s [n] := by
 intro x hx; simp only [List.mem_singleton] at hx; rw [hx]; exact h
theorem below_new (w : World) (o : Obj) : Below w.heap.size w (w.alloc o) := (Below.refl _ _).alloc (Nat.le_refl _) o
theorem I64s.two {a b : Int} (h1 : -9223372036854775808 ≤ a ∧ a < 9223372036854775808) (h2 : -9223372036854775808 ≤ b ∧ b < 9223372036854775808) : I64s [a, b] := by
 intro x hx; simp only [List.mem_cons, List.not_mem_nil, or_false] at hx
 rcases hx with rfl | rfl
 ·exact h1
 ·exact h2
theorem wp_alloc_g {P : Program} {o : Oper} {a : Act} {w : World} {K : Act → World → Prop} {Q : Exit → Act → World → Prop} (ty : TypeId) (ho : o.op = .alloc ty)
  (z : Value) (cs : Array Value) (hz : ∀ w, (zeroValue ty).run P w = .ok z w) (hc : z.cells = cs)
  (h : ∀ g w', Hid (Made w g cs ty w') → K (a.put o.dst (.pointer (some ⟨g, 0, none⟩))) w') : o.wp P a w K Q := by
 unfold Oper.wp execOp
 simp only [ho, Instr.alloc, Sem.run_bind, Sem.run_pure, Result.andThen_ok, hz w]; have : (newVar ty z).run P w = .ok ⟨w.heap.size, 0, none⟩ (w.alloc (.cells cs ty)) := by
  rw [← hc]; rfl
 simp only [this, Result.andThen_ok]
 exact h _ _ (made_alloc w cs ty)
theorem load_heap {P : Program} {w : World} {g : Nat} {t ty : TypeId} {cs : Array Value} {fr : Nat × Nat} {d : TypeDesc} (hg : w.heap[g]? = some (.cells cs t fr))
  (hu : P.underlying ty = some d) (hd : (match d with | .struct _ | .array _ _ => true | _ => false) = true) (hi : (P.info? ty).map (·.size) = some cs.size) :
  (Instr.loadAt ty (.pointer (some ⟨g, 0, none⟩))).run P w = .ok (.agg cs) w := by
 have h := run_loadVar_row (P := P) w g t ty cs fr d hg hu hd hi
 exact h
theorem Oth.trans {a b c : World} (h1 : Oth a b) (h2 : Oth b c) : Oth a c := ⟨Nat.le_trans h1.1 h2.1, fun R o ho h3 h4 => h2.2 R o (h1.2 R o ho h3 h4) h3 h4⟩
theorem Oth.of_below {a b : World} (h : Below a.heap.size a b) : Oth a b := ⟨h.size, fun _ _ ho _ _ => below_at' h ho⟩
theorem keyF_good {t : Int} {ids : List Int} (h1 : 1 ≤ t) (h2 : t ≤ 255) (h : ∀ x ∈ ids, 0 ≤ x) : keyF t ids = UInt8.ofNat t.toNat :: ids.flatMap numL := by
 unfold keyF
 rw [if_neg]; rintro (h3 | h3 | ⟨x, hx, h3⟩)
 ·omega
 ·omega
 ·have := h x hx; omega
theorem keyF_one {t i : Int} (h1 : 1 ≤ t) (h2 : t ≤ 255) (h : 0 ≤ i) : keyF t [i] = UInt8.ofNat t.toNat :: numL i := by
 rw [keyF_good h1 h2 (by intro x hx; simp only [List.mem_singleton] at hx; omega)]; simp
theorem keyF_inj {t i j : Int} (h1 : 1 ≤ t) (h2 : t ≤ 255) (hi : 0 ≤ i) (hi2 : i < 18446744073709551616) (hj : 0 ≤ j) (hj2 : j < 18446744073709551616) (h : keyF t [i] = keyF t [j]) : i = j := by
 rw [keyF_one h1 h2 hi, keyF_one h1 h2 hj] at h; have h3 := (List.cons.inj h).2; rw [← cbe_numL i hi hi2, ← cbe_numL j hj hj2, h3]
theorem keyF_apart {t u : Int} {l m : List Int} (h1 : 1 ≤ t) (h2 : t ≤ 255) (h3 : 1 ≤ u) (h4 : u ≤ 255) (h : t ≠ u) (hl : keyF t l ≠ []) : keyF t l ≠ keyF u m := by
 have e1 : keyF t l = UInt8.ofNat t.toNat :: l.flatMap numL := by
  unfold keyF at hl ⊢
  split
  ·rename_i hc; rw [if_pos hc] at hl; exact absurd rfl hl
  ·rfl
 rw [e1]
 unfold keyF
 split
 ·simp
 ·intro e; have e2 := (List.cons.inj e).1; have e3 := congrArg UInt8.toNat e2; rw [UInt8.toNat_ofNat', UInt8.toNat_ofNat'] at e3
  omega
theorem rowF_numL {n : Int} (h0 : 0 ≤ n) (h1 : n < 9223372036854775808) : rowF (numL n) = [n] := by
 have := rowF_flat (l := [n]) (by intro x hx; simp only [List.mem_singleton] at hx; omega)
 simpa using this
theorem valF_setInt (s : PS) (k q : Txt) {n : Int} (hk : k ≠ []) (hn : 1 ≤ n) : valF (getP (s.setInt k n).t) q = if k = q then numL n else valF (getP s.t) q := by
 unfold PS.setInt
 rw [if_neg (by omega), valF_set]
 by_cases h : k = q
 ·rw [if_pos ⟨h, hk⟩, if_pos h]
 ·rw [if_neg fun e => h e.1, if_neg h]
end
end Go.Proofs.YtabminbgoclnkaaGreat
