/- The deferred calls of loops over functions that are over. No condition. -/
import Derived.Test.YtmclmccgghnglaaGreatLsReg
namespace Go.Proofs.YtmclmccgghnglaaGreat
open Go.RowKit

/-- Each is the mark of a loop that is over, in a block of its own from B on. -/
def Marks (B : Nat) (ds : List Deferred) (w : World) : Prop := ds.Pairwise (fun x y => x.target ≠ y.target) ∧ ∀ d ∈ ds, ∃ D, d.target = .collected D ∧ B ≤ D ∧ w.heap[D]? = some (.deferred (some []))
/-- Only blocks from B on that are no cells have turned. -/
structure CellsSame (B : Nat) (w w' : World) : Prop where
  os : w'.os = w.os
  tape : w'.tape = w.tape
  output : w'.output = w.output
  size : w'.heap.size = w.heap.size
  below : ∀ k, k < B → w'.heap[k]? = w.heap[k]?
  cells : ∀ (k : Nat) (cs : Array Value) (T : TypeId) (fr : Nat × Nat), w.heap[k]? = some (.cells cs T fr) → w'.heap[k]? = some (.cells cs T fr)
theorem CellsSame.refl (B : Nat) (w : World) : CellsSame B w w := ⟨rfl, rfl, rfl, rfl, fun _ _ => rfl, fun _ _ _ _ h => h⟩
theorem CellsSame.trans {B : Nat} {a b c : World} (h : CellsSame B a b) (k : CellsSame B b c) : CellsSame B a c :=
  ⟨k.os.trans h.os, k.tape.trans h.tape, k.output.trans h.output, k.size.trans h.size, fun i hi => (k.below i hi).trans (h.below i hi), fun i cs T fr hi => k.cells i cs T fr (h.cells i cs T fr hi)⟩
theorem CellsSame.onto {B : Nat} {w a b : World} (k : CellsSame B a b) (h : Below B w a) : Below B w b :=
  ⟨k.os.trans h.os, k.tape.trans h.tape, k.output.trans h.output, by rw [k.size]; exact h.size, fun i hi => (k.below i hi).trans (h.block i hi)⟩
theorem CellsSame.cell {B : Nat} {w w' : World} (k : CellsSame B w w') {b o : Nat} {v : Value} (h : w.cell? ⟨b, o, none⟩ = some v) : w'.cell? ⟨b, o, none⟩ = some v := by
  have h2 := h
  unfold World.cell? at h2
  cases ho : w.heap[b]? with
  | none => simp [ho] at h2
  | some x =>
    cases x with
    | cells cs T fr =>
      have := k.cells b cs T fr ho
      rw [Lib.cell_of_heap this, ← h, Lib.cell_of_heap ho]
    | _ => simp [ho] at h2
theorem cellsSame_put {B D : Nat} {w : World} {o o' : Obj} (hB : B ≤ D) (h : w.heap[D]? = some o) (ho : o.isCells = false) : CellsSame B w (w.putObj D o') := by
  refine ⟨rfl, rfl, rfl, by simp, fun k hk => World.putObj_heap_other (by omega), fun k cs T fr hk => ?_⟩
  rw [World.putObj_heap_other]
  · exact hk
  · intro e
    subst e
    rw [h] at hk
    cases hk
    cases ho
theorem leave_marks {P : Program} {F : Fence} {n : Nat} {fn : Func} {tmps : Array Value} {R : Ending → World → Prop} {B : Nat} : ∀ (ds : List Deferred) (w : World), Marks B ds w → (∀ w', CellsSame B w w' → LeavesInM F n P fn tmps R [] .returning w') → LeavesInM F n P fn tmps R ds .returning w
  | [], w, _, h => h w (CellsSame.refl _ _)
  | d :: ds, w, hm, h => by
    obtain ⟨hp, hd⟩ := hm
    obtain ⟨D, h1, h2, h3⟩ := hd d (by simp)
    have hs : CellsSame B w (w.putObj D (.deferred none)) := cellsSame_put h2 h3 rfl
    refine ⟨by simp, .inl ⟨D, _, h1, run_takeDeferred h3, leave_marks ds _ ⟨(List.pairwise_cons.1 hp).2, fun d' hd' => ?_⟩ fun w' hw' => h w' (hs.trans hw')⟩⟩
    obtain ⟨D', k1, k2, k3⟩ := hd d' (by simp [hd'])
    refine ⟨D', k1, k2, ?_⟩
    rw [World.putObj_heap_other]
    · exact k3
    · intro e
      subst e
      exact (List.pairwise_cons.1 hp).1 d' hd' (by rw [h1, k1])
theorem Marks.keep {B : Nat} {ds : List Deferred} {w w' : World} {S : Nat → Prop} (h : Marks B ds w) (k : Keep S w w') (hS : ∀ x, S x → ∀ c, w.heap[x]? ≠ some (.deferred c)) : Marks B ds w' :=
  ⟨h.1, fun d hd => by
    obtain ⟨D, k1, k2, k3⟩ := h.2 d hd
    exact ⟨D, k1, k2, k.at k3 (fun e => hS D e _ k3)⟩⟩
theorem Marks.cons {B D : Nat} {ds : List Deferred} {w : World} (h : Marks B ds w) (hB : B ≤ D) (hD : w.heap[D]? = some (.deferred (some []))) (hn : ∀ d ∈ ds, d.target ≠ .collected D) : Marks B ({ target := .collected D, args := #[] } :: ds) w :=
  ⟨List.pairwise_cons.2 ⟨fun d hd e => hn d hd e.symm, h.1⟩, fun d hd => by
    rcases List.mem_cons.1 hd with rfl | hd
    · exact ⟨D, rfl, hB, hD⟩
    · exact h.2 d hd⟩
end Go.Proofs.YtmclmccgghnglaaGreat
