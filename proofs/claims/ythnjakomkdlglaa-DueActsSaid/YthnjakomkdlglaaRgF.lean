/- A loop over a function whose contract tells the body what holds of each thing at the world in which it is yielded. No condition. -/
import Derived.Test.YthnjakomkdlglaaMarks
import Derived.RangeFuncNested
namespace Go.Proofs.Ythnjakomkdlglaa
open Go.RowKit

/-- What a loop over a function keeps of its own. -/
def bookish (o : Obj) : Bool := match o with
  | .loop _ => true
  | .deferred _ => true
  | _ => false
/-- Only what loops keep of their own, from B on, has turned; new blocks are laid. -/
structure Aside (B : Nat) (A A' : World) : Prop where
  os : A'.os = A.os
  tape : A'.tape = A.tape
  output : A'.output = A.output
  size : A.heap.size ≤ A'.heap.size
  keep : ∀ (k : Nat) (o : Obj), A.heap[k]? = some o → (k < B ∨ bookish o = false) → A'.heap[k]? = some o
theorem Aside.refl (B : Nat) (A : World) : Aside B A A := ⟨rfl, rfl, rfl, Nat.le_refl _, fun _ _ h _ => h⟩
theorem Aside.trans {B : Nat} {a b c : World} (h : Aside B a b) (k : Aside B b c) : Aside B a c :=
  ⟨k.os.trans h.os, k.tape.trans h.tape, k.output.trans h.output, Nat.le_trans h.size k.size, fun i o hi ho => k.keep i o (h.keep i o hi ho) ho⟩
theorem Aside.of_below {B : Nat} {A A' : World} (h : Below A.heap.size A A') : Aside B A A' :=
  ⟨h.os, h.tape, h.output, h.size, fun k _ hk _ => (h.block k (Array.getElem?_eq_some_iff.1 hk).1).trans hk⟩
theorem Aside.put {B k : Nat} {A : World} {o o' : Obj} (hB : B ≤ k) (h : A.heap[k]? = some o) (ho : bookish o = true) : Aside B A (A.putObj k o') := by
  refine ⟨rfl, rfl, rfl, by simp, fun i x hi hx => ?_⟩
  rw [World.putObj_heap_other]
  · exact hi
  · intro e
    subst e
    rw [h] at hi
    cases hi
    rcases hx with hx | hx
    · omega
    · rw [ho] at hx; cases hx
/-- What a round must leave. -/
def Leaves (B : Nat) (A A' : World) : Prop := A.heap.size ≤ A'.heap.size ∧ ∀ (k : Nat) (o : Obj), B ≤ k → A.heap[k]? = some o → bookish o = true → A'.heap[k]? = some o
theorem Leaves.refl (B : Nat) (A : World) : Leaves B A A := ⟨Nat.le_refl _, fun _ _ _ h _ => h⟩
theorem Leaves.trans {B : Nat} {a b c : World} (h : Leaves B a b) (k : Leaves B b c) : Leaves B a c := ⟨Nat.le_trans h.1 k.1, fun i o hB hi ho => k.2 i o hB (h.2 i o hB hi ho) ho⟩
theorem Leaves.of_below {B : Nat} {A A' : World} (h : Below A.heap.size A A') : Leaves B A A' := ⟨h.size, fun k _ _ hk _ => (h.block k (Array.getElem?_eq_some_iff.1 hk).1).trans hk⟩
theorem Leaves.of_keep {B : Nat} {S : Nat → Prop} {A A' : World} (h : Keep S A A') (hS : ∀ k, S k → ∃ o, A.heap[k]? = some o ∧ bookish o = false) : Leaves B A A' :=
  ⟨h.size, fun k o _ hk ho => h.at hk fun e => by
    obtain ⟨o', hc, h2⟩ := hS k e
    rw [hk] at hc; cases hc
    rw [ho] at h2; cases h2⟩
/-- What an iterator promises: each thing is yielded where G holds of it. -/
def SeqG {α : Type} (n : Nat) (P : Program) (g : Nat) (lb : Array Value) (encs : α → Array Value) (G : α → World → Prop) (Kp : World → World → Prop) (S Sp : List α → Prop) (N : Nat) (w : World) : Prop :=
  ∀ (l : Nat) (J Jx : List α → World → Prop) (W : World), Below w.heap.size w W →
    (∀ pre A B, J pre A → Below A.heap.size A B → J pre B) → (∀ pre A B, Jx pre A → Below A.heap.size A B → Jx pre B) →
    (∀ pre x W1, J pre W1 → G x W1 → pre.length < N → YieldAt Fence.wide (n - 1) P l (encs x) W1 fun e W' =>
      (e = .returned (.bool true) ∧ J (pre ++ [x]) W' ∧ Kp W1 W') ∨ (e = .returned (.bool false) ∧ Jx (pre ++ [x]) W')) →
    J [] W →
    CallsIn Fence.wide n P g (#[.func (.yield l) #[] #[]] ++ lb) W fun e W' => (∃ v, e = .returned v) ∧ ((∃ xs, S xs ∧ J xs W') ∨ ∃ pre, Sp pre ∧ Jx pre W')
/-- How a round's body may be left. -/
def roundEnds {α : Type} (B : Nat) (Kp : World → World → Prop) (I : List α → World → Prop) (Ix : Code → List α → World → Prop) (xs : List α) (W : World) : Exit → Act → World → Prop
  | .normal, _, W' => Leaves B W W' ∧ Kp W W' ∧ I xs W'
  | .ret, _, W' => Leaves B W W' ∧ Ix .ret xs W'
  | .exit id, _, W' => Leaves B W W' ∧ Ix (.exit id) xs W'
  | .goto t, _, W' => Leaves B W W' ∧ Ix (.goto t) xs W'
  | .panic _, _, _ => False
  | .outgrown, _, _ => False

section
variable {P : Program} {n : Nat}
theorem wpIn_range_g {α : Type} {g : Operand} {ps : Array Tmp} {assign body : Code} {Q : Exit → Act → World → Prop} {a : Act} {w w0 : World}
    (h1 : 1 ≤ n) {gf : Nat} {lb : Array Value} (hg : a.eval g = .func (.func gf) #[] lb) (eg : ∀ args w, (callFunc gf args).run P w = .ok (.enter gf args) w)
    {encs : α → Array Value} {G : α → World → Prop} {Kp : World → World → Prop} {S Sp : List α → Prop} {N : Nat} (hseq : SeqG (n - 1) P gf lb encs G Kp S Sp N w0) (hb0 : Below w0.heap.size w0 w) (hps : ∀ x, (encs x).size = ps.size)
    (hKt : ∀ {A B C : World}, Kp A B → Kp B C → Kp A C) (hKa : ∀ {A B : World}, Aside w.heap.size A B → Kp A B)
    (I : List α → World → Prop) (Ix : Code → List α → World → Prop) (hI : ∀ pre A B, I pre A → Aside w.heap.size A B → I pre B) (hIx : ∀ c pre A B, Ix c pre A → Aside w.heap.size A B → Ix c pre B) (h0 : I [] w)
    (Ax : α → Act → World → Prop) (hAx : ∀ x a' A B, Ax x a' A → Aside w.heap.size A B → Ax x a' B)
    (hassign : ∀ (l : Nat) (pre : List α) (x : α) (W : World) (K : Act → World → Prop), I pre W → G x W → pre.length < N → (∀ a' W', Below W.heap.size W W' → Ax x a' W' → K a' W') →
      assign.wpIn (Fence.wide.inRound l) (n - 1 - 1) P (Exit.then K (fun _ _ _ => False)) { tmps := (ps.zip (encs x)).foldl (fun t (p, v) => t.setIfInBounds p v) a.tmps, defers := [] } W)
    (hbody : ∀ (l : Nat) (pre : List α) (x : α) (a' : Act) (W : World), w.heap.size ≤ l → I pre W → Ax x a' W → pre.length < N → body.wpIn (Fence.wide.inRound l) (n - 1 - 1) P (roundEnds w.heap.size Kp I Ix (pre ++ [x]) W) a' W)
    (hdone : ∀ (D : Nat) (xs : List α) (W : World), w.heap.size ≤ D → S xs → I xs W → W.heap[D]? = some (.deferred (some [])) → Q .normal { a with defers := { target := .collected D, args := #[] } :: a.defers } W)
    (hstop : ∀ (D : Nat) (c : Code) (pre : List α) (W : World), w.heap.size ≤ D → Sp pre → Ix c pre W → W.heap[D]? = some (.deferred (some [])) → c.wpIn Fence.wide n P Q { a with defers := { target := .collected D, args := #[] } :: a.defers } W) :
    (Code.rangeFunc g ps assign body).wpIn Fence.wide n P Q a w := by
  refine wpIn_rangeFunc fun fn hfn => ?_
  -- the two blocks that the loop lays: the rounds' deferred calls, and its record
  obtain ⟨D, hD⟩ : ∃ D, D = w.heap.size := ⟨_, rfl⟩
  obtain ⟨rec, hrec⟩ : ∃ rec : LoopState → Option Code → Loop, ∀ st pe, rec st pe = { state := st, pending := pe, fn, tmps := a.tmps, params := ps, assign, body, defers := D } := ⟨fun st pe => { state := st, pending := pe, fn, tmps := a.tmps, params := ps, assign, body, defers := D }, fun _ _ => rfl⟩
  obtain ⟨w1, hw1⟩ : ∃ w1, w1 = (w.alloc (.deferred (some []))).alloc (.loop (rec .ready none)) := ⟨_, rfl⟩
  have hb1 : Below w.heap.size w w1 := by rw [hw1]; exact ((Below.refl _ w).alloc (Nat.le_refl _) _).alloc (by simp) _
  have hd1 : w1.heap[D]? = some (.deferred (some [])) := by rw [hw1, hD]; exact (Below.heap_alloc _ _ _ (by simp)).trans (World.alloc_heap_new w _)
  have hl1 : w1.heap[D + 1]? = some (.loop (rec .ready none)) := by
    rw [hw1, hD]
    have := World.alloc_heap_new (w.alloc (.deferred (some []))) (.loop (rec .ready none))
    rwa [World.size_alloc] at this
  have hi1 : I [] w1 := hI _ _ _ h0 (Aside.of_below hb1)
  rw [← hD] at hI hIx hAx hbody hdone hstop hKa
  refine ⟨D + 1, [{ target := .collected D, args := #[] }], w1, { target := .fn (.func gf) lb, args := #[.func (.yield (D + 1)) #[] #[]] }, w1, gf, #[.func (.yield (D + 1)) #[] #[]] ++ lb, w1, ?_, ?_, fun _ _ => trivial, ?_, fun _ => h1, ?_⟩
  · rw [hw1, hD, hrec, hD]
    exact run_enterLoop_outer _ _ _ _ _
  · simp only [resolve, hg]
    simp [go_sem]
  · simp [invoke, go_sem, eg]
  -- what is kept beside the caller's invariant
  have two : ∀ {A B : World} (st : Loop), A.heap[D + 1]? = some (.loop st) → A.heap[D]? = some (.deferred (some [])) → Below A.heap.size A B → B.heap[D + 1]? = some (.loop st) ∧ B.heap[D]? = some (.deferred (some [])) :=
    fun st p q h => ⟨(h.block _ (Array.getElem?_eq_some_iff.1 p).1).trans p, (h.block _ (Array.getElem?_eq_some_iff.1 q).1).trans q⟩
  refine (hseq (D + 1) (fun pre W => I pre W ∧ W.heap[D + 1]? = some (.loop (rec .ready none)) ∧ W.heap[D]? = some (.deferred (some [])))
    (fun pre W => ∃ c, Ix c pre W ∧ W.heap[D + 1]? = some (.loop (rec .done (some c))) ∧ W.heap[D]? = some (.deferred (some []))) w1 (hb0.trans (hb1.mono hb0.size))
    (fun pre A B h hb => ⟨hI _ _ _ h.1 (Aside.of_below hb), two _ h.2.1 h.2.2 hb⟩)
    (fun pre A B h hb => by obtain ⟨c, h3, h4⟩ := h; exact ⟨c, hIx _ _ _ _ h3 (Aside.of_below hb), two _ h4.1 h4.2 hb⟩) ?_ ⟨hi1, hl1, hd1⟩).mono ?_
  · -- a round
    rintro pre x W ⟨hi, hl, hd⟩ hgx hlen
    have hy := run_yield (P := P) (args := encs x) hl (by rw [hrec]; exact hps x)
    rw [hrec] at hy
    refine ⟨fn, _, assign, body, hy, roundIn_of_wpIn hfn (hassign _ pre x W _ hi hgx hlen fun a' V hV hax => ?_)⟩
    obtain ⟨hlV, hdV⟩ := two _ hl hd hV
    have hszV := (Array.getElem?_eq_some_iff.1 hlV).1
    obtain ⟨busy, hbusy⟩ : ∃ busy : Loop, busy = { rec .ready none with state := .busy } := ⟨_, rfl⟩
    refine ⟨V.putObj (D + 1) (.loop busy), by rw [hbusy]; exact run_beginRound hlV (by rw [hrec]), ?_⟩
    have asV : Aside D V (V.putObj (D + 1) (.loop busy)) := Aside.put (by omega) hlV rfl
    have hl2 : (V.putObj (D + 1) (.loop busy)).heap[D + 1]? = some (.loop busy) := World.putObj_heap_same hszV
    have hd2 : (V.putObj (D + 1) (.loop busy)).heap[D]? = some (.deferred (some [])) := (World.putObj_heap_other (by omega)).trans hdV
    refine wpIn_mono (hbody (D + 1) pre x a' _ (by omega) (hI _ _ _ (hI _ _ _ hi (Aside.of_below hV)) asV) (hAx _ _ _ _ hax asV) hlen) ?_
    have fin : ∀ (jump : Option Code) (W3 : World), Leaves D (V.putObj (D + 1) (.loop busy)) W3 →
        ∃ W4, (Instr.endRound (D + 1) jump).run P W3 = .ok (.bool jump.isNone) W4 ∧ Aside D W3 W4 ∧ W4.heap[D + 1]? = some (.loop (rec (if jump.isNone then .ready else .done) jump)) ∧ W4.heap[D]? = some (.deferred (some [])) := fun jump W3 h3 => by
      have p := h3.2 _ _ (by omega) hl2 rfl
      have q := h3.2 _ _ (Nat.le_refl _) hd2 rfl
      have hr := run_endRound (P := P) jump p
      have e : ({ busy with state := if jump.isNone then .ready else .done, pending := jump } : Loop) = rec (if jump.isNone then .ready else .done) jump := by rw [hbusy, hrec, hrec]
      rw [e] at hr
      exact ⟨_, hr, Aside.put (by omega) p rfl, World.putObj_heap_same (Array.getElem?_eq_some_iff.1 p).1, (World.putObj_heap_other (by omega)).trans q⟩
    have stopped : ∀ (c : Code) (W3 : World), Leaves D (V.putObj (D + 1) (.loop busy)) W3 → Ix c (pre ++ [x]) W3 →
        ∃ v W4, (Instr.endRound (D + 1) (some c)).run P W3 = .ok v W4 ∧ ((Ending.returned v = .returned (.bool true) ∧ (I (pre ++ [x]) W4 ∧ W4.heap[D + 1]? = some (.loop (rec .ready none)) ∧ W4.heap[D]? = some (.deferred (some []))) ∧ Kp W W4) ∨
          (Ending.returned v = .returned (.bool false) ∧ ∃ c, Ix c (pre ++ [x]) W4 ∧ W4.heap[D + 1]? = some (.loop (rec .done (some c))) ∧ W4.heap[D]? = some (.deferred (some [])))) := fun c W3 h3 h4 => by
      obtain ⟨W4, r1, r2, r3, r4⟩ := fin (some c) W3 h3
      exact ⟨_, W4, r1, .inr ⟨rfl, c, hIx _ _ _ _ h4 r2, r3, r4⟩⟩
    rintro e a3 W3 hp
    cases e with
    | normal =>
      obtain ⟨h3, h4, h5⟩ := hp
      obtain ⟨W4, r1, r2, r3, r4⟩ := fin none W3 h3
      exact ⟨_, W4, r1, .inl ⟨rfl, ⟨hI _ _ _ h5 r2, r3, r4⟩, hKt (hKa (Aside.of_below hV)) (hKt (hKa asV) (hKt h4 (hKa r2)))⟩⟩
    | ret => exact stopped .ret W3 hp.1 hp.2
    | exit id => exact stopped (.exit id) W3 hp.1 hp.2
    | goto t => exact stopped (.goto t) W3 hp.1 hp.2
    | panic _ => exact hp.elim
    | outgrown => exact hp.elim
  · -- behind the iterator
    rintro e W2 ⟨⟨v, rfl⟩, ⟨xs, hS, hi, hl, hd⟩ | ⟨pre, hSp, c, hi, hl, hd⟩⟩
    · have hr := run_endLoop (P := P) hl (by rw [hrec]; simp)
      rw [hrec] at hr
      exact ⟨none, _, hr, hdone _ xs _ (Nat.le_refl _) hS (hI _ _ _ hi (Aside.put (by omega) hl rfl)) ((World.putObj_heap_other (by omega)).trans hd)⟩
    · have hr := run_endLoop (P := P) hl (by rw [hrec]; simp)
      rw [hrec] at hr
      exact ⟨some c, _, hr, hstop _ c pre _ (Nat.le_refl _) hSp (hIx _ _ _ _ hi (Aside.put (by omega) hl rfl)) ((World.putObj_heap_other (by omega)).trans hd)⟩
end
end Go.Proofs.Ythnjakomkdlglaa
