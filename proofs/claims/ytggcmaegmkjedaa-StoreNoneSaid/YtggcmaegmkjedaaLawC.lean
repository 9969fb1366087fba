/- Two stores, the program's and the document's, side by side: no condition. -/
import Derived.Test.YtggcmaegmkjedaaLawB
namespace Go.Proofs.Ytggcmaegmkjedaa
open Go.RowKit

/-- The program's store and the document's, whose blocks are all new since B. -/
def Both (B : Nat) (w : World) (g h : Nat) (s1 s2 : PS) : Prop := ∃ F G, St w g s1 F ∧ RS w h s2 G ∧ (∀ x ∈ F, B ≤ x) ∧ ∀ x ∈ G, B ≤ x
theorem Both.st {w0 w w' : World} {g h : Nat} {s1 s2 s' : PS} {F G : List Nat} {v : Value} {e : Ending} (hb : Below w0.heap.size w0 w) (h2 : RS w h s2 G) (h1 : St w g s1 F) (hf : ∀ x ∈ F, w0.heap.size ≤ x) (hg : ∀ x ∈ G, w0.heap.size ≤ x) (hr : StRet w g F s' v e w') :
    e = .returned v ∧ Both w0.heap.size w' g h s' s2 ∧ Below w0.heap.size w0 w' ∧ Keep (· ∈ F) w w' := by
  obtain ⟨he, F', q1, q2, q3⟩ := hr
  refine ⟨he, ⟨F', G, q1, h2.keep q2 fun x hx hx' => stores_apart h1 h2 x hx' hx, fun x hx => ?_, hg⟩, hb.trans (q2.below (B := w0.heap.size) (fun q hq e => by have := hf q e; omega) hb.size), q2⟩
  rcases q3 x hx with h | h
  · exact hf x h
  · exact Nat.le_trans hb.size h
theorem Both.rs {w0 w w' : World} {g h : Nat} {s1 s2 s' : PS} {F G : List Nat} {v : Value} {e : Ending} (hb : Below w0.heap.size w0 w) (h2 : RS w h s2 G) (h1 : St w g s1 F) (hf : ∀ x ∈ F, w0.heap.size ≤ x) (hg : ∀ x ∈ G, w0.heap.size ≤ x) (hr : RRet w h G s' v e w') :
    e = .returned v ∧ Both w0.heap.size w' g h s1 s' ∧ Below w0.heap.size w0 w' ∧ Keep (· ∈ G) w w' := by
  obtain ⟨he, G', q1, q2, q3⟩ := hr
  refine ⟨he, ⟨F, G', h1.keep q2 fun x hx hx' => stores_apart h1 h2 x hx hx', q1, hf, fun x hx => ?_⟩, hb.trans (q2.below (B := w0.heap.size) (fun q hq e => by have := hg q e; omega) hb.size), q2⟩
  rcases q3 x hx with h | h
  · exact hg x h
  · exact Nat.le_trans hb.size h
theorem Both.later {B : Nat} {w w' : World} {g h : Nat} {s1 s2 : PS} (hb : Both B w g h s1 s2) (hk : Below w.heap.size w w') : Both B w' g h s1 s2 := by
  obtain ⟨F, G, h1, h2, h3, h4⟩ := hb
  exact ⟨F, G, h1.later hk, h2.later hk, h3, h4⟩
/-- The same two stores, whose blocks are in S, or new since w0. -/
def BothS (S : Nat → Prop) (w0 w : World) (g h : Nat) (s1 s2 : PS) : Prop := ∃ F G, St w g s1 F ∧ RS w h s2 G ∧ (∀ x ∈ F, S x ∨ w0.heap.size ≤ x) ∧ ∀ x ∈ G, S x ∨ w0.heap.size ≤ x
def NewS (S : Nat → Prop) (w0 w : World) (F : List Nat) (F' : List Nat) : Prop := (∀ x ∈ F, S x ∨ w0.heap.size ≤ x) → w0.heap.size ≤ w.heap.size → (∀ x ∈ F', x ∈ F ∨ w.heap.size ≤ x) → ∀ x ∈ F', S x ∨ w0.heap.size ≤ x
theorem newS {S : Nat → Prop} {w0 w : World} {F F' : List Nat} : NewS S w0 w F F' := by
  intro hf hs hq x hx
  rcases hq x hx with h | h
  · exact hf x h
  · exact .inr (Nat.le_trans hs h)
theorem BothS.st {S : Nat → Prop} {w0 w w' : World} {g h : Nat} {s1 s2 s' : PS} {F G : List Nat} {v : Value} {e : Ending} (hb : Keep S w0 w) (h2 : RS w h s2 G) (h1 : St w g s1 F) (hf : ∀ x ∈ F, S x ∨ w0.heap.size ≤ x) (hg : ∀ x ∈ G, S x ∨ w0.heap.size ≤ x) (hr : StRet w g F s' v e w') :
    e = .returned v ∧ BothS S w0 w' g h s' s2 ∧ Keep S w0 w' ∧ Keep (· ∈ F) w w' := by
  obtain ⟨he, F', q1, q2, q3⟩ := hr
  exact ⟨he, ⟨F', G, q1, h2.keep q2 fun x hx hx' => stores_apart h1 h2 x hx' hx, newS hf hb.size q3, hg⟩, hb.trans (q2.mono fun x _ hx => hf x hx), q2⟩
theorem BothS.rs {S : Nat → Prop} {w0 w w' : World} {g h : Nat} {s1 s2 s' : PS} {F G : List Nat} {v : Value} {e : Ending} (hb : Keep S w0 w) (h2 : RS w h s2 G) (h1 : St w g s1 F) (hf : ∀ x ∈ F, S x ∨ w0.heap.size ≤ x) (hg : ∀ x ∈ G, S x ∨ w0.heap.size ≤ x) (hr : RRet w h G s' v e w') :
    e = .returned v ∧ BothS S w0 w' g h s1 s' ∧ Keep S w0 w' ∧ Keep (· ∈ G) w w' := by
  obtain ⟨he, G', q1, q2, q3⟩ := hr
  exact ⟨he, ⟨F, G', h1.keep q2 fun x hx hx' => stores_apart h1 h2 x hx hx', q1, hf, newS hg hb.size q3⟩, hb.trans (q2.mono fun x _ hx => hg x hx), q2⟩
theorem BothS.later {S : Nat → Prop} {w0 w w' : World} {g h : Nat} {s1 s2 : PS} (hb : BothS S w0 w g h s1 s2) (hk : Below w.heap.size w w') : BothS S w0 w' g h s1 s2 := by
  obtain ⟨F, G, h1, h2, h3, h4⟩ := hb
  exact ⟨F, G, h1.later hk, h2.later hk, h3, h4⟩
/-- A block of another kind is in neither store. -/
theorem st_box {w : World} {g R : Nat} {s : PS} {F : List Nat} {cs : Array Value} (h : St w g s F) (hR : w.heap[R]? = some (.cells cs 39 (0, 0))) : R ∉ F := by
  intro hx
  obtain ⟨o, ho, k1⟩ := h.kind R hx
  rw [hR] at ho
  cases ho
  exact absurd k1 (by simp [stoKind])
theorem rs_box {w : World} {g R : Nat} {s : PS} {F : List Nat} {cs : Array Value} (h : RS w g s F) (hR : w.heap[R]? = some (.cells cs 39 (0, 0))) : R ∉ F := by
  intro hx
  obtain ⟨o, ho, k1⟩ := h.kind R hx
  rw [hR] at ho
  cases ho
  exact absurd k1 (by simp [rstKind])
/-- What an act makes of a store. -/
def doAct (s : PS) (a : ActP) : PS := if a.kind = 0 then s.set a.key a.value else if a.kind = 1 then s.del a.key else if a.kind = 2 then s.undo a.n else if a.kind = 3 then s.settle else s
/-- Blocks of acts stay as they are. -/
def Acts (w w' : World) : Prop := ∀ (R : Nat) (cs : Array Value), w.heap[R]? = some (Obj.cells cs 39 (0, 0)) → w'.heap[R]? = some (Obj.cells cs 39 (0, 0))
def ActRetS (S : Nat → Prop) (w0 w : World) (g h : Nat) (s1 s2 : PS) (a : ActP) (e : Ending) (w' : World) : Prop :=
  ∃ r : Bool, e = .returned (.bool r) ∧ (s1 = s2 → r = true) ∧ BothS S w0 w' g h (doAct s1 a) (doAct s2 a) ∧ Keep S w0 w' ∧ Acts w w'
def ActRet (w0 w : World) (g h : Nat) (s1 s2 : PS) (a : ActP) (e : Ending) (w' : World) : Prop :=
  ∃ r : Bool, e = .returned (.bool r) ∧ (s1 = s2 → r = true) ∧ Both w0.heap.size w' g h (doAct s1 a) (doAct s2 a) ∧ Below w0.heap.size w0 w' ∧ Acts w w'
end Go.Proofs.Ytggcmaegmkjedaa
