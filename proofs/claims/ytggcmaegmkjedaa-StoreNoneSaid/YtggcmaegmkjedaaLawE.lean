/- How much a store may grow by an act. -/
import Derived.Test.YtggcmaegmkjedaaLawD
namespace Go.Proofs.Ytggcmaegmkjedaa

def sizePS (s : PS) : Nat := s.t.length + s.past.length
theorem size_put (s : PS) (k v : Txt) (b : Bool) : sizePS (s.put k v b) ≤ sizePS s + 2 := by
  unfold PS.put sizePS
  have := length_lay_le s.t k v b
  simp only [List.length_append, List.length_cons, List.length_nil]
  omega
theorem size_set (s : PS) (k v : Txt) : sizePS (s.set k v) ≤ sizePS s + 2 := by
  unfold PS.set
  split
  · omega
  · exact size_put _ _ _ _
theorem size_del (s : PS) (k : Txt) : sizePS (s.del k) ≤ sizePS s + 2 := by
  unfold PS.del
  split
  · omega
  · exact size_put _ _ _ _
theorem size_undo (s : PS) (m : Int) : sizePS (s.undo m) ≤ sizePS s := by
  unfold PS.undo
  split
  · unfold sizePS
    rw [backs_past]
    have := backs_length (s.past.length - m.toNat) s
    omega
  · exact Nat.le_refl _
theorem size_act (s : PS) (a : ActP) : sizePS (doAct s a) ≤ sizePS s + 2 := by
  unfold doAct
  split
  · exact size_set _ _ _
  split
  · exact size_del _ _
  split
  · have := size_undo s a.n; omega
  split
  · unfold PS.settle sizePS
    simp only [List.length_nil]
    omega
  · omega
/-- What acts make of a store. -/
def doActs (s : PS) (l : List ActP) : PS := l.foldl doAct s
theorem size_acts : ∀ (l : List ActP) (s : PS), sizePS (doActs s l) ≤ sizePS s + 2 * l.length
  | [], _ => Nat.le_refl _
  | a :: l, s => by
    have h1 := size_acts l (doAct s a)
    have h2 := size_act s a
    have h3 : doActs s (a :: l) = doActs (doAct s a) l := rfl
    rw [h3, List.length_cons]
    omega
theorem acts_take {s : PS} {l : List ActP} {i : Nat} (hi : i < l.length) : doActs s (l.take (i + 1)) = doAct (doActs s (l.take i)) l[i] := by
  unfold doActs
  rw [List.take_succ_eq_append_getElem hi, List.foldl_append]
  rfl
end Go.Proofs.Ytggcmaegmkjedaa
