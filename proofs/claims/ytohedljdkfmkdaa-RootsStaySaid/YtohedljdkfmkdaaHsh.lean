/- Hashes: their cells, and '=='. No condition. (The same facts stand in ShaB and ShaQ: never import both.) -/
import Derived.Test.YtohedljdkfmkdaaBase
namespace Go.Proofs.Ytohedljdkfmkdaa
open Go.RowKit

def c8 (l : List UInt8) : Array Value := (l.map byteV).toArray
def gB (l : List UInt8) (i : Nat) : UInt8 := l.getD i 0
theorem c8_at (l : List UInt8) (i : Nat) (h : i < l.length) : (c8 l)[i]? = some (.int .u8 ((gB l i).toNat : Int)) := by
  simp [c8, gB, List.getD, List.getElem?_eq_getElem h, byteV]
theorem c8_size (l : List UInt8) : (c8 l).size = l.length := by simp [c8]
theorem c8_ints (l : List UInt8) : c8 l = ((l.map fun c => (c.toNat : Int)).map (Value.int .u8)).toArray := by
  simp [c8, byteV]
theorem map_toInt_inj (l m : List UInt8) : ((l.map fun c => (c.toNat : Int)) = m.map fun c => (c.toNat : Int)) ↔ l = m := by
  refine ⟨fun h => ?_, fun h => h ▸ rfl⟩
  induction l generalizing m with
  | nil => cases m with
    | nil => rfl
    | cons y m => simp at h
  | cons x l ih => cases m with
    | nil => simp at h
    | cons y m =>
      simp only [List.map_cons, List.cons.injEq] at h
      have hxy : x = y := UInt8.toNat_inj.1 (by omega)
      rw [hxy, ih m h.2]
theorem Try.eqH (l m : List UInt8) (h1 : l.length = 32) (h2 : m.length = 32) (w : World) : (Op.equalIn 10000 83 (.agg (c8 l)) (.agg (c8 m))).run Try.prog w = .ok (decide (l = m)) w := by
  obtain ⟨i, hi, hs⟩ : ∃ i, Try.prog.info? 5 = some i ∧ i.size = 1 := by
    obtain ⟨i, hi, _, h1, _⟩ := info_parts Try.infoU8
    exact ⟨i, hi, h1⟩
  rw [c8_ints, c8_ints, run_equalIn_arr w 9998 83 5 .u8 32 Try.underlying83 Try.underlying5 i hi hs _ _ (by simpa using h1) (by simpa using h2)]
  have : decide ((l.map fun c => (c.toNat : Int)) = m.map fun c => (c.toNat : Int)) = decide (l = m) := decide_eq_decide.2 (map_toInt_inj l m)
  rw [this]
theorem zeros32 : (#[.int .u8 0, .int .u8 0, .int .u8 0, .int .u8 0, .int .u8 0, .int .u8 0, .int .u8 0, .int .u8 0, .int .u8 0, .int .u8 0, .int .u8 0, .int .u8 0, .int .u8 0, .int .u8 0, .int .u8 0, .int .u8 0, .int .u8 0, .int .u8 0, .int .u8 0, .int .u8 0, .int .u8 0, .int .u8 0, .int .u8 0, .int .u8 0, .int .u8 0, .int .u8 0, .int .u8 0, .int .u8 0, .int .u8 0, .int .u8 0, .int .u8 0, .int .u8 0] : Array Value) = c8 (List.replicate 32 0) := by kernel_rfl
theorem Try.eqZ (l : List UInt8) (h1 : l.length = 32) (w : World) : (Op.equalIn 10000 83 (.agg (c8 l)) (.agg #[.int .u8 0, .int .u8 0, .int .u8 0, .int .u8 0, .int .u8 0, .int .u8 0, .int .u8 0, .int .u8 0, .int .u8 0, .int .u8 0, .int .u8 0, .int .u8 0, .int .u8 0, .int .u8 0, .int .u8 0, .int .u8 0, .int .u8 0, .int .u8 0, .int .u8 0, .int .u8 0, .int .u8 0, .int .u8 0, .int .u8 0, .int .u8 0, .int .u8 0, .int .u8 0, .int .u8 0, .int .u8 0, .int .u8 0, .int .u8 0, .int .u8 0, .int .u8 0])).run Try.prog w = .ok (decide (l = List.replicate 32 0)) w := by
  rw [zeros32]; exact Try.eqH l _ h1 (by simp) w
end Go.Proofs.Ytohedljdkfmkdaa
