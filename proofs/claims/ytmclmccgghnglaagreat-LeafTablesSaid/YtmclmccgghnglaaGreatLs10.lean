/- sha.Sum, Digit, Hex and their references. sha.Hex and its reference. The reference's Hex. sha.Parse and its reference. Plain facts on digits of sixteen, and '==' of hashes. No condition. -/
import Derived.Test.YtmclmccgghnglaaGreatLsShaI
import Derived.Deep.RegionHeld3
namespace Go.Proofs.YtmclmccgghnglaaGreat
section
open Go.RowKit

/-- A digit's value; -1: it is none. -/
def digF (c : UInt8) : Int := if 48 ≤ c.toNat ∧ c.toNat ≤ 57 then (c.toNat : Int) - 48 else if 97 ≤ c.toNat ∧ c.toNat ≤ 102 then (c.toNat : Int) - 87 else -1
end
section
open Go.RowKit

def hexL : List UInt8 := [48, 49, 50, 51, 52, 53, 54, 55, 56, 57, 97, 98, 99, 100, 101, 102]
/-- The digit of a number below sixteen. -/
def hexC (n : Nat) : UInt8 := hexL.getD n 0
/-- A hash in digits of sixteen. -/
def hexF (l : List UInt8) : List UInt8 := l.flatMap fun c => [hexC (c.toNat / 16), hexC (c.toNat % 16)]
theorem u8E_one (x : UInt8) (u : Value) (h : u ∈ u8E x) : u.oneCell' = true := by
  obtain rfl : u = byteV x := by simpa [u8E] using h
  rfl
theorem Tryz.sizeHs (l : List UInt8) (h : l.length = 32) : (Tryz.prog.info? 36).map (·.size) = some (c8 l).size := by rw [c8_size, h]; kernel_rfl
end
section
open Go.RowKit
end
section
open Go.RowKit

/-- The first i bytes of digits of sixteen; none: they are none. -/
def hpTo (l : List UInt8) : Nat → Option (List UInt8)
  | 0 => some []
  | i + 1 => match hpTo l i with
    | none => none
    | some p => if digF (gB l (2 * i)) < 0 ∨ digF (gB l (2 * i + 1)) < 0 then none else some (p ++ [UInt8.ofNat (16 * digF (gB l (2 * i)) + digF (gB l (2 * i + 1))).toNat])
def hpF (l : List UInt8) : Option (List UInt8) := if l.length = 64 then hpTo l 32 else none
/-- What Parse gives. -/
def hpV (r : Option (List UInt8)) : Value := .tuple #[.agg (c8 (r.getD (List.replicate 32 0))), .bool r.isSome]
end
section
open Go.RowKit

theorem c8_ints (l : List UInt8) : c8 l = ((l.map fun c => (c.toNat : Int)).map (Value.int .u8)).toArray := by
  simp [c8, byteV]
theorem map_toInt_inj (l m : List UInt8) : ((l.map fun c => (c.toNat : Int)) = m.map fun c => (c.toNat : Int)) ↔ l = m := by
  refine ⟨fun h => ?_, fun h => h ▸ rfl⟩
  induction l generalizing m with
  | nil => cases m with
    | nil => rfl
    | cons y m => simp at h
  | cons x l ih => cases m with
    | nil => simp at h
    | cons y m =>
      simp only [List.map_cons, List.cons.injEq] at h
      have hxy : x = y := UInt8.toNat_inj.1 (by omega)
      rw [hxy, ih m h.2]
theorem Tryz.eqH (l m : List UInt8) (h1 : l.length = 32) (h2 : m.length = 32) (w : World) : (Op.equalIn 10000 36 (.agg (c8 l)) (.agg (c8 m))).run Tryz.prog w = .ok (decide (l = m)) w := by
  obtain ⟨i, hi, hs⟩ : ∃ i, Tryz.prog.info? 5 = some i ∧ i.size = 1 := by
    obtain ⟨i, hi, _, h1, _⟩ := info_parts Tryz.infoU8
    exact ⟨i, hi, h1⟩
  rw [c8_ints, c8_ints, run_equalIn_arr w 9998 36 5 .u8 32 Tryz.underlying36 Tryz.underlying5 i hi hs _ _ (by simpa using h1) (by simpa using h2)]
  have : decide ((l.map fun c => (c.toNat : Int)) = m.map fun c => (c.toNat : Int)) = decide (l = m) := decide_eq_decide.2 (map_toInt_inj l m)
  rw [this]
end
end Go.Proofs.YtmclmccgghnglaaGreat
