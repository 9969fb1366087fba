/- From the frame's reading of an amount to its words. No condition. From the frame's reading of a claim to the walks' own. No condition. From the frame's reading of rows of a table to the walks' own. No condition. -/
import Derived.Test.YtmclmccgghnglaaGreatLsOpen
import Derived.Test.YtmclmccgghnglaaGreatLsUn
import Derived.Test.YtmclmccgghnglaaGreatLsLeaO
import Derived.Test.YtmclmccgghnglaaGreatLs8
namespace Go.Proofs.YtmclmccgghnglaaGreat
section
open Go.RowKit

section
variable {H : Type} {enc : TypeId × Value → H} {P : Program} {w : World} {base : Nat} {spare : Nat → Bool} {held : Bool}
theorem open_u {t e : TypeId} (ht : P.underlying t = some (.array 4 e)) (he : P.underlying e = some (.int .u64)) (hce : P.cellsOf e = 1) (hct : P.cellsOf t = 4) {fuel : Nat} {cs : List Value} {x : DataW H × List MemPlace} (h : DataW.trod enc P w base spare held fuel t cs = some x) :
    ∃ n : Nat, cs = [.int .u64 (uw0 n), .int .u64 (uw1 n), .int .u64 (uw2 n), .int .u64 (uw3 n)] ∧ n < uMax := by
  obtain ⟨l, rfl, hn, hw⟩ := open_arr_ints ht he hce hct h
  match l, hn with
  | [a, b, c, d], _ =>
    obtain ⟨n, hu⟩ := UIs.some (wf_u64 (hw a (by simp))) (wf_u64 (hw b (by simp))) (wf_u64 (hw c (by simp))) (wf_u64 (hw d (by simp)))
    obtain ⟨e1, e2, e3, e4⟩ := hu.uw
    refine ⟨n, ?_, hu.lt⟩
    rw [← e1, ← e2, ← e3, ← e4]; rfl
end
end
section
open Go.RowKit

section
variable {H : Type} {enc : TypeId × Value → H} {w : World} {base : Nat} {spare : Nat → Bool} {held : Bool}
/-- A slice of hashes. -/
theorem open_hashesL {fuel : Nat} {cs : List Value} {x : DataW H × List MemPlace} (h : DataW.trod enc Tryz.prog w base spare held fuel 42 cs = some x) (hw : Sized Tryz.prog 42 x.1) :
    ∃ (s : SlV) (l : List (List UInt8)), cs = [slV s] ∧ Rd w hE 32 (slV s) l ∧ All32 l := by
  obtain ⟨v, l, h1, h2, _, h4⟩ := open_slice_rd hE (fun y => y.length = 32) Tryz.underlying42 (sz := 32) (by kernel_rfl) (by omega) hE_len (fun fuel cs x h1 _ => by
    obtain ⟨y, hy, hy2⟩ := open_arr_u8 Tryz.underlying36 Tryz.underlying5 (by kernel_rfl) (by kernel_rfl) h1
    exact ⟨y, by rw [hE_32 y hy2]; exact hy, hy2⟩) h hw
  obtain ⟨ad, cap, rfl, _, _⟩ := h2.shape
  exact ⟨(ad, l.length, cap), l, h1, h2, h4⟩
def GoodLf (w : World) (y : CLf × SlV) : Prop := (y.1.t < 9223372036854775808 ∧ y.1.i < 9223372036854775808 ∧ y.1.m < 2 ^ 256 ∧ All32 y.1.p) ∧ Rd w hE 32 (slV y.2) y.1.p
set_option maxRecDepth 100000 in
theorem open_lf {fuel : Nat} {cs : List Value} {x : DataW H × List MemPlace} (h : DataW.trod enc Tryz.prog w base spare held fuel 60 cs = some x) (hw : Sized Tryz.prog 60 x.1) : ∃ a : CLf × SlV, cs = lfE a ∧ GoodLf w a := by
  obtain ⟨xs, n, _, rfl, hl, hlen, hf⟩ := DataW.trod_struct Tryz.underlying60 h
  match xs, hlen with
  | [y0, y1, y2, y3], _ =>
    have s3 : Sized Tryz.prog 42 y3.1 := Sized.field Tryz.underlying60 hw (i := 3) rfl rfl
    have g0 : DataW.trod enc Tryz.prog w base spare held n 3 ((cs.drop 0).take (Tryz.prog.cellsOf 3)) = some y0 := hf 0 _ rfl
    rw [show Tryz.prog.cellsOf 3 = 1 by kernel_rfl] at g0
    obtain ⟨v0, e0, b0⟩ := open_i64 Tryz.underlying3 g0
    have g1 : DataW.trod enc Tryz.prog w base spare held n 3 ((cs.drop 1).take (Tryz.prog.cellsOf 3)) = some y1 := hf 1 _ rfl
    rw [show Tryz.prog.cellsOf 3 = 1 by kernel_rfl] at g1
    obtain ⟨v1, e1, b1⟩ := open_i64 Tryz.underlying3 g1
    have g2 : DataW.trod enc Tryz.prog w base spare held n 55 ((cs.drop 2).take (Tryz.prog.cellsOf 55)) = some y2 := hf 2 _ rfl
    rw [show Tryz.prog.cellsOf 55 = 4 by kernel_rfl] at g2
    obtain ⟨z2, e2, k2⟩ := open_u Tryz.underlying55 Tryz.underlying53 (by kernel_rfl) (by kernel_rfl) g2
    have g3 : DataW.trod enc Tryz.prog w base spare held n 42 ((cs.drop 6).take (Tryz.prog.cellsOf 42)) = some y3 := hf 3 _ rfl
    rw [show Tryz.prog.cellsOf 42 = 1 by kernel_rfl] at g3
    obtain ⟨s, p, e3, p1, p2⟩ := open_hashesL g3 s3
    refine ⟨(⟨v0, v1, z2, p⟩, s), ?_, ⟨b1.2, b0.2, k2, p2⟩, p1⟩
    rw [show Tryz.prog.cellsOf 60 = 7 by kernel_rfl] at hl
    have a0 : cs = (cs.drop 0).take 1 ++ ((cs.drop 1).take 1 ++ ((cs.drop 2).take 4 ++ (cs.drop 6).take 1)) := by
      have q (m j : Nat) : cs.drop m = (cs.drop m).take j ++ cs.drop (m + j) := by rw [← List.drop_drop, List.take_append_drop]
      conv => lhs; rw [show cs = cs.drop 0 from rfl, q 0 1, q 1 1, q 2 4, q 6 1]
      simp [List.drop_of_length_le (show cs.length ≤ 7 by omega)]
    rw [a0, e0, e1, e2, e3]
    rfl
theorem open_lfs {fuel : Nat} {cs : List Value} {x : DataW H × List MemPlace} (h : DataW.trod enc Tryz.prog w base spare held fuel 43 cs = some x) (hw : Sized Tryz.prog 43 x.1) : ∃ (s : SlV) (xs : List (CLf × SlV)), cs = [slV s] ∧ Rd w lfE 7 (slV s) xs ∧ ∀ y ∈ xs, GoodLf w y := by
  obtain ⟨v, l, h1, h2, _, h4⟩ := open_slice_rd lfE (GoodLf w) Tryz.underlying43 (by kernel_rfl) (by omega) lfE_len (fun fuel cs x h1 h2 => open_lf h1 h2) h hw
  obtain ⟨ad, cap, rfl, _, _⟩ := h2.shape
  exact ⟨(ad, l.length, cap), l, h1, h2, h4⟩
set_option maxRecDepth 100000 in
/-- A claim. -/
theorem open_claim {fuel : Nat} {cs : List Value} {x : DataW H × List MemPlace} (h : DataW.trod enc Tryz.prog w base spare held fuel 45 cs = some x) (hw : Sized Tryz.prog 45 x.1) : ∃ c : CCl, ClAt w (.agg cs.toArray) c ∧ COk c := by
  obtain ⟨xs, n, _, rfl, hl, hlen, hf⟩ := DataW.trod_struct Tryz.underlying45 h
  match xs, hlen with
  | [y0, y1, y2, y3, y4, y5, y6], _ =>
    have s4 : Sized Tryz.prog 42 y4.1 := Sized.field Tryz.underlying45 hw (i := 4) rfl rfl
    have s5 : Sized Tryz.prog 43 y5.1 := Sized.field Tryz.underlying45 hw (i := 5) rfl rfl
    have g0 : DataW.trod enc Tryz.prog w base spare held n 3 ((cs.drop 0).take (Tryz.prog.cellsOf 3)) = some y0 := hf 0 _ rfl
    rw [show Tryz.prog.cellsOf 3 = 1 by kernel_rfl] at g0
    obtain ⟨v0, e0, _⟩ := open_i64 Tryz.underlying3 g0
    have g1 : DataW.trod enc Tryz.prog w base spare held n 3 ((cs.drop 1).take (Tryz.prog.cellsOf 3)) = some y1 := hf 1 _ rfl
    rw [show Tryz.prog.cellsOf 3 = 1 by kernel_rfl] at g1
    obtain ⟨v1, e1, b1⟩ := open_i64 Tryz.underlying3 g1
    have g2 : DataW.trod enc Tryz.prog w base spare held n 3 ((cs.drop 2).take (Tryz.prog.cellsOf 3)) = some y2 := hf 2 _ rfl
    rw [show Tryz.prog.cellsOf 3 = 1 by kernel_rfl] at g2
    obtain ⟨v2, e2, b2⟩ := open_i64 Tryz.underlying3 g2
    have g3 : DataW.trod enc Tryz.prog w base spare held n 36 ((cs.drop 3).take (Tryz.prog.cellsOf 36)) = some y3 := hf 3 _ rfl
    rw [show Tryz.prog.cellsOf 36 = 32 by kernel_rfl] at g3
    obtain ⟨ch, e3, h32⟩ := open_arr_u8 Tryz.underlying36 Tryz.underlying5 (by kernel_rfl) (by kernel_rfl) g3
    have g4 : DataW.trod enc Tryz.prog w base spare held n 42 ((cs.drop 35).take (Tryz.prog.cellsOf 42)) = some y4 := hf 4 _ rfl
    rw [show Tryz.prog.cellsOf 42 = 1 by kernel_rfl] at g4
    obtain ⟨sp, cp, e4, p1, p2⟩ := open_hashesL g4 s4
    have g5 : DataW.trod enc Tryz.prog w base spare held n 43 ((cs.drop 36).take (Tryz.prog.cellsOf 43)) = some y5 := hf 5 _ rfl
    rw [show Tryz.prog.cellsOf 43 = 1 by kernel_rfl] at g5
    obtain ⟨sl, xs, e5, x1, x2⟩ := open_lfs g5 s5
    have g6 : DataW.trod enc Tryz.prog w base spare held n 3 ((cs.drop 37).take (Tryz.prog.cellsOf 3)) = some y6 := hf 6 _ rfl
    rw [show Tryz.prog.cellsOf 3 = 1 by kernel_rfl] at g6
    obtain ⟨v6, e6, _⟩ := open_i64 Tryz.underlying3 g6
    refine ⟨⟨v0, v1, v2, ch, cp, xs.map (·.1), v6⟩, ⟨sp, sl, ?_, p1, xs, rfl, x1, fun y hy => (x2 y hy).2⟩, h32, b2.2, b1.2, p2, fun y hy => ?_⟩
    · rw [show Tryz.prog.cellsOf 45 = 38 by kernel_rfl] at hl
      have a0 : cs = (cs.drop 0).take 1 ++ ((cs.drop 1).take 1 ++ ((cs.drop 2).take 1 ++ ((cs.drop 3).take 32 ++ ((cs.drop 35).take 1 ++ ((cs.drop 36).take 1 ++ (cs.drop 37).take 1))))) := by
        have q (m j : Nat) : cs.drop m = (cs.drop m).take j ++ cs.drop (m + j) := by rw [← List.drop_drop, List.take_append_drop]
        conv => lhs; rw [show cs = cs.drop 0 from rfl, q 0 1, q 1 1, q 2 1, q 3 32, q 35 1, q 36 1, q 37 1]
        simp [List.drop_of_length_le (show cs.length ≤ 38 by omega)]
      rw [a0, e0, e1, e2, e3, e4, e5, e6]
      simp [clC, intE]
    · obtain ⟨z, hz, rfl⟩ := List.mem_map.1 hy
      exact (x2 z hz).1
end
end
section
open Go.RowKit

section
variable {H : Type} {enc : TypeId × Value → H} {w : World} {base : Nat} {spare : Nat → Bool} {held : Bool}
set_option maxRecDepth 100000 in
theorem open_lrow {fuel : Nat} {cs : List Value} {x : DataW H × List MemPlace} (h : DataW.trod enc Tryz.prog w base spare held fuel 127 cs = some x) (_hw : Sized Tryz.prog 127 x.1) : ∃ a : LRow, cs = rowE a ∧ ROk a := by
  obtain ⟨xs, n, _, rfl, hl, hlen, hf⟩ := DataW.trod_struct Tryz.underlying127 h
  match xs, hlen with
  | [y0, y1, y2], _ =>
    have g0 : DataW.trod enc Tryz.prog w base spare held n 3 ((cs.drop 0).take (Tryz.prog.cellsOf 3)) = some y0 := hf 0 _ rfl
    rw [show Tryz.prog.cellsOf 3 = 1 by kernel_rfl] at g0
    obtain ⟨v0, e0, b0⟩ := open_i64 Tryz.underlying3 g0
    have g1 : DataW.trod enc Tryz.prog w base spare held n 3 ((cs.drop 1).take (Tryz.prog.cellsOf 3)) = some y1 := hf 1 _ rfl
    rw [show Tryz.prog.cellsOf 3 = 1 by kernel_rfl] at g1
    obtain ⟨v1, e1, b1⟩ := open_i64 Tryz.underlying3 g1
    have g2 : DataW.trod enc Tryz.prog w base spare held n 55 ((cs.drop 2).take (Tryz.prog.cellsOf 55)) = some y2 := hf 2 _ rfl
    rw [show Tryz.prog.cellsOf 55 = 4 by kernel_rfl] at g2
    obtain ⟨z2, e2, k2⟩ := open_u Tryz.underlying55 Tryz.underlying53 (by kernel_rfl) (by kernel_rfl) g2
    refine ⟨⟨v0, v1, z2⟩, ?_, ⟨⟨b0, b1⟩, k2⟩⟩
    rw [show Tryz.prog.cellsOf 127 = 6 by kernel_rfl] at hl
    have a0 : cs = (cs.drop 0).take 1 ++ ((cs.drop 1).take 1 ++ ((cs.drop 2).take 4)) := by
      have q (m j : Nat) : cs.drop m = (cs.drop m).take j ++ cs.drop (m + j) := by rw [← List.drop_drop, List.take_append_drop]
      conv => lhs; rw [show cs = cs.drop 0 from rfl, q 0 1, q 1 1, q 2 4]
      simp [List.drop_of_length_le (show cs.length ≤ 6 by omega)]
    rw [a0, e0, e1, e2]
    rfl
theorem open_lrows {fuel : Nat} {cs : List Value} {x : DataW H × List MemPlace} (h : DataW.trod enc Tryz.prog w base spare held fuel 22 cs = some x) (hw : Sized Tryz.prog 22 x.1) : ∃ v, ∃ l : List LRow, cs = [v] ∧ Rd w rowE 6 v l ∧ (∀ r ∈ l, ROk r) ∧ l.length ≤ 2932031007317 := by
  obtain ⟨v, l, h1, h2, h3, h4⟩ := open_slice_rd rowE ROk Tryz.underlying22 (by kernel_rfl) (by omega) rowE_len (fun fuel cs x h1 h2 => open_lrow h1 h2) h hw
  rw [show Tryz.prog.bytesOf 127 = 48 by kernel_rfl] at h3
  exact ⟨v, l, h1, h2, h4, by omega⟩
end
end
end Go.Proofs.YtmclmccgghnglaaGreat
