/- From the frame's reading of a tallagelaw07.Asked to the walks' own. No condition. -/
import Derived.Test.YtbfdjjaonjepnaaOpenT
import Derived.Test.YtbfdjjaonjepnaaPrfJ
namespace Go.Proofs.Ytbfdjjaonjepnaa
open Go.RowKit

section
variable {H : Type} {enc : TypeId × Value → H} {P : Program} {w : World} {base : Nat} {spare : Nat → Bool} {held : Bool}
/-- A slice of hashes. -/
theorem open_hashes {t a e : TypeId} (ht : P.underlying t = some (.slice a)) (ha : P.underlying a = some (.array 32 e)) (he : P.underlying e = some (.int .u8)) (hce : P.cellsOf e = 1) (hca : P.cellsOf a = 32) (hb : P.bytesOf a = 32)
    {fuel : Nat} {cs : List Value} {x : DataW H × List MemPlace} (h : DataW.trod enc P w base spare held fuel t cs = some x) (hw : Sized P t x.1) :
    ∃ v, ∃ l : List (List UInt8), cs = [v] ∧ Rd w hE 32 v l ∧ l.length ≤ 4398046510976 ∧ All32 l := by
  obtain ⟨v, l, h1, h2, h3, h4⟩ := open_slice_rd hE (fun y => y.length = 32) ht hca (by omega) hE_len (fun fuel cs x h1 _ => by
    obtain ⟨y, hy, hy2⟩ := open_arr_u8 ha he hce hca h1
    exact ⟨y, by rw [hE_32 y hy2]; exact hy, hy2⟩) h hw
  exact ⟨v, l, h1, h2, by rw [hb] at h3; omega, h4⟩
/-- What is asked: its cells. -/
theorem open_asked {t ti th tb tp te : TypeId} {f0 f1 f2 f3 f4 : Field} (hs : P.underlying t = some (.struct #[f0, f1, f2, f3, f4]))
    (e0 : f0.type = ti ∧ f0.offset = 0) (e1 : f1.type = th ∧ f1.offset = 1) (e2 : f2.type = tb ∧ f2.offset = 33) (e3 : f3.type = ti ∧ f3.offset = 34) (e4 : f4.type = tp ∧ f4.offset = 35)
    (hi : P.underlying ti = some (.int .i64)) (hh : P.underlying th = some (.array 32 te)) (hb : P.underlying tb = some (.slice te)) (hp : P.underlying tp = some (.slice th)) (he : P.underlying te = some (.int .u8))
    (ci : P.cellsOf ti = 1) (ch : P.cellsOf th = 32) (cb : P.cellsOf tb = 1) (cp : P.cellsOf tp = 1) (ce : P.cellsOf te = 1) (ct : P.cellsOf t = 36) (be : P.bytesOf te = 1) (bh : P.bytesOf th = 32)
    {fuel : Nat} {cs : List Value} {x : DataW H × List MemPlace} (h : DataW.trod enc P w base spare held fuel t cs = some x) (hw : Sized P t x.1) :
    ∃ (k i : Int) (root leaf : List UInt8) (p : List (List UInt8)) (vb vp : Value), cs = .int .i64 k :: (root.map byteV ++ [vb, .int .i64 i, vp]) ∧ root.length = 32 ∧ (-9223372036854775808 ≤ i ∧ i < 9223372036854775808) ∧ Rd w u8E 1 vb leaf ∧ leaf.length ≤ 140737488351232 ∧ Rd w hE 32 vp p ∧ p.length ≤ 4398046510976 ∧ All32 p := by
  obtain ⟨xs, n, _, rfl, hl, hlen, hf⟩ := DataW.trod_struct hs h
  match xs, hlen with
  | [y0, y1, y2, y3, y4], _ =>
    have g0 := hf 0 f0 rfl
    have g1 := hf 1 f1 rfl
    have g2 := hf 2 f2 rfl
    have g3 := hf 3 f3 rfl
    have g4 := hf 4 f4 rfl
    have s2 : Sized P f2.type y2.1 := Sized.field hs hw (i := 2) rfl rfl
    have s4 : Sized P f4.type y4.1 := Sized.field hs hw (i := 4) rfl rfl
    rw [e2.1] at s2
    rw [e4.1] at s4
    simp only [e0.1, e0.2, ci, List.drop_zero] at g0
    simp only [e1.1, e1.2, ch] at g1
    simp only [e2.1, e2.2, cb] at g2
    simp only [e3.1, e3.2, ci] at g3
    simp only [e4.1, e4.2, cp] at g4
    obtain ⟨k, hk, _⟩ := open_i64 hi g0
    obtain ⟨root, hr, hr2⟩ := open_arr_u8 hh he ce ch g1
    obtain ⟨vb, leaf, hvb, hb1, hb2⟩ := open_bytes hb he ce be g2 s2
    obtain ⟨i, hi1, hi2⟩ := open_i64 hi g3
    obtain ⟨vp, p, hvp, hp1, hp2, hp3⟩ := open_hashes hp hh he ce ch bh g4 s4
    refine ⟨k, i, root, leaf, p, vb, vp, ?_, hr2, hi2, hb1, hb2, hp1, hp2, hp3⟩
    rw [ct] at hl
    have a0 : cs = cs.take 1 ++ ((cs.drop 1).take 32 ++ ((cs.drop 33).take 1 ++ ((cs.drop 34).take 1 ++ (cs.drop 35).take 1))) := by
      have q (m j : Nat) : cs.drop m = (cs.drop m).take j ++ cs.drop (m + j) := by rw [← List.drop_drop, List.take_append_drop]
      conv => lhs; rw [show cs = cs.drop 0 from rfl, q 0 1, q 1 32, q 33 1, q 34 1, q 35 1]
      simp [List.drop_of_length_le (show cs.length ≤ 36 by omega)]
    rw [a0, hk, hr, hvb, hi1, hvp]
    simp [intE]
end
end Go.Proofs.Ytbfdjjaonjepnaa
