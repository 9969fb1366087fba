/- light: no condition. -/
import Derived.Test.YtggcmaegmkjedaaLawA
namespace Go.Proofs.Ytggcmaegmkjedaa
open Go.RowKit

/-- An act. -/
structure ActP where
  kind : Int
  key : Txt
  value : Txt
  n : Int
def actE (a : ActP) : List Value := [.int .i64 a.kind, .string (bs a.key), .string (bs a.value), .int .i64 a.n]
theorem actE_len (a : ActP) : (actE a).length = 4 := rfl
theorem Rd.act {w : World} {ad : Option Addr} {n cap : Nat} {t : List ActP} (h : Rd w actE 4 (.slice ad n cap) t) (i : Nat) (hi : i < t.length) :
    ∃ g off, ad = some ⟨g, off, none⟩ ∧ g < w.heap.size ∧ w.cell? ⟨g, off + i * 4, none⟩ = some (.int .i64 t[i].kind) ∧ w.cell? ⟨g, off + i * 4 + 1, none⟩ = some (.string (bs t[i].key)) ∧ w.cell? ⟨g, off + i * 4 + 2, none⟩ = some (.string (bs t[i].value)) ∧ w.cell? ⟨g, off + i * 4 + 3, none⟩ = some (.int .i64 t[i].n) := by
  have hne : t ≠ [] := by rintro rfl; simp at hi
  obtain ⟨ax, cx, e3, _, _, h3⟩ := h
  obtain ⟨b, off, e4, hb, h5⟩ := h3 hne
  exact ⟨b, off, (Value.slice.inj e3).1.trans e4, hb, h5 i hi 0 (by decide), h5 i hi 1 (by decide), h5 i hi 2 (by decide), h5 i hi 3 (by decide)⟩
theorem Try.zeroAct (w : World) : (zeroValue 39).run Try.prog w = .ok (.agg #[.int .i64 0, .string (bs []), .string (bs []), .int .i64 0]) w := by kernel_rfl
theorem Try.sizeAct : (Try.prog.info? 39).map (·.size) = some 4 := by kernel_rfl
/-- What light says, as far as it is asked. -/
def LightRet (w : World) (k : Nat) (e : Ending) (w' : World) : Prop := ∃ r : Bool, e = .returned (.bool r) ∧ (r = true → k ≤ 300) ∧ Below w.heap.size w w'

set_option maxHeartbeats 8000000 in
set_option maxRecDepth 100000 in
theorem light_any {w : World} {v : Value} {l : List ActP} (h : Rd w actE 4 v l) : Calls Try.prog 20 #[v] w (LightRet w l.length) := by
  obtain ⟨ad, cap, e1, l1, l1'⟩ := h.shape
  obtain ⟨n, hn⟩ : ∃ n, n = l.length := ⟨_, rfl⟩
  rw [← hn] at e1 l1 ⊢
  subst e1
  have H := Lib.hid h; have HN := Lib.hid hn
  clear h hn
  by_cases hl : n ≤ 300
  · have j0 : ¬ 300 < n := by omega
    go_enter Try.func20, Try.ntmps20
    go_wp2_with fail
    clear j0
    go_loopw [3, 5, 11] (fun vx _ vi wr => ∃ (i : Nat) (x : Int), vi = .int .i64 i ∧ vx = .int .i64 x ∧ i ≤ n ∧ Hid (Below w.heap.size w wr)) (fun _ _ vi _ => n - (intOf vi).toNat)
    case atStart => exact ⟨0, 0, rfl, rfl, Nat.zero_le _, Lib.hid (Below.refl _ _)⟩
    case round =>
      obtain ⟨i, x, rfl, rfl, hin, BW⟩ := hrel
      by_cases hlt : i < n
      · have hi : i < l.length := by rw [← HN.out]; exact hlt
        obtain ⟨gL, off, rfl, hgL, q0, q1, q2, q3⟩ := Rd.act H.out i hi
        have q0' := (BW.out.cell (p := ⟨gL, off + i * 4, none⟩) hgL).trans q0
        have q1' := (BW.out.cell (p := ⟨gL, off + i * 4 + 1, none⟩) hgL).trans q1
        have q2' := (BW.out.cell (p := ⟨gL, off + i * 4 + 2, none⟩) hgL).trans q2
        have q3' := (BW.out.cell (p := ⟨gL, off + i * 4 + 3, none⟩) hgL).trans q3
        obtain ⟨a, ha⟩ : ∃ a, a = l[i] := ⟨_, rfl⟩
        rw [← ha] at q0' q1' q2' q3'
        have HLT := Lib.hid hlt
        clear ha q0 q1 q2 q3 hgL hi
        go_wp2_with (refine wpList_alloc_g rfl _ rfl _ _ Try.zeroAct rfl ?_)
        intro R w1 h1
        go_wp2_with (refine wpList_store_row_g (t := 39) (old := #[.int .i64 0, .string (bs []), .string (bs []), .int .i64 0]) rfl 39 _ _ rfl R #[.int .i64 a.kind, .string (bs a.key), .string (bs a.value), .int .i64 a.n] rfl rfl h1.out.cells Try.sizeAct rfl (by simp [Value.oneCell']) ?_)
        intro w2 h2' k12 z12
        have hb12 : Below wr.heap.size wr w2 := h1.out.below.trans (k12.below (B := wr.heap.size) (fun x hx e => by have := h1.out.eq; omega) h1.out.below.size)
        have r1 : w2.cell? ⟨R, 1, none⟩ = some (.string (bs a.key)) := Lib.cell_of_heap h2' 1
        have r2 : w2.cell? ⟨R, 2, none⟩ = some (.string (bs a.value)) := Lib.cell_of_heap h2' 2
        have HB2 := Lib.hid (BW.out.trans (hb12.mono BW.out.size))
        clear h1 h2' k12 z12 hb12 q0' q1' q2' q3'
        go_wp2_with fail
        case roundEnd =>
          go_roundw
          case rel => exact ⟨i + 1, _, by go_num, rfl, Nat.succ_le_of_lt HLT.out, HB2⟩
          case measure => have hh : i < n := HLT.out; simp [intOf]; omega
        go_ret
        exact ⟨false, rfl, fun h => (by cases h), HB2.out⟩
      · go_wp2_with fail
        go_ret
        exact ⟨true, rfl, fun _ => hl, BW.out⟩
  · have j0 : 300 < n := by omega
    clear hl
    go_enter Try.func20, Try.ntmps20
    go_wp2_with fail
    go_ret
    exact ⟨false, rfl, fun h => (by cases h), Below.refl _ _⟩
end Go.Proofs.Ytggcmaegmkjedaa
