/- tallagelaw05.ShaBack: its walk. -/
import Derived.Test.YtbfdjjaonjepnaaShaO
import Derived.Test.YtbfdjjaonjepnaaShaQ
namespace Go.Proofs.Ytbfdjjaonjepnaa
open Go.RowKit

set_option maxRecDepth 100000 in
set_option maxHeartbeats 1000000 in
theorem law_back5 (h : List UInt8) (h32 : h.length = 32) (l : List UInt8) (w : World) : Calls Try.prog 9 #[.agg (c8 h), .string (bs l)] w (Ret w (.bool true)) := by
  have hsz := bs_size l
  have H32 := Lib.hid h32
  clear h32
  by_cases hbig : 200 < l.length
  · have e1 : ((bs l).size : Int) > 200 := by rw [hsz]; omega
    clear hsz hbig
    go_enter Try.func9, Try.ntmps9
    go_wp2_with fail
    refine (lives_any _).mono ?_
    rintro e w1 ⟨rfl, hb1⟩
    go_wp2_with fail
    go_ret
    exact ⟨rfl, (boxed1 hb1).1⟩
  · have e1 : ¬ ((bs l).size : Int) > 200 := by rw [hsz]; omega
    have e2 : ((bs l).size : Int) ≤ 200 := by rw [hsz]; omega
    clear hsz hbig
    go_enter Try.func9, Try.ntmps9
    go_wp2_with (refine wpList_load_row rfl _ _ rfl _ rfl _ (c8 h) _ _ (own_boxed w h _) Try.underlying48 rfl (Try.sizeHs h H32.out) ?_)
    refine (hex_any h H32.out _).mono ?_
    rintro e w1 ⟨rfl, hb1⟩
    go_wp2_with fail
    refine (parse_any (hexF h) _).mono ?_
    rintro e w2 ⟨rfl, hb2⟩
    rw [hex_back h H32.out]
    have hbx := boxed1 hb1
    have hbl : Below w.heap.size w w2 := hbx.1.trans (hb2.mono hbx.1.size)
    have hG : w2.heap[w.heap.size]? = some (.cells (c8 h) 48 (0, 0)) := (hb2.block _ hbx.2.2).trans hbx.2.1
    have HBL := Lib.hid hbl; have HG := Lib.hid hG
    clear hb1 hb2 hbx hbl hG
    unfold hpV
    simp only [Option.getD_some, Option.isSome_some]
    go_wp2_with (refine wpList_alloc_g rfl _ rfl _ _ Try.zeroHash rfl ?_)
    intro X w3 h3
    go_wp2_with (refine wpList_store_row_g (t := 48) (old := cB 32 []) rfl 48 (.tmp 5) _ rfl X (c8 h) rfl rfl h3.out.cells (Try.sizeHs h H32.out) (by rw [c8_size, H32.out]; rfl) (by rw [← cB_full 32 _ H32.out]; exact one_b _ _) ?_)
    intro w4 h4 k4 z4
    go_wp2_with fail
    have hb4 : Below w.heap.size w w4 := HBL.out.trans ((h3.out.below.mono HBL.out.size).trans (k4.below (B := w.heap.size) (by intro k hk e; have := h3.out.eq; have := HBL.out.size; omega) (Nat.le_trans HBL.out.size h3.out.below.size)))
    have hG4 : w4.heap[w.heap.size]? = some (.cells (c8 h) 48 (0, 0)) := k4.at ((h3.out.below.block _ (heap_lt HG.out)).trans HG.out) (by have := h3.out.eq; have := heap_lt HG.out; omega)
    have H4 := Lib.hid h4; have HB4 := Lib.hid hb4; have HG4 := Lib.hid hG4
    clear h4 k4 z4 hb4 hG4
    refine (parse_any l _).mono ?_
    rintro e w5 ⟨rfl, hb5⟩
    obtain ⟨r, hr⟩ : ∃ r, r = hpF l := ⟨_, rfl⟩
    rw [← hr]
    have HRR := Lib.hid hr
    obtain ⟨p, hp⟩ : ∃ p, p = r.getD (List.replicate 32 0) := ⟨_, rfl⟩
    have hp32 : p.length = 32 := by
      rw [hp]
      cases r with
      | none => simp
      | some q => exact hpF_len l q hr.symm
    have hp2 : hpV r = .tuple #[.agg (c8 p), .bool r.isSome] := by rw [hp]; rfl
    rw [hp2]
    have HP := Lib.hid hp; have HP32 := Lib.hid hp32; have HB5 := Lib.hid hb5
    clear hr hp hp32 hp2 hb5
    go_wp2_with (refine wpList_alloc_g rfl _ rfl _ _ Try.zeroHash rfl ?_)
    intro Y w6 h6
    go_wp2_with (refine wpList_store_row_g (t := 48) (old := cB 32 []) rfl 48 (.tmp 7) _ rfl Y (c8 p) rfl rfl h6.out.cells (Try.sizeHs p HP32.out) (by rw [c8_size, HP32.out]; rfl) (by rw [← cB_full 32 _ HP32.out]; exact one_b _ _) ?_)
    intro w7 h7 k7 z7
    have hlt4 := heap_lt H4.out
    have hltG := heap_lt HG4.out
    have s5 := HB5.out.size
    have eY := h6.out.eq
    have hG7 : w7.heap[w.heap.size]? = some (.cells (c8 h) 48 (0, 0)) := k7.at ((h6.out.below.block _ (by omega)).trans ((HB5.out.block _ hltG).trans HG4.out)) (by omega)
    have hX7 : w7.heap[X]? = some (.cells (c8 h) 48 (0, 0)) := k7.at ((h6.out.below.block _ (by omega)).trans ((HB5.out.block _ hlt4).trans H4.out)) (by omega)
    have hb7 : Below w.heap.size w w7 := HB4.out.trans ((HB5.out.mono HB4.out.size).trans ((h6.out.below.mono (by omega)).trans (k7.below (B := w.heap.size) (by intro k hk e; omega) (by have := h6.out.below.size; omega))))
    have H7 := Lib.hid h7; have HG7 := Lib.hid hG7; have HX7 := Lib.hid hX7; have HB7 := Lib.hid hb7
    clear h7 k7 z7 hG7 hX7 hb7 hlt4 hltG s5 eY
    have q1 := Try.eqH h h H32.out H32.out
    rw [decide_eq_true (rfl : h = h)] at q1
    cases r with
    | none =>
      simp only [Option.isSome_none]
      have q2 := Try.eqZ p HP32.out
      rw [decide_eq_true (show p = List.replicate 32 0 by rw [HP.out]; rfl)] at q2
      go_wp2_with (first | (refine wpList_load_row_y rfl _ _ rfl w.heap.size rfl _ (c8 h) _ _ HG7.out Try.underlying48 rfl (Try.sizeHs h H32.out) ?_) | (refine wpList_load_row_y rfl _ _ rfl X rfl _ (c8 h) _ _ HX7.out Try.underlying48 rfl (Try.sizeHs h H32.out) ?_) | (refine wpList_load_row_y rfl _ _ rfl Y rfl _ (c8 p) _ _ H7.out Try.underlying48 rfl (Try.sizeHs p HP32.out) ?_))
      refine (lives_any _).mono ?_
      rintro e w8 ⟨rfl, hb8⟩
      go_wp2_with fail
      go_ret
      exact ⟨rfl, HB7.out.trans (hb8.mono HB7.out.size)⟩
    | some q =>
      simp only [Option.isSome_some]
      obtain rfl : p = q := HP.out
      have hpl := hex_of l p HRR.out.symm
      have heq : ((bs l).toList == (bs l).toList) = true := beq_self_eq_true _
      have HPL := Lib.hid hpl
      clear hpl
      go_wp2_with (first | (refine wpList_load_row_y rfl _ _ rfl w.heap.size rfl _ (c8 h) _ _ HG7.out Try.underlying48 rfl (Try.sizeHs h H32.out) ?_) | (refine wpList_load_row_y rfl _ _ rfl X rfl _ (c8 h) _ _ HX7.out Try.underlying48 rfl (Try.sizeHs h H32.out) ?_) | (refine wpList_load_row_y rfl _ _ rfl Y rfl _ (c8 p) _ _ H7.out Try.underlying48 rfl (Try.sizeHs p HP32.out) ?_))
      refine (hex_any p HP32.out _).mono ?_
      rintro e w8 ⟨rfl, hb8⟩
      rw [HPL.out]
      go_wp2_with fail
      refine (lives_any _).mono ?_
      rintro e w9 ⟨rfl, hb9⟩
      have hbl : Below w.heap.size w w9 := HB7.out.trans ((hb8.mono HB7.out.size).trans (hb9.mono (Nat.le_trans HB7.out.size hb8.size)))
      clear hb8 hb9
      go_wp2_with fail
      go_ret
      exact ⟨rfl, hbl⟩
end Go.Proofs.Ytbfdjjaonjepnaa
