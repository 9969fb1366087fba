/- sha.New, State.Copy, Len, Reset. -/
import Derived.Test.YtbfdjjaonjepnaaShaG
namespace Go.Proofs.Ytbfdjjaonjepnaa
open Go.RowKit

theorem cW8_begV : cW 8 begV.list = cV begV := rfl
theorem begin_cV (w : World) : Calls Try.prog 77 #[] w (Ret w (.agg (cV begV))) := by
  rw [← cW8_begV]; exact begin_any w
/-- A pointer to a State that holds L, in a block of the call's own. -/
def NewSt (w : World) (L : List UInt8) (e : Ending) (w' : World) : Prop := ∃ g, e = .returned (.pointer (some ⟨g, 0, none⟩)) ∧ w.heap.size ≤ g ∧ StM w' g L ∧ Below w.heap.size w w'
theorem stM_nil {w : World} {g : Nat} (h : w.heap[g]? = some (.cells (stC true begV.list (List.replicate 64 0) 0) 57 (0, 0))) : StM w g [] := ⟨_, ⟨h, rfl, by simp⟩, rfl⟩

theorem built_st : (Array.foldl (fun cs x => cs.setIfInBounds (1 + x.snd) x.fst) (Try.zeroCells57.setIfInBounds 0 (Value.bool true)) (cV begV).zipIdx 0 (cV begV).size) = stC true begV.list (List.replicate 64 0) 0 := by kernel_rfl
set_option maxRecDepth 100000 in
set_option maxHeartbeats 1000000 in
theorem new_any (w : World) : Calls Try.prog 34 #[] w (NewSt w []) := by
  go_enter Try.func34, Try.ntmps34
  go_wp2_with fail
  refine (begin_cV _).mono ?_
  rintro e w1 ⟨rfl, hb1⟩
  go_wp2_with fail
  rw [built_st]
  go_ret
  exact ⟨_, rfl, hb1.size, stM_nil (heap_alloc_new _ _), hb1.alloc hb1.size _⟩

theorem Try.sizeSt (h : List UInt32) (m : Bool) (wt : List UInt8) (n : Int) (h1 : h.length = 8) (h2 : wt.length = 64) : (Try.prog.info? 57).map (·.size) = some (stC m h wt n).size := by
  rw [stC_size _ _ _ _ h1 h2]; kernel_rfl
theorem one_st (m : Bool) (h : List UInt32) (wt : List UInt8) (n : Int) : (stC m h wt n).all (·.oneCell') = true := by
  rw [stC, ← Array.all_toList]
  simp [w32V, byteV, Value.oneCell', List.all_append]
theorem stM_made {w : World} {g : Nat} {L : List UInt8} (h : StM w g L) : w.cell? ⟨g, 0, none⟩ = some (.bool true) := by
  obtain ⟨wt, h, _⟩ := h
  rw [Lib.cell_of_heap h.1]; exact stC_m _ _ _ _

set_option maxRecDepth 100000 in
set_option maxHeartbeats 1000000 in
theorem copy_any (w : World) (g : Nat) (L : List UInt8) (hs : StM w g L) : Calls Try.prog 36 #[.pointer (some ⟨g, 0, none⟩)] w (NewSt w L) := by
  have him := stM_made hs
  obtain ⟨wt, hst, hwt⟩ := hs
  have HST := Lib.hid hst; have HWT := Lib.hid hwt; clear hst hwt
  go_enter Try.func36, Try.ntmps36
  go_wp2_with fail
  refine (is_at _ _ _ him).mono ?_
  rintro e w1 ⟨rfl, rfl⟩
  go_wp2_with (first
    | (refine wpList_load_row rfl _ _ rfl g rfl _ (stC true (hTo L (L.length / 64)).list wt L.length) _ _ HST.out.1 Try.underlying57 rfl (Try.sizeSt _ _ _ _ rfl HST.out.2.2) ?_)
    | (refine wpList_store_row_g (t := 57) (old := stC false (List.replicate 8 0) (List.replicate 64 0) 0) rfl 57 (.tmp 3) (.tmp 9) rfl w.heap.size (stC true (hTo L (L.length / 64)).list wt L.length) rfl rfl ((heap_alloc_new _ _).trans (by kernel_rfl)) (Try.sizeSt _ _ _ _ rfl HST.out.2.2) (by rw [stC_size _ _ _ _ rfl HST.out.2.2]; kernel_rfl) (one_st _ _ _ _) ?_))
  intro w1 h1 k1 z1
  have hb1 : Below w.heap.size w w1 := ((Below.refl _ _).alloc (Nat.le_refl _) _).trans (k1.below (B := w.heap.size) (by intro k hk e; omega) (by simp))
  have H1 := Lib.hid h1; have HB1 := Lib.hid hb1
  clear h1 k1 z1 hb1
  go_wp2_with fail
  go_ret
  exact ⟨_, rfl, Nat.le_refl _, ⟨wt, ⟨H1.out, rfl, HST.out.2.2⟩, HWT.out⟩, HB1.out⟩

theorem len_any (w : World) (g : Nat) (L : List UInt8) (hs : StM w g L) : Calls Try.prog 39 #[.pointer (some ⟨g, 0, none⟩)] w fun e w' => e = .returned (.int .i64 L.length) ∧ w = w' := by
  have him := stM_made hs
  obtain ⟨wt, hst, hwt⟩ := hs
  have q := Lib.cell_of_heap hst.1 73
  rw [stC_n _ _ _ _ rfl hst.2.2] at q
  clear hst hwt
  go_enter Try.func39, Try.ntmps39
  go_wp2_with fail
  refine (is_at _ _ _ him).mono ?_
  rintro e w1 ⟨rfl, rfl⟩
  go_wp2_with fail
  go_ret
  exact ⟨rfl, rfl⟩

set_option maxRecDepth 100000 in
set_option maxHeartbeats 1000000 in
theorem reset_any (w : World) (g : Nat) (L : List UInt8) (hs : StM w g L) : Calls Try.prog 40 #[.pointer (some ⟨g, 0, none⟩)] w fun e w' => e = .returned (.tuple #[]) ∧ StM w' g [] ∧ Keep (· = g) w w' := by
  have him := stM_made hs
  obtain ⟨wt, hst, hwt⟩ := hs
  have HST := Lib.hid hst; clear hst hwt
  go_enter Try.func40, Try.ntmps40
  go_wp2_with fail
  refine (is_at _ _ _ him).mono ?_
  rintro e w1 ⟨rfl, rfl⟩
  go_wp2_with fail
  refine (begin_cV _).mono ?_
  rintro e w1 ⟨rfl, hb1⟩
  have h1 : w1.heap[g]? = some (.cells (stC true (hTo L (L.length / 64)).list wt L.length) 57 (0, 0)) := (hb1.block g (heap_lt HST.out.1)).trans HST.out.1
  have H1 := Lib.hid h1; clear h1
  go_wp2_with ((refine wpList_store_row_g (t := 57) rfl 57 (.tmp 7) (.tmp 6) rfl g (stC true begV.list (List.replicate 64 0) 0) rfl (congrArg Value.agg built_st) _ H1.out (Try.sizeSt _ _ _ _ rfl (by simp)) (by rw [stC_size _ _ _ _ rfl HST.out.2.2, stC_size _ _ _ _ rfl (by simp)]) (one_st _ _ _ _) ?_))
  intro w2 h2 k2 z2
  have H2 := Lib.hid h2; have K2 := Lib.hid k2
  clear h2 k2 z2
  go_wp2_with fail
  go_end0
  exact ⟨rfl, stM_nil H2.out, (Keep.of_below hb1).then K2.out (fun x hx => .inl hx)⟩
end Go.Proofs.Ytbfdjjaonjepnaa
