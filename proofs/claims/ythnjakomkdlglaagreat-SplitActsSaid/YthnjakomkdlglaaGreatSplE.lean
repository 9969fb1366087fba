/- Law 34: the world of services and operators; SplitActs. No condition. -/
import Derived.Test.YthnjakomkdlglaaGreatSplD
import Derived.Deep.Cut
import Derived.BigQuiet
namespace Go.Proofs.YthnjakomkdlglaaGreat
open Go.RowKit

theorem two_cells {w w' w0 : World} {g h : Nat} {s s2 : PS} {X : Nat} {cs : Array Value} {T : TypeId} (t : Two w0 w g h s s2) (hX : w.heap[X]? = some (.cells cs T (0, 0))) (hT : stoKind (.cells cs T (0, 0)) = false) (hR : rstKind (.cells cs T (0, 0)) = false) (hk : Keep (· = X) w w') (hw : w0.heap.size ≤ X) : Two w0 w' g h s s2 := by
  obtain ⟨F, G, h1, h2, h3, h4, h5⟩ := t
  refine ⟨F, G, h1.keep hk fun x hx e => ?_, h2.keep hk fun x hx e => ?_, h3, h4, h5.trans (hk.below (B := w0.heap.size) (fun y hy e => by omega) h5.size)⟩
  · obtain ⟨o, ho, hs⟩ := h1.kind x hx
    subst e
    rw [hX] at ho
    cases ho
    rw [hT] at hs
    cases hs
  · obtain ⟨o, ho, hs⟩ := h2.kind x hx
    subst e
    rw [hX] at ho
    cases ho
    rw [hR] at hs
    cases hs
/-- The world of law 34. -/
def wZ1 (s : PS) (who : Int) : PS := (s.ros who).reg (7 + who)
def wZq : Nat → PS
  | 0 => PS.new
  | i + 1 => wZ1 (wZq i) (1 + (i : Int))
theorem wZq_succ (i : Nat) : wZq (i + 1) = wZ1 (wZq i) (1 + (i : Int)) := rfl
theorem wZ1_eq (s : PS) (who : Int) : wZ1 s who = (s.ros who).reg (7 + who) := rfl

set_option maxHeartbeats 8000000 in
set_option maxRecDepth 100000 in
theorem world34_any (w : World) : Calls Tryz.prog 43 #[] w (fun e w' => ∃ g h, e = .returned (.tuple #[.pointer (some ⟨g, 0, none⟩), .pointer (some ⟨h, 0, none⟩)]) ∧ ∃ s, s.sz ≤ 12 ∧ Fit s ∧ Two w w' g h s s) := by
  have HB : Hid (Below w.heap.size w w) := Lib.hid (Below.refl _ _)
  go_enter Tryz.func43, Tryz.ntmps43
  go_wp2_with fail
  refine (snew_any _).mono ?_
  rintro e w3 ⟨g, F, rfl, q1, hb3, q3⟩
  have Q1 := Lib.hid q1; have HB3 := Lib.hid (HB.out.trans (hb3.mono HB.out.size)); have Q3 : Hid (∀ x ∈ F, w.heap.size ≤ x) := Lib.hid fun x hx => Nat.le_trans HB.out.size (q3 x hx)
  clear q1 hb3 q3
  go_wp2_with fail
  obtain ⟨w4, hw4⟩ : ∃ w4, w4 = w3.alloc (.cells #[.slice none 0 0, .slice none 0 0] 30) := ⟨_, rfl⟩
  obtain ⟨h, hh⟩ : ∃ h, h = w3.heap.size := ⟨_, rfl⟩
  rw [← hw4, ← hh]
  have TW : Hid (Two w w4 g h PS.new PS.new) := Lib.hid (by
    have hb4 : Below w3.heap.size w3 w4 := by rw [hw4]; exact (Below.refl _ _).alloc (Nat.le_refl _) _
    have hx4 : w4.heap[h]? = some (.cells #[.slice none 0 0, .slice none 0 0] 30 (0, 0)) := by rw [hw4, hh]; exact heap_alloc_new _ _
    have hrs : RS w4 h PS.new (rfoot h (.slice none 0 0) (.slice none 0 0)) := ⟨_, _, ⟨hx4, LO.nil _ _ _ _, LO.nil _ _ _ _, List.Pairwise.nil⟩, rfl⟩
    refine ⟨F, _, Q1.out.later hb4, hrs, Q3.out, fun x hx => ?_, HB3.out.trans (hb4.mono HB3.out.size)⟩
    rw [rfoot_eq] at hx
    rcases hx with e | e | e
    · rw [e, hh]; exact HB3.out.size
    · cases e
    · cases e)
  clear hw4 hh Q1 Q3 HB3
  go_wp2_with fail
  go_loopw [4] (fun vi wr => ∃ (i : Nat) (s : PS), vi = .int .i64 (1 + (i : Int)) ∧ i ≤ 2 ∧ Hid (s.sz ≤ 6 * i) ∧ Hid (Fit s) ∧ Hid (Two w wr g h s s)) (fun vi _ => (10 - intOf vi).toNat)
  case atStart => exact ⟨0, _, rfl, by omega, Lib.hid (Nat.le_refl _), Lib.hid Fit.new, TW⟩
  case round =>
    clear TW
    obtain ⟨i, s, rfl, hi, HZ, HF, TF⟩ := hrel
    obtain ⟨wh, hwh⟩ : ∃ x : Int, x = 1 + (i : Int) := ⟨_, rfl⟩
    rw [← hwh]
    by_cases hlt : i < 2
    · have hw9 : wh ≤ 2 := by omega
      have hw8 : 1 ≤ wh := by omega
      have HWI : Hid (I64 wh) := Lib.hid (by unfold I64; omega)
      have HW7 : Hid (I64 (7 + wh)) := Lib.hid (by unfold I64; omega)
      have HWH := Lib.hid hwh
      have HI := Lib.hid hlt
      clear hwh hlt hi
      obtain ⟨s1, hs1⟩ : ∃ z, z = s.ros wh := ⟨_, rfl⟩
      have HS1 := Lib.hid hs1
      have HF1 : Hid (Fit s1 ∧ s1.sz ≤ 6 * i + 4) := Lib.hid ⟨by rw [hs1]; exact ros_fit HF.out _, by have h8 := ros_sz s wh; have h9 := HZ.out; rw [hs1]; omega⟩
      clear hs1
      obtain ⟨s2, hs2⟩ : ∃ z, z = s1.reg (7 + wh) := ⟨_, rfl⟩
      have HS2 := Lib.hid hs2
      have HF2 : Hid (Fit s2 ∧ s2.sz ≤ 6 * (i + 1)) := Lib.hid ⟨by rw [hs2]; exact reg_fit HF1.out.1 _, by have h8 := reg_sz s1 (7 + wh); have h9 := HF1.out.2; rw [hs2]; omega⟩
      clear hs2
      have hwr : IntKind.i64.wrap (7 + wh) = 7 + wh := by rw [IntKind.wrap_i64]; omega
      go_wp2_with fail
      refine (TF.out.st fun F hs => ros_any hs (by have := HZ.out; have := HI.out; omega) HF.out HWI.out).mono ?_
      rw [← HS1.out]
      rintro e a1 ⟨rfl, o, hoth⟩
      have TFm := Lib.hid o
      clear o hoth TF
      have TF := TFm
      clear TFm
      go_wp2_with fail
      refine (TF.out.rs fun F hs => rros_any hs (by have := HZ.out; have := HI.out; omega) HF.out HWI.out).mono ?_
      rw [← HS1.out]
      rintro e a2 ⟨rfl, o, hoth⟩
      have TFm := Lib.hid o
      clear o hoth TF
      have TF := TFm
      clear TFm
      go_wp2_with fail
      refine (TF.out.st fun F hs => sreg_any hs (by have := HF1.out.2; have := HI.out; omega) HF1.out.1 HW7.out).mono ?_
      rw [← HS2.out]
      rintro e a3 ⟨rfl, o, hoth⟩
      have TFm := Lib.hid o
      clear o hoth TF
      have TF := TFm
      clear TFm
      go_wp2_with fail
      refine (TF.out.rs fun F hs => rreg26_any hs (by have := HF1.out.2; have := HI.out; omega) HF1.out.1 HW7.out).mono ?_
      rw [← HS2.out]
      rintro e a4 ⟨rfl, o, hoth⟩
      have TFm := Lib.hid o
      clear o hoth TF
      have TF := TFm
      clear TFm
      go_wp2_with fail
      clear hwr
      go_roundw
      case rel => exact ⟨i + 1, s2, by rw [HWH.out]; first | rfl | (congr 1; omega), HI.out, Lib.hid HF2.out.2, Lib.hid HF2.out.1, TF⟩
      case measure => have := HWH.out; have := HI.out; simp [intOf]; omega
    · obtain rfl : i = 2 := by omega
      obtain rfl : wh = 3 := by omega
      clear hlt hi hwh
      go_wp2_with fail
      go_ret2
      exact ⟨g, h, rfl, s, HZ.out, HF.out, TF.out⟩

set_option maxHeartbeats 16000000 in
set_option maxRecDepth 100000 in
theorem acts34_any {w : World} {v : Value} {l : List Act34} (blk : Int) (h1 : Rd w act34E 5 v l) (hgd : ∀ a ∈ l, Good34 w a) :
    Calls Tryz.prog 8 #[v, .int .i64 blk] w (Ret w (.bool true)) := by
  obtain ⟨ad, cap, e1, c1, c1'⟩ := h1.shape
  obtain ⟨n, hn⟩ : ∃ n, n = l.length := ⟨_, rfl⟩
  rw [← hn] at e1 c1
  subst e1
  have H1 := Lib.hid h1; have HN := Lib.hid hn; have HGD := Lib.hid hgd
  clear h1 hn hgd
  by_cases hbig : 100 < n
  · go_enter Tryz.func8, Tryz.ntmps8
    go_wp2_with fail
    refine (lives34_any _).mono ?_
    rintro e w2 ⟨rfl, hb⟩
    have HB := Lib.hid hb
    clear hb
    go_wp2_with fail
    go_ret
    exact ⟨rfl, HB.out⟩
  have P150 : Hid (n ≤ 100) := Lib.hid (by omega)
  go_enter Tryz.func8, Tryz.ntmps8
  go_wp2_with fail
  clear hbig
  refine (world34_any _).mono ?_
  rintro e w4 ⟨g, h, rfl, s0, hz0, hf0, t1⟩
  have TW := Lib.hid t1; have HZ0 := Lib.hid hz0; have HF0 := Lib.hid hf0
  clear t1 hz0 hf0
  go_wp2_with fail
  go_loopw [19] (fun vi wr => ∃ (i : Nat) (s : PS), vi = .int .i64 i ∧ i ≤ n ∧ Hid (s.sz ≤ 12 + 2 * i) ∧ Hid (Fit s) ∧ Hid (Two w wr g h s s)) (fun vi _ => n - (intOf vi).toNat)
  case atStart => exact ⟨0, s0, rfl, Nat.zero_le _, HZ0, HF0, TW⟩
  case round =>
    clear TW
    obtain ⟨i, s, rfl, hin, HZ, HF, TF⟩ := hrel
    by_cases hlt : i < n
    · have hj : i < l.length := by rw [← HN.out]; exact hlt
      obtain ⟨gL, off, rfl, hgL, q0, q1, q2, q3, q4⟩ := Rd.act34 H1.out i hj
      have hbw := TF.out.below
      have q0' := (hbw.cell (p := ⟨gL, off + i * 5, none⟩) hgL).trans q0
      have q1' := (hbw.cell (p := ⟨gL, off + i * 5 + 1, none⟩) hgL).trans q1
      have q2' := (hbw.cell (p := ⟨gL, off + i * 5 + 2, none⟩) hgL).trans q2
      have q3' := (hbw.cell (p := ⟨gL, off + i * 5 + 3, none⟩) hgL).trans q3
      have q4' := (hbw.cell (p := ⟨gL, off + i * 5 + 4, none⟩) hgL).trans q4
      have hmem : l[i] ∈ l := List.getElem_mem hj
      obtain ⟨a, ha⟩ : ∃ a, a = l[i] := ⟨_, rfl⟩
      rw [← ha] at hmem q0' q1' q2' q3' q4'
      have HJL := Lib.hid hlt; have HGX := Lib.hid (HGD.out a hmem)
      have HI : Hid (i ≤ 100) := Lib.hid (by have := P150.out; omega)
      obtain ⟨s2, hs2⟩ : ∃ z, z = s.spl a.o a.sv a.bp a.b a.wt := ⟨_, rfl⟩
      obtain ⟨er, her⟩ : ∃ z, z = splE s a.o a.sv a.bp a.b a.wt := ⟨_, rfl⟩
      obtain ⟨gv, hgv⟩ : ∃ z, z = getSp (getP s2.t) a.o a.sv blk := ⟨_, rfl⟩
      have HS2 := Lib.hid hs2; have HER := Lib.hid her; have HGV := Lib.hid hgv
      have HZ2 : Hid (s2.sz ≤ 12 + 2 * (i + 1)) := Lib.hid (by have h7 := spl_sz s a.o a.sv a.bp a.b a.wt; have h8 := HZ.out; rw [hs2]; omega)
      have HF2 : Hid (Fit s2) := Lib.hid (by rw [hs2]; exact spl_fit HF.out _ _ _ _ _)
      clear ha q0 q1 q2 q3 q4 hgL hj hmem hbw hs2 hin her hgv
      go_wp2_with (refine wpList_alloc_g rfl _ rfl _ _ Tryz.zeroAct34 rfl ?_)
      intro R d1 hR
      have WR : Hid (w.heap.size ≤ R) := Lib.hid (by rw [hR.out.eq]; exact (TF.out.below).size)
      have HRz := Lib.hid hR.out.cells; have hbR := hR.out.below
      clear hR
      have TFm := Lib.hid (TF.out.later hbR)
      clear hbR TF
      have TF := TFm
      clear TFm
      have HR := HRz
      clear HRz
      go_wp2_with (refine wpList_store_row_g (t := 80) (old := #[.int .i64 0, .int .i64 0, .int .i64 0, .int .i64 0, .int .i64 0]) rfl 80 _ _ rfl R #[.int .i64 a.o, .int .i64 a.sv, .int .i64 a.bp, .int .i64 a.b, .int .i64 a.wt] rfl rfl HR.out Tryz.sizeAct34 rfl (by simp [Value.oneCell']) ?_)
      intro d2 hxR kR zR
      clear zR
      have TFm := Lib.hid (two_cells TF.out HR.out rfl rfl kR WR.out)
      have HRm := Lib.hid hxR
      clear hxR kR TF HR
      have TF := TFm
      have HR := HRm
      clear TFm HRm
      clear q0' q1' q2' q3' q4' hlt
      have hi150 : i ≤ 100 := HI.out
      go_wp2_with fail
      obtain ⟨d3, hwz⟩ : ∃ wz, wz = d2.drew := ⟨_, rfl⟩
      have hbz : Below d2.heap.size d2 d3 := by rw [hwz]; exact (Below.refl _ _).drew
      have TFm := Lib.hid (TF.out.later hbz)
      have HRm := Lib.hid (below_at' hbz HR.out)
      clear hbz TF HR
      have TF := TFm
      have HR := HRm
      clear TFm HRm
      have hS : d3.heap[R]? = some (.cells #[.int .i64 a.o, .int .i64 a.sv, .int .i64 a.bp, .int .i64 a.b, .int .i64 a.wt] 80 (0, 0)) := HR.out
      refine wp_region_till (fun w' => w'.heap[R]? = some (.cells #[.int .i64 a.o, .int .i64 a.sv, .int .i64 a.bp, .int .i64 a.b, .int .i64 a.wt] 80 (0, 0))) 42 42 (by kernel_rfl) rfl ?_
      rw [← hwz]
      clear hwz
      refine till_take 0 (some 23) rfl rfl (by kernel_rfl) (by kernel_rfl) (by kernel_rfl) (by kernel_rfl) (by kernel_rfl) (by kernel_rfl) (fun _ _ _ h => h) (.inl ⟨by rfl, fun w' _ => (by go_simp; rfl)⟩) hS ?_
      go_frame
      refine till_take 1 (some 24) rfl rfl (by kernel_rfl) (by kernel_rfl) (by kernel_rfl) (by kernel_rfl) (by kernel_rfl) (by kernel_rfl) (fun _ _ _ h => h) (.inl ⟨by rfl, fun w' _ => (by go_simp; rfl)⟩) hS ?_
      go_frame
      refine till_take 2 (some 25) rfl rfl (by kernel_rfl) (by kernel_rfl) (by kernel_rfl) (by kernel_rfl) (by kernel_rfl) (by kernel_rfl) (fun _ _ _ h => h) (.inl ⟨by rfl, fun w' hS' => (by have hc : w'.cell? ⟨R, 0, none⟩ = some (.int .i64 a.o) := Lib.cell_of_heap (hS') 0; go_simp; rfl)⟩) hS ?_
      go_frame
      refine till_take 3 (some 26) rfl rfl (by kernel_rfl) (by kernel_rfl) (by kernel_rfl) (by kernel_rfl) (by kernel_rfl) (by kernel_rfl) (fun _ _ _ h => h) (.inl ⟨by rfl, fun w' _ => (by go_simp; rfl)⟩) hS ?_
      go_frame
      refine till_take 4 (some 27) rfl rfl (by kernel_rfl) (by kernel_rfl) (by kernel_rfl) (by kernel_rfl) (by kernel_rfl) (by kernel_rfl) (fun _ _ _ h => h) (.inl ⟨by rfl, fun w' hS' => (by have hc : w'.cell? ⟨R, 1, none⟩ = some (.int .i64 a.sv) := Lib.cell_of_heap (hS') 1; go_simp; rfl)⟩) hS ?_
      go_frame
      refine till_take 5 (some 28) rfl rfl (by kernel_rfl) (by kernel_rfl) (by kernel_rfl) (by kernel_rfl) (by kernel_rfl) (by kernel_rfl) (fun _ _ _ h => h) (.inl ⟨by rfl, fun w' _ => (by go_simp; rfl)⟩) hS ?_
      go_frame
      refine till_take 6 (some 29) rfl rfl (by kernel_rfl) (by kernel_rfl) (by kernel_rfl) (by kernel_rfl) (by kernel_rfl) (by kernel_rfl) (fun _ _ _ h => h) (.inl ⟨by rfl, fun w' hS' => (by have hc : w'.cell? ⟨R, 2, none⟩ = some (.int .i64 a.bp) := Lib.cell_of_heap (hS') 2; go_simp; rfl)⟩) hS ?_
      go_frame
      refine till_take 7 (some 30) rfl rfl (by kernel_rfl) (by kernel_rfl) (by kernel_rfl) (by kernel_rfl) (by kernel_rfl) (by kernel_rfl) (fun _ _ _ h => h) (.inl ⟨by rfl, fun w' _ => (by go_simp; rfl)⟩) hS ?_
      go_frame
      refine till_take 8 (some 31) rfl rfl (by kernel_rfl) (by kernel_rfl) (by kernel_rfl) (by kernel_rfl) (by kernel_rfl) (by kernel_rfl) (fun _ _ _ h => h) (.inl ⟨by rfl, fun w' hS' => (by have hc : w'.cell? ⟨R, 3, none⟩ = some (.int .i64 a.b) := Lib.cell_of_heap (hS') 3; go_simp; rfl)⟩) hS ?_
      go_frame
      refine till_take 9 (some 32) rfl rfl (by kernel_rfl) (by kernel_rfl) (by kernel_rfl) (by kernel_rfl) (by kernel_rfl) (by kernel_rfl) (fun _ _ _ h => h) (.inl ⟨by rfl, fun w' _ => (by go_simp; rfl)⟩) hS ?_
      go_frame
      refine till_take 10 (some 33) rfl rfl (by kernel_rfl) (by kernel_rfl) (by kernel_rfl) (by kernel_rfl) (by kernel_rfl) (by kernel_rfl) (fun _ _ _ h => h) (.inl ⟨by rfl, fun w' hS' => (by have hc : w'.cell? ⟨R, 4, none⟩ = some (.int .i64 a.wt) := Lib.cell_of_heap (hS') 4; go_simp; rfl)⟩) hS ?_
      go_frame
      refine till_take 12 (some 35) rfl rfl (by kernel_rfl) (by kernel_rfl) (by kernel_rfl) (by kernel_rfl) (by kernel_rfl) (by kernel_rfl) (fun _ _ _ h => h) (.inl ⟨by rfl, fun w' _ => (by go_simp; rfl)⟩) hS ?_
      go_frame
      refine till_take 13 (some 36) rfl rfl (by kernel_rfl) (by kernel_rfl) (by kernel_rfl) (by kernel_rfl) (by kernel_rfl) (by kernel_rfl) (fun _ _ _ h => h) (.inl ⟨by rfl, fun w' _ => (by go_simp; rfl)⟩) hS ?_
      go_frame
      refine till_take 14 (some 37) rfl rfl (by kernel_rfl) (by kernel_rfl) (by kernel_rfl) (by kernel_rfl) (by kernel_rfl) (by kernel_rfl) (fun _ _ _ h => h) (.inl ⟨by rfl, fun w' hS' => (by have hc : w'.cell? ⟨R, 0, none⟩ = some (.int .i64 a.o) := Lib.cell_of_heap (hS') 0; go_simp; rfl)⟩) hS ?_
      go_frame
      refine till_take 15 (some 38) rfl rfl (by kernel_rfl) (by kernel_rfl) (by kernel_rfl) (by kernel_rfl) (by kernel_rfl) (by kernel_rfl) (fun _ _ _ h => h) (.inl ⟨by rfl, fun w' _ => (by go_simp; rfl)⟩) hS ?_
      go_frame
      refine till_take 16 (some 39) rfl rfl (by kernel_rfl) (by kernel_rfl) (by kernel_rfl) (by kernel_rfl) (by kernel_rfl) (by kernel_rfl) (fun _ _ _ h => h) (.inl ⟨by rfl, fun w' hS' => (by have hc : w'.cell? ⟨R, 1, none⟩ = some (.int .i64 a.sv) := Lib.cell_of_heap (hS') 1; go_simp; rfl)⟩) hS ?_
      go_frame
      refine till_take 17 (some 40) rfl rfl (by kernel_rfl) (by kernel_rfl) (by kernel_rfl) (by kernel_rfl) (by kernel_rfl) (by kernel_rfl) (fun _ _ _ h => h) (.inl ⟨by rfl, fun w' _ => (by go_simp; rfl)⟩) hS ?_
      go_frame
      refine till_take 18 (some 41) rfl rfl (by kernel_rfl) (by kernel_rfl) (by kernel_rfl) (by kernel_rfl) (by kernel_rfl) (by kernel_rfl) (fun _ _ _ h => h) (.inl ⟨by rfl, fun w' hS' => (by have hc : w'.cell? ⟨R, 2, none⟩ = some (.int .i64 a.bp) := Lib.cell_of_heap (hS') 2; go_simp; rfl)⟩) hS ?_
      go_frame
      refine till_take 19 (some 42) rfl rfl (by kernel_rfl) (by kernel_rfl) (by kernel_rfl) (by kernel_rfl) (by kernel_rfl) (by kernel_rfl) (fun _ _ _ h => h) (.inl ⟨by rfl, fun w' _ => (by go_simp; rfl)⟩) hS ?_
      go_frame
      refine till_take 20 (some 43) rfl rfl (by kernel_rfl) (by kernel_rfl) (by kernel_rfl) (by kernel_rfl) (by kernel_rfl) (by kernel_rfl) (fun _ _ _ h => h) (.inl ⟨by rfl, fun w' hS' => (by have hc : w'.cell? ⟨R, 3, none⟩ = some (.int .i64 a.b) := Lib.cell_of_heap (hS') 3; go_simp; rfl)⟩) hS ?_
      go_frame
      refine till_take 21 (some 44) rfl rfl (by kernel_rfl) (by kernel_rfl) (by kernel_rfl) (by kernel_rfl) (by kernel_rfl) (by kernel_rfl) (fun _ _ _ h => h) (.inl ⟨by rfl, fun w' _ => (by go_simp; rfl)⟩) hS ?_
      go_frame
      refine till_take 22 (some 45) rfl rfl (by kernel_rfl) (by kernel_rfl) (by kernel_rfl) (by kernel_rfl) (by kernel_rfl) (by kernel_rfl) (fun _ _ _ h => h) (.inl ⟨by rfl, fun w' hS' => (by have hc : w'.cell? ⟨R, 4, none⟩ = some (.int .i64 a.wt) := Lib.cell_of_heap (hS') 4; go_simp; rfl)⟩) hS ?_
      go_frame
      refine till_one 11 rfl (by kernel_rfl) fun K hK => ?_
      simp only [List.getElem_toArray, List.getElem_cons_succ, List.getElem_cons_zero]
      rw [if_pos (by rfl)]
      go_simp
      refine (TF.out.st fun F hs => splset_any hs (by have := HZ.out; have := HI.out; omega) HF.out a.bp a.b a.wt HGX.out.b_o HGX.out.b_sv).mono ?_
      rw [← HS2.out, ← HER.out]
      rintro e d4 ⟨rfl, o, hoth⟩
      have TFm := Lib.hid o
      have HRm := Lib.hid (hoth.2 R _ HR.out rfl rfl)
      clear o hoth TF HR
      have TF := TFm
      have HR := HRm
      clear TFm HRm
      have hS2 : d4.heap[R]? = some (.cells #[.int .i64 a.o, .int .i64 a.sv, .int .i64 a.bp, .int .i64 a.b, .int .i64 a.wt] 80 (0, 0)) := HR.out
      refine hK _ _ (fun _ _ => hS2) ?_
      clear hK hS
      have hS := hS2
      clear hS2
      refine till_one 23 rfl (by kernel_rfl) fun K hK => ?_
      simp only [List.getElem_toArray, List.getElem_cons_succ, List.getElem_cons_zero]
      rw [if_pos (by rfl)]
      go_simp
      refine (TF.out.rs fun F hs => rsplset_any hs (by have := HZ.out; have := HI.out; omega) HF.out a.bp a.b a.wt HGX.out.b_o HGX.out.b_sv).mono ?_
      rw [← HS2.out, ← HER.out]
      rintro e d5 ⟨rfl, o, hoth⟩
      have TFm := Lib.hid o
      have HRm := Lib.hid (hoth.2 R _ HR.out rfl rfl)
      clear o hoth TF HR
      have TF := TFm
      have HR := HRm
      clear TFm HRm
      have hS2 : d5.heap[R]? = some (.cells #[.int .i64 a.o, .int .i64 a.sv, .int .i64 a.bp, .int .i64 a.b, .int .i64 a.wt] 80 (0, 0)) := HR.out
      refine hK _ _ (fun _ _ => hS2) ?_
      clear hK hS
      have hS := hS2
      clear hS2
      refine till_take 24 (some 47) rfl rfl (by kernel_rfl) (by kernel_rfl) (by kernel_rfl) (by kernel_rfl) (by kernel_rfl) (by kernel_rfl) (fun _ _ _ h => h) (.inl ⟨by rfl, fun w' _ => (by go_simp; rfl)⟩) hS ?_
      go_frame
      refine till_take 25 (some 48) rfl rfl (by kernel_rfl) (by kernel_rfl) (by kernel_rfl) (by kernel_rfl) (by kernel_rfl) (by kernel_rfl) (fun _ _ _ h => h) (.inl ⟨by rfl, fun w' _ => (by go_simp; rfl)⟩) hS ?_
      go_frame
      refine till_take 26 (some 49) rfl rfl (by kernel_rfl) (by kernel_rfl) (by kernel_rfl) (by kernel_rfl) (by kernel_rfl) (by kernel_rfl) (fun _ _ _ h => h) (.inl ⟨by rfl, fun w' _ => (by go_simp; rfl)⟩) hS ?_
      go_frame
      refine till_take 27 (some 50) rfl rfl (by kernel_rfl) (by kernel_rfl) (by kernel_rfl) (by kernel_rfl) (by kernel_rfl) (by kernel_rfl) (fun _ _ _ h => h) (.inl ⟨by rfl, fun w' _ => (by go_simp; rfl)⟩) hS ?_
      go_frame
      refine till_take 28 (some 51) rfl rfl (by kernel_rfl) (by kernel_rfl) (by kernel_rfl) (by kernel_rfl) (by kernel_rfl) (by kernel_rfl) (fun _ _ _ h => h) (.inl ⟨by rfl, fun w' hS' => (by have hc : w'.cell? ⟨R, 0, none⟩ = some (.int .i64 a.o) := Lib.cell_of_heap (hS') 0; go_simp; rfl)⟩) hS ?_
      go_frame
      refine till_take 29 (some 52) rfl rfl (by kernel_rfl) (by kernel_rfl) (by kernel_rfl) (by kernel_rfl) (by kernel_rfl) (by kernel_rfl) (fun _ _ _ h => h) (.inl ⟨by rfl, fun w' _ => (by go_simp; rfl)⟩) hS ?_
      go_frame
      refine till_take 30 (some 53) rfl rfl (by kernel_rfl) (by kernel_rfl) (by kernel_rfl) (by kernel_rfl) (by kernel_rfl) (by kernel_rfl) (fun _ _ _ h => h) (.inl ⟨by rfl, fun w' hS' => (by have hc : w'.cell? ⟨R, 1, none⟩ = some (.int .i64 a.sv) := Lib.cell_of_heap (hS') 1; go_simp; rfl)⟩) hS ?_
      go_frame
      refine till_take 31 (some 54) rfl rfl (by kernel_rfl) (by kernel_rfl) (by kernel_rfl) (by kernel_rfl) (by kernel_rfl) (by kernel_rfl) (fun _ _ _ h => h) (.inl ⟨by rfl, fun w' _ => (by go_simp; rfl)⟩) hS ?_
      go_frame
      refine till_take 33 (some 56) rfl rfl (by kernel_rfl) (by kernel_rfl) (by kernel_rfl) (by kernel_rfl) (by kernel_rfl) (by kernel_rfl) (fun _ _ _ h => h) (.inl ⟨by rfl, fun w' _ => (by go_simp; rfl)⟩) hS ?_
      go_frame
      refine till_take 34 (some 57) rfl rfl (by kernel_rfl) (by kernel_rfl) (by kernel_rfl) (by kernel_rfl) (by kernel_rfl) (by kernel_rfl) (fun _ _ _ h => h) (.inl ⟨by rfl, fun w' _ => (by go_simp; rfl)⟩) hS ?_
      go_frame
      refine till_take 35 (some 58) rfl rfl (by kernel_rfl) (by kernel_rfl) (by kernel_rfl) (by kernel_rfl) (by kernel_rfl) (by kernel_rfl) (fun _ _ _ h => h) (.inl ⟨by rfl, fun w' hS' => (by have hc : w'.cell? ⟨R, 0, none⟩ = some (.int .i64 a.o) := Lib.cell_of_heap (hS') 0; go_simp; rfl)⟩) hS ?_
      go_frame
      refine till_take 36 (some 59) rfl rfl (by kernel_rfl) (by kernel_rfl) (by kernel_rfl) (by kernel_rfl) (by kernel_rfl) (by kernel_rfl) (fun _ _ _ h => h) (.inl ⟨by rfl, fun w' _ => (by go_simp; rfl)⟩) hS ?_
      go_frame
      refine till_take 37 (some 60) rfl rfl (by kernel_rfl) (by kernel_rfl) (by kernel_rfl) (by kernel_rfl) (by kernel_rfl) (by kernel_rfl) (fun _ _ _ h => h) (.inl ⟨by rfl, fun w' hS' => (by have hc : w'.cell? ⟨R, 1, none⟩ = some (.int .i64 a.sv) := Lib.cell_of_heap (hS') 1; go_simp; rfl)⟩) hS ?_
      go_frame
      refine till_take 38 (some 61) rfl rfl (by kernel_rfl) (by kernel_rfl) (by kernel_rfl) (by kernel_rfl) (by kernel_rfl) (by kernel_rfl) (fun _ _ _ h => h) (.inl ⟨by rfl, fun w' _ => (by go_simp; rfl)⟩) hS ?_
      go_frame
      refine till_one 32 rfl (by kernel_rfl) fun K hK => ?_
      simp only [List.getElem_toArray, List.getElem_cons_succ, List.getElem_cons_zero]
      rw [if_pos (by rfl)]
      go_simp
      obtain ⟨F9, h9⟩ := TF.out.get1
      refine (splget_any (Look.of_st h9) HF2.out.f HGX.out.b_o HGX.out.b_sv).mono ?_
      rw [← HGV.out]
      rintro e d6 ⟨rfl, hb⟩
      clear h9
      have TFm := Lib.hid (TF.out.later hb)
      have HRm := Lib.hid (below_at' hb HR.out)
      clear hb TF HR
      have TF := TFm
      have HR := HRm
      clear TFm HRm
      have hS2 : d6.heap[R]? = some (.cells #[.int .i64 a.o, .int .i64 a.sv, .int .i64 a.bp, .int .i64 a.b, .int .i64 a.wt] 80 (0, 0)) := HR.out
      refine hK _ _ (fun _ _ => hS2) ?_
      clear hK hS
      have hS := hS2
      clear hS2
      refine till_one 39 rfl (by kernel_rfl) fun K hK => ?_
      simp only [List.getElem_toArray, List.getElem_cons_succ, List.getElem_cons_zero]
      rw [if_pos (by rfl)]
      go_simp
      obtain ⟨F9, h9⟩ := TF.out.get2
      refine (rsplget_any h9 (by have := HZ2.out; have := HI.out; omega) HF2.out HGX.out.b_o HGX.out.b_sv).mono ?_
      rw [← HGV.out]
      rintro e d7 ⟨rfl, hb⟩
      clear h9
      have TFm := Lib.hid (TF.out.later hb)
      have HRm := Lib.hid (below_at' hb HR.out)
      clear hb TF HR
      have TF := TFm
      have HR := HRm
      clear TFm HRm
      have hS2 : d7.heap[R]? = some (.cells #[.int .i64 a.o, .int .i64 a.sv, .int .i64 a.bp, .int .i64 a.b, .int .i64 a.wt] 80 (0, 0)) := HR.out
      refine hK _ _ (fun _ _ => hS2) ?_
      clear hK hS
      have hS := hS2
      clear hS2
      refine till_take 40 (some 63) rfl rfl (by kernel_rfl) (by kernel_rfl) (by kernel_rfl) (by kernel_rfl) (by kernel_rfl) (by kernel_rfl) (fun _ _ _ h => h) (.inl ⟨by rfl, fun w' _ => (by go_simp; rfl)⟩) hS ?_
      go_frame
      refine till_take 41 (some 64) rfl rfl (by kernel_rfl) (by kernel_rfl) (by kernel_rfl) (by kernel_rfl) (by kernel_rfl) (by kernel_rfl) (fun _ _ _ h => h) (.inl ⟨by rfl, fun w' _ => (by go_simp; rfl)⟩) hS ?_
      go_frame
      refine till_done (by kernel_rfl) ?_ _
      clear hS
      go_wp2_with fail
      go_roundw
      case rel => exact ⟨i + 1, s2, by go_num, HJL.out, HZ2, HF2, TF⟩
      case measure => have := HJL.out; simp [intOf]; omega
    · obtain rfl : i = n := by omega
      have HSZ : Hid (s.t.length < 1099511627776) := Lib.hid (by
        have h9 := HZ.out; have h8 := P150.out
        unfold PS.sz at h9
        omega)
      obtain ⟨_, _, p1, p2, _, _, _⟩ := TF.out
      obtain ⟨vL, vP, hra, _⟩ := p2
      have P1 := Lib.hid p1; have HRA := Lib.hid hra
      have hS : wr.drew.cell? ⟨h, 0, none⟩ = some vL := Lib.cell_of_heap hra.head 0
      have hbd : Below wr.heap.size wr wr.drew := Below.drew (Below.refl _ _)
      clear p1 hra
      go_wp2_with fail
      clear hlt
      refine wp_region_till (fun w' => w'.cell? ⟨h, 0, none⟩ = some vL) 11 11 (by kernel_rfl) rfl ?_
      refine till_take 0 (some 66) rfl rfl (by kernel_rfl) (by kernel_rfl) (by kernel_rfl) (by kernel_rfl) (by kernel_rfl) (by kernel_rfl) (fun _ _ _ h => h) (.inl ⟨by rfl, fun w' _ => (by go_simp; rfl)⟩) hS ?_
      go_frame
      refine till_take 2 (some 68) rfl rfl (by kernel_rfl) (by kernel_rfl) (by kernel_rfl) (by kernel_rfl) (by kernel_rfl) (by kernel_rfl) (fun _ _ _ h => h) (.inl ⟨by rfl, fun w' _ => (by go_simp; rfl)⟩) hS ?_
      go_frame
      refine till_take 3 (some 69) rfl rfl (by kernel_rfl) (by kernel_rfl) (by kernel_rfl) (by kernel_rfl) (by kernel_rfl) (by kernel_rfl) (fun _ _ _ h => h) (.inl ⟨by rfl, fun w' _ => (by go_simp; rfl)⟩) hS ?_
      go_frame
      refine till_take 4 (some 70) rfl rfl (by kernel_rfl) (by kernel_rfl) (by kernel_rfl) (by kernel_rfl) (by kernel_rfl) (by kernel_rfl) (fun _ _ _ h => h) (.inl ⟨by rfl, fun w' _ => (by go_simp; rfl)⟩) hS ?_
      go_frame
      refine till_take 5 (some 71) rfl rfl (by kernel_rfl) (by kernel_rfl) (by kernel_rfl) (by kernel_rfl) (by kernel_rfl) (by kernel_rfl) (fun _ _ _ h => h) (.inl ⟨by rfl, fun w' hS' => (by have hc1 := hS'; go_simp; rfl)⟩) hS ?_
      go_frame
      refine till_one 1 rfl (by kernel_rfl) fun K hK => ?_
      simp only [List.getElem_toArray, List.getElem_cons_succ, List.getElem_cons_zero]
      rw [if_pos (by rfl)]
      go_simp
      refine (sall_any (P1.out.later hbd) HSZ.out).mono ?_
      rintro e wC ⟨vC, rfl, hlC, hbC, _⟩
      have hbx : Below wr.heap.size wr wC := hbd.trans (hbC.mono hbd.size)
      have hS2 : wC.cell? ⟨h, 0, none⟩ = some vL := Lib.cell_of_heap (below_at' hbx HRA.out.head) 0
      refine hK _ _ (fun _ _ => hS2) ?_
      clear hK hS hbd hbC
      have hS := hS2
      have hbd := hbx
      clear hS2 hbx
      refine till_one 6 rfl (by kernel_rfl) fun K hK => ?_
      simp only [List.getElem_toArray, List.getElem_cons_succ, List.getElem_cons_zero]
      rw [if_pos (by rfl)]
      go_simp
      have hsm := rsame_any (hlC.rd pairE_len) ((HRA.out.list.later hbd).rd pairE_len) HSZ.out HSZ.out
      rw [decide_eq_true rfl] at hsm
      refine hsm.mono ?_
      rintro e wD ⟨rfl, hbD⟩
      clear hsm hlC
      have hbx : Below wr.heap.size wr wD := hbd.trans (hbD.mono hbd.size)
      have hS2 : wD.cell? ⟨h, 0, none⟩ = some vL := Lib.cell_of_heap (below_at' hbx HRA.out.head) 0
      refine hK _ _ (fun _ _ => hS2) ?_
      clear hK hS hbd hbD
      have hS := hS2
      have hbd := hbx
      clear hS2 hbx
      refine till_take 7 (some 73) rfl rfl (by kernel_rfl) (by kernel_rfl) (by kernel_rfl) (by kernel_rfl) (by kernel_rfl) (by kernel_rfl) (fun _ _ _ h => h) (.inl ⟨by rfl, fun w' _ => (by go_simp; rfl)⟩) hS ?_
      go_frame
      refine till_one 8 rfl (by kernel_rfl) fun K hK => ?_
      simp only [List.getElem_toArray, List.getElem_cons_succ, List.getElem_cons_zero]
      rw [if_pos (by rfl)]
      go_simp
      refine (lives34_any _).mono ?_
      rintro e wE ⟨rfl, hbE⟩
      have hbx : Below wr.heap.size wr wE := hbd.trans (hbE.mono hbd.size)
      have hS2 : wE.cell? ⟨h, 0, none⟩ = some vL := Lib.cell_of_heap (below_at' hbx HRA.out.head) 0
      refine hK _ _ (fun _ _ => hS2) ?_
      clear hK hS hbd hbE
      have hS := hS2
      have hbd := hbx
      clear hS2 hbx
      refine till_take 9 (some 75) rfl rfl (by kernel_rfl) (by kernel_rfl) (by kernel_rfl) (by kernel_rfl) (by kernel_rfl) (by kernel_rfl) (fun _ _ _ h => h) (.inl ⟨by rfl, fun w' _ => (by go_simp; rfl)⟩) hS ?_
      go_frame
      refine till_take 10 (some 4) rfl rfl (by kernel_rfl) (by kernel_rfl) (by kernel_rfl) (by kernel_rfl) (by kernel_rfl) (by kernel_rfl) (fun _ _ _ h => h) (.inl ⟨by rfl, fun w' _ => (by go_simp; rfl)⟩) hS ?_
      go_frame
      refine till_done (by kernel_rfl) ?_ _
      have BWA := Lib.hid (TF.out.below.trans (hbd.mono TF.out.below.size))
      clear hS hbd
      go_wp2_with fail
      go_ret
      exact ⟨rfl, BWA.out⟩
end Go.Proofs.YthnjakomkdlglaaGreat
