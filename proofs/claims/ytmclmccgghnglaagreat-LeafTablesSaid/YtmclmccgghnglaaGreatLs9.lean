/- sha.State.Write. sha.New, State.Copy, Len, Reset. -/
import Derived.Test.YtmclmccgghnglaaGreatLsShaF
namespace Go.Proofs.YtmclmccgghnglaaGreat
section
open Go.RowKit

theorem hTo_app (L M : List UInt8) : ∀ k, 64 * k ≤ L.length → hTo (L ++ M) k = hTo L k := by
  intro k
  induction k with
  | zero => intro _; rfl
  | succ k ih =>
    intro h
    rw [hTo, hTo, ih (by omega), List.drop_append_of_le_length (by omega), List.take_append_of_le_length (by simp; omega)]
/-- What a State made by New holds, when the bytes L were written. -/
def StM (w : World) (g : Nat) (L : List UInt8) : Prop := ∃ wt : List UInt8, St w g true (hTo L (L.length / 64)).list wt L.length ∧ wt.take (L.length % 64) = L.drop (64 * (L.length / 64))
/-- The bytes that wait, when those of c came. -/
def waitTo (wt : List UInt8) (r : Nat) (c : List UInt8) : List UInt8 := wt.take r ++ (c ++ wt.drop (r + c.length))
theorem waitTo_length (wt : List UInt8) (r : Nat) (c : List UInt8) (h : wt.length = 64) (hc : r + c.length ≤ 64) : (waitTo wt r c).length = 64 := by
  simp [waitTo]; omega
theorem wait_full (L c wt : List UInt8) (_ : wt.length = 64) (h : wt.take (L.length % 64) = L.drop (64 * (L.length / 64))) (hc : L.length % 64 + c.length = 64) :
    compress (hTo L (L.length / 64)) (waitTo wt (L.length % 64) c) = hTo (L ++ c) ((L ++ c).length / 64) := by
  have e : (L ++ c).length / 64 = L.length / 64 + 1 := by rw [List.length_append]; omega
  rw [e, hTo, hTo_app _ _ _ (by omega)]
  congr 1
  rw [waitTo, h, List.drop_of_length_le (i := L.length % 64 + c.length) (by omega), List.append_nil, List.drop_append_of_le_length (by omega), List.take_of_length_le]
  simp; omega
theorem wait_part (L c wt : List UInt8) (h : wt.take (L.length % 64) = L.drop (64 * (L.length / 64))) (_ : wt.length = 64) (hc : L.length % 64 + c.length < 64) :
    hTo L (L.length / 64) = hTo (L ++ c) ((L ++ c).length / 64) ∧ (waitTo wt (L.length % 64) c).take ((L ++ c).length % 64) = (L ++ c).drop (64 * ((L ++ c).length / 64)) := by
  have e : (L ++ c).length / 64 = L.length / 64 := by rw [List.length_append]; omega
  have e2 : (L ++ c).length % 64 = L.length % 64 + c.length := by rw [List.length_append]; omega
  rw [e, e2, hTo_app _ _ _ (by omega)]
  refine ⟨rfl, ?_⟩
  rw [waitTo, h, ← List.append_assoc, List.take_append_of_le_length (by simp; omega), List.take_of_length_le (by simp; omega), List.drop_append_of_le_length (by omega)]
theorem stC_splice (m : Bool) (h : List UInt32) (wt : List UInt8) (n : Int) (h1 : h.length = 8) (h2 : wt.length = 64) (r : Nat) (c : List UInt8) (hc : r + c.length ≤ 64) :
    ((stC m h wt n).toList.take (9 + r) ++ (c.map byteV ++ (stC m h wt n).toList.drop (9 + r + (c.map byteV).length))).toArray = stC m h (waitTo wt r c) n := by
  apply Array.ext'
  simp only [stC, waitTo, List.length_map]
  rw [show 9 + r = (8 + r) + 1 by omega, show 8 + r + 1 + c.length = (8 + (r + c.length)) + 1 by omega, List.take_succ_cons, List.drop_succ_cons,
    List.take_append, List.drop_append, List.take_append, List.drop_append]
  simp only [List.length_map, h1, h2]
  rw [List.take_of_length_le (l := h.map w32V) (by simp; omega), List.drop_of_length_le (l := h.map w32V) (by simp; omega), show 8 + r - 8 = r by omega, show 8 + (r + c.length) - 8 = r + c.length by omega, show r - 64 = 0 by omega, show r + c.length - 64 = 0 by omega]
  simp

/-- How many elements a slice has. -/
def lenOf : Value → Nat | .slice _ n _ => n | _ => 0
theorem stM_full {w : World} {g : Nat} {M C wt : List UInt8} {n : Int} (hst : St w g true (compress (hTo M (M.length / 64)) (waitTo wt (M.length % 64) C)).list (waitTo wt (M.length % 64) C) n) (hn : n = (M.length : Int) + C.length)
    (hw : wt.length = 64) (h : wt.take (M.length % 64) = M.drop (64 * (M.length / 64))) (hc : M.length % 64 + C.length = 64) : StM w g (M ++ C) := by
  rw [wait_full M C wt hw h hc] at hst
  subst hn
  refine ⟨_, by rw [List.length_append, Int.natCast_add] ; rwa [List.length_append] at hst, ?_⟩
  rw [List.length_append, show (M.length + C.length) % 64 = 0 by omega, List.drop_of_length_le (by rw [List.length_append]; omega)]
  rfl
theorem stM_part {w : World} {g : Nat} {M C wt : List UInt8} {n : Int} (hst : St w g true (hTo M (M.length / 64)).list (waitTo wt (M.length % 64) C) n) (hn : n = (M.length : Int) + C.length)
    (hw : wt.length = 64) (h : wt.take (M.length % 64) = M.drop (64 * (M.length / 64))) (hc : M.length % 64 + C.length < 64) : StM w g (M ++ C) := by
  have := wait_part M C wt h hw hc
  rw [this.1] at hst
  subst hn
  exact ⟨_, by rw [show ((M ++ C).length : Int) = (M.length : Int) + C.length by rw [List.length_append]; rfl]; exact hst, this.2⟩
theorem Rd.lenOf_eq {α : Type} {w : World} {enc : α → List Value} {sz : Nat} {v : Value} {l : List α} (h : Rd w enc sz v l) : lenOf v = l.length := by
  obtain ⟨ad, cap, rfl, _⟩ := h; rfl
set_option maxRecDepth 100000 in
set_option maxHeartbeats 1000000 in
theorem write_any (w : World) (g : Nat) (L b : List UInt8) (v : Value) (hb : Rd w u8E 1 v b) (hs : StM w g L) (hg : ∀ k, v.ownBlock = some k → b ≠ [] → k ≠ g) (hlen : L.length + b.length < 4611686018427387904) :
    Calls Tryz.prog 330 #[.pointer (some ⟨g, 0, none⟩), v] w fun e w' => e = .returned (.tuple #[]) ∧ StM w' g (L ++ b) ∧ Keep (· = g) w w' := by
  have HB := Lib.hid hb; clear hb
  have HS := Lib.hid hs; clear hs
  have HG := Lib.hid hg; clear hg
  have him : w.cell? ⟨g, 0, none⟩ = some (.bool true) := by
    obtain ⟨wt, h, _⟩ := HS.out
    rw [Lib.cell_of_heap h.1]; exact stC_m _ _ _ _
  go_enter Tryz.func330, Tryz.ntmps330
  go_wp2_with fail
  refine (is_at _ _ _ him).mono ?_
  rintro e w1 ⟨rfl, rfl⟩
  clear him
  go_wp2_with fail
  go_loopw [1, 4] (fun x _ wr => ∃ j : Nat, j ≤ b.length ∧ Rd wr u8E 1 x (b.drop j) ∧ (∀ k, x.ownBlock = some k → b ≠ [] → k ≠ g) ∧ StM wr g (L ++ b.take j) ∧ Keep (· = g) w wr) (fun x _ _ => lenOf x)
  case atStart => exact ⟨0, by omega, HB.out, HG.out, by simpa using HS.out, Keep.refl _ _⟩
  case round =>
    obtain ⟨j, hj, hx, hxg, hst, hkp⟩ := hrel
    obtain ⟨ad, cap, rfl, hcap, hcap2⟩ := hx.shape
    rw [List.length_drop] at *
    have HX := Lib.hid hx; have HXG := Lib.hid hxg; have HST := Lib.hid hst; have HKP := Lib.hid hkp
    clear hx hxg hst hkp
    by_cases hlt : j < b.length
    · have l0 : 0 < b.length - j := by omega
      have hne : b ≠ [] := by intro e; rw [e] at hlt; simp at hlt
      have HNE := Lib.hid hne; clear hne
      have hM : (L ++ b.take j).length = L.length + j := by simp; omega
      have hMb : L.length + j < 4611686018427387904 := by omega
      obtain ⟨M, hMe⟩ : ∃ M, M = L ++ b.take j := ⟨_, rfl⟩
      rw [← hMe] at hM HST
      obtain ⟨N, hN⟩ : ∃ N, N = M.length := ⟨_, rfl⟩
      obtain ⟨r, hr⟩ : ∃ r, r = N % 64 := ⟨_, rfl⟩
      have e1 : (N : Int) % 64 = (r : Int) := by omega
      have e2 : (N : Int).tmod 64 = (r : Int) := by rw [Int.tmod_eq_emod_of_nonneg (by omega)]; exact e1
      have r0 : (r : Int) ≤ 64 := by omega
      have r1 : ¬ (64 = r) := by omega
      have n0 : (0 : Int) ≤ (N : Int) := by omega
      have hN2 : N + (b.length - j) < 4611686018427387904 := by omega
      obtain ⟨wt, hst, hwt⟩ := HST.out
      have q := Lib.cell_of_heap hst.1 73
      rw [stC_n _ _ _ _ hst.2.1 hst.2.2, ← hN] at q
      have HME := Lib.hid hMe; have HM := Lib.hid hM; have HN := Lib.hid hN; have HR := Lib.hid hr; have ST := Lib.hid hst; have HWT := Lib.hid hwt
      clear hMe hM hN hr hst hwt
      go_wp2_with fail
      refine still_tail_w 10 (by kernel_rfl) (by kernel_rfl) fun w6 hw6 => ?_
      simp only [List.take_succ_cons, List.take_zero, List.drop_succ_cons, List.drop_zero]
      have g7 : St w6 g true (hTo M (M.length / 64)).list wt M.length := by rw [hw6]; exact ST.out
      have g8 : Keep (· = g) w w6 := by rw [hw6]; exact HKP.out.drew
      have g9 : Rd w6 u8E 1 (.slice ad (b.length - j) cap) (b.drop j) := by rw [hw6]; exact HX.out.keep (Keep.refl (fun _ => False) _).drew (fun _ _ _ e => e)
      replace q : w6.cell? ⟨g, 73, none⟩ = some (.int .i64 (N : Int)) := by rw [hw6]; exact q
      clear hw6
      have G7 := Lib.hid g7; have G8 := Lib.hid g8; have G9 := Lib.hid g9; clear g7 g8 g9 HX ST HKP
      repeat still_step
      refine wpStill_nil ?_
      obtain ⟨c, hc⟩ : ∃ c, c = min (b.length - j) (64 - r) := ⟨_, rfl⟩
      have hc1 : c ≤ b.length - j := by omega
      have hc2 : r + c ≤ 64 := by omega
      have hc3 : 0 < c := by omega
      have hC : ((b.drop j).take c).length = c := by simp; omega
      obtain ⟨sb, rfl⟩ : ∃ sb, ad = some sb := by
        obtain ⟨x, y, h4, _⟩ := G9.out.ptr (by simp; omega)
        exact ⟨_, h4⟩
      have HC := Lib.hid hC; have HCE := Lib.hid hc; clear hC hc
      refine wpList_copy_g rfl _ _ _ _ rfl 5 (by kernel_rfl) (by kernel_rfl) g (9 + r) (64 - r) (64 - r) sb (b.length - j) cap rfl rfl (stC true (hTo M (M.length / 64)).list wt M.length) 385 G7.out.1 (((b.drop j).take c).map byteV) ?c0 (G9.out.src (fun _ => rfl) c) ?c1 ?c2 (stC true (hTo M (M.length / 64)).list (waitTo wt r ((b.drop j).take c)) M.length) (stC_splice _ _ _ _ rfl G7.out.2.2 _ _ (by rw [HC.out]; exact hc2)) (c : Int) ?c3 ?_
      case c0 => rw [List.length_map, HC.out, HCE.out]
      case c1 => rw [List.length_map, HC.out, stC_size _ _ _ _ rfl G7.out.2.2]; omega
      case c2 => intro v hv; simp only [List.mem_map] at hv; obtain ⟨x, _, rfl⟩ := hv; rfl
      case c3 => rw [List.length_map, HC.out]
      intro w7 h7 k7 z7
      have hw7 : (waitTo wt r ((b.drop j).take c)).length = 64 := waitTo_length _ _ _ G7.out.2.2 (by rw [HC.out]; exact hc2)
      have hrd7 : Rd w7 u8E 1 (.slice (some sb) (b.length - j) cap) (b.drop j) := G9.out.keep k7 (fun k hk _ => HXG.out k hk HNE.out)
      obtain ⟨v', hsl, hv', hvb⟩ := hrd7.from (P := Tryz.prog) Tryz.underlying100 (by kernel_rfl) c (by rw [List.length_drop]; omega)
      have q := Lib.cell_of_heap h7 73
      rw [stC_n _ _ _ _ rfl hw7, ← HN.out] at q
      have K7 : Hid (Keep (· = g) w w7) := Lib.hid (G8.out.then k7 (fun x hx => .inl hx))
      have H7 := Lib.hid h7; have HW7 := Lib.hid hw7; have HV' := Lib.hid hv'; have HVB := Lib.hid hvb; have Z7 := Lib.hid z7
      have HS8 := G7
      clear h7 k7 z7 hw7 hrd7 hv' hvb G7 G8 G9
      go_wp2_with ((refine wpList_store1_g rfl _ _ _ rfl g 73 (.int .i64 ((N : Int) + (c : Int))) rfl rfl rfl rfl 385 _ H7.out (by kernel_rfl) (by rw [stC_size _ _ _ _ rfl HW7.out]; omega) _ (stC_set_n _ _ _ _ _ rfl HW7.out) ?_))
      intro w8 h8 k8 z8
      have q8 := Lib.cell_of_heap h8 73
      rw [stC_n _ _ _ _ rfl HW7.out] at q8
      have hrd8 : Rd w8 u8E 1 v' ((b.drop j).drop c) := HV'.out.keep k8 (fun k hk _ => HXG.out k (HVB.out k hk) HNE.out)
      have K8 : Hid (Keep (· = g) w w8) := Lib.hid (K7.out.then k8 (fun x hx => .inl hx))
      have H8 := Lib.hid h8; have RD8 := Lib.hid hrd8
      clear h8 k8 z8 q hrd8 H7 K7 Z7 HV'
      have hjc : L ++ b.take (j + c) = M ++ (b.drop j).take c := by rw [HME.out, List.append_assoc, ← List.take_add]
      have HJC := Lib.hid hjc; clear hjc
      by_cases hfull : r + c = 64
      · have e8 : ((N : Int) + (c : Int)) % 64 = 0 := by omega
        have HF := Lib.hid hfull; clear hfull
        go_wp2_with (first | (refine wpList_load_mid rfl _ _ rfl g 9 rfl ((waitTo wt r ((b.drop j).take c)).map byteV) _ (range_of_heap H8.out 9 _ (by rw [List.length_map, HW7.out]; exact stC_row_w _ _ _ _ rfl HW7.out)) Tryz.underlying383 rfl (by rw [List.length_map, HW7.out]; kernel_rfl) ?_))
        refine (block_any w8 g true (hTo M (M.length / 64)) _ ((N : Int) + (c : Int)) _ HW7.out ⟨H8.out, rfl, HW7.out⟩).mono ?_
        rintro e w9 ⟨rfl, hst9, hk9⟩
        have hrd9 : Rd w9 u8E 1 v' ((b.drop j).drop c) := RD8.out.keep hk9 (fun k hk _ => HXG.out k (HVB.out k hk) HNE.out)
        have K9 : Hid (Keep (· = g) w w9) := Lib.hid (K8.out.then hk9 (fun x hx => .inl hx))
        have HST9 := Lib.hid hst9; have RD9 := Lib.hid hrd9
        clear hst9 hk9 hrd9
        go_wp2_with fail
        go_roundw
        case rel =>
          refine ⟨j + c, by omega, by rw [List.drop_drop] at RD9; exact RD9.out, fun k hk => HXG.out k (HVB.out k hk), ?_, K9.out⟩
          rw [HJC.out]
          have hr2 : r = M.length % 64 := by rw [HR.out, HN.out]
          rw [hr2] at HST9
          exact stM_full HST9.out (by rw [HN.out, HC.out]) HS8.out.2.2 HWT.out (by rw [HC.out, ← hr2]; exact HF.out)
        case measure =>
          rw [RD9.out.lenOf_eq]
          simp [lenOf]
          omega
      · have e8 : ¬ ((N : Int) + (c : Int)) % 64 = 0 := by omega
        go_wp2_with fail
        go_roundw
        case rel =>
          refine ⟨j + c, by omega, by rw [List.drop_drop] at RD8; exact RD8.out, fun k hk => HXG.out k (HVB.out k hk), ?_, K8.out⟩
          rw [HJC.out]
          have hr2 : r = M.length % 64 := by rw [HR.out, HN.out]
          rw [hr2] at H8
          exact stM_part (n := (N : Int) + (c : Int)) ⟨H8.out, rfl, by rw [← hr2]; exact HW7.out⟩ (by rw [HN.out, HC.out]) HS8.out.2.2 HWT.out (by rw [HC.out, ← hr2]; omega)
        case measure =>
          rw [RD8.out.lenOf_eq]
          simp [lenOf]
          omega
    · have l0 : b.length - j = 0 := by omega
      obtain rfl : j = b.length := by omega
      go_wp2_with fail
      go_end0
      exact ⟨rfl, by have := HST.out; rwa [List.take_length] at this, HKP.out⟩
end
section
open Go.RowKit

theorem cW8_begV : cW 8 begV.list = cV begV := rfl
theorem begin_cV (w : World) : Calls Tryz.prog 350 #[] w (Ret w (.agg (cV begV))) := by
  rw [← cW8_begV]; exact begin_any w
/-- A pointer to a State that holds L, in a block of the call's own. -/
def NewSt (w : World) (L : List UInt8) (e : Ending) (w' : World) : Prop := ∃ g, e = .returned (.pointer (some ⟨g, 0, none⟩)) ∧ w.heap.size ≤ g ∧ StM w' g L ∧ Below w.heap.size w w'
theorem stM_nil {w : World} {g : Nat} (h : w.heap[g]? = some (.cells (stC true begV.list (List.replicate 64 0) 0) 385 (0, 0))) : StM w g [] := ⟨_, ⟨h, rfl, by simp⟩, rfl⟩

theorem built_st : (Array.foldl (fun cs x => cs.setIfInBounds (1 + x.snd) x.fst) (Tryz.zeroCells385.setIfInBounds 0 (Value.bool true)) (cV begV).zipIdx 0 (cV begV).size) = stC true begV.list (List.replicate 64 0) 0 := by kernel_rfl
set_option maxRecDepth 100000 in
set_option maxHeartbeats 1000000 in
theorem new_any (w : World) : Calls Tryz.prog 329 #[] w (NewSt w []) := by
  go_enter Tryz.func329, Tryz.ntmps329
  go_wp2_with fail
  refine (begin_cV _).mono ?_
  rintro e w1 ⟨rfl, hb1⟩
  go_wp2_with fail
  rw [built_st]
  go_ret
  exact ⟨_, rfl, hb1.size, stM_nil (heap_alloc_new _ _), hb1.alloc hb1.size _⟩

theorem Tryz.sizeSt (h : List UInt32) (m : Bool) (wt : List UInt8) (n : Int) (h1 : h.length = 8) (h2 : wt.length = 64) : (Tryz.prog.info? 385).map (·.size) = some (stC m h wt n).size := by
  rw [stC_size _ _ _ _ h1 h2]; kernel_rfl
theorem one_st (m : Bool) (h : List UInt32) (wt : List UInt8) (n : Int) : (stC m h wt n).all (·.oneCell') = true := by
  rw [stC, ← Array.all_toList]
  simp [w32V, byteV, Value.oneCell', List.all_append]
theorem stM_made {w : World} {g : Nat} {L : List UInt8} (h : StM w g L) : w.cell? ⟨g, 0, none⟩ = some (.bool true) := by
  obtain ⟨wt, h, _⟩ := h
  rw [Lib.cell_of_heap h.1]; exact stC_m _ _ _ _

set_option maxRecDepth 100000 in
set_option maxHeartbeats 1000000 in
theorem copy_any (w : World) (g : Nat) (L : List UInt8) (hs : StM w g L) : Calls Tryz.prog 353 #[.pointer (some ⟨g, 0, none⟩)] w (NewSt w L) := by
  have him := stM_made hs
  obtain ⟨wt, hst, hwt⟩ := hs
  have HST := Lib.hid hst; have HWT := Lib.hid hwt; clear hst hwt
  go_enter Tryz.func353, Tryz.ntmps353
  go_wp2_with fail
  refine (is_at _ _ _ him).mono ?_
  rintro e w1 ⟨rfl, rfl⟩
  go_wp2_with (first
    | (refine wpList_load_row rfl _ _ rfl g rfl _ (stC true (hTo L (L.length / 64)).list wt L.length) _ _ HST.out.1 Tryz.underlying385 rfl (Tryz.sizeSt _ _ _ _ rfl HST.out.2.2) ?_)
    | (refine wpList_store_row_g (t := 385) (old := stC false (List.replicate 8 0) (List.replicate 64 0) 0) rfl 385 (.tmp 3) (.tmp 9) rfl w.heap.size (stC true (hTo L (L.length / 64)).list wt L.length) rfl rfl ((heap_alloc_new _ _).trans (by kernel_rfl)) (Tryz.sizeSt _ _ _ _ rfl HST.out.2.2) (by rw [stC_size _ _ _ _ rfl HST.out.2.2]; kernel_rfl) (one_st _ _ _ _) ?_))
  intro w1 h1 k1 z1
  have hb1 : Below w.heap.size w w1 := ((Below.refl _ _).alloc (Nat.le_refl _) _).trans (k1.below (B := w.heap.size) (by intro k hk e; omega) (by simp))
  have H1 := Lib.hid h1; have HB1 := Lib.hid hb1
  clear h1 k1 z1 hb1
  go_wp2_with fail
  go_ret
  exact ⟨_, rfl, Nat.le_refl _, ⟨wt, ⟨H1.out, rfl, HST.out.2.2⟩, HWT.out⟩, HB1.out⟩
end
end Go.Proofs.YtmclmccgghnglaaGreat
