/- Histories: where a checkpoint stands, how many there are, what one is; writing one (code). No condition. -/
import Derived.Test.YthnjakomkdlglaaGreatCln
import Derived.Test.YthnjakomkdlglaaGreatUm
namespace Go.Proofs.YthnjakomkdlglaaGreat
open Go.RowKit

/-- The block and the amount of a checkpoint's text. -/
def ptOk (v : Txt) : Bool := decide (v.length = 40) && (numsF (v.take 8)).isSome
def ptB (v : Txt) : Int := if ptOk v then intF (rowF (v.take 8)) else 0
def ptN (v : Txt) : Nat := if ptOk v then amtF (v.drop 8) else 0
theorem ptN_lt (v : Txt) : ptN v < uMax := by
  unfold ptN
  split
  · exact amtF_lt _
  · unfold uMax; omega
theorem intF_bound {v : Txt} : 0 ≤ intF (rowF v) ∧ intF (rowF v) < 9223372036854775808 := by
  by_cases h : (rowF v).length = 1
  · obtain ⟨a, ha⟩ := one_of h
    rw [ha]
    exact rowF_bound v a (by rw [ha]; simp)
  · rw [intF_no h]; omega
theorem ptB_bound (v : Txt) : 0 ≤ ptB v ∧ ptB v < 9223372036854775808 := by
  unfold ptB
  split
  · exact intF_bound
  · omega
def ptTxt (b : Int) (n : Nat) : Txt := numL b ++ amtB n
theorem ptTxt_length (b : Int) (n : Nat) : (ptTxt b n).length = 40 := by
  unfold ptTxt; rw [List.length_append, numL_length, amtB_length]
theorem ptTxt_take (b : Int) (n : Nat) : (ptTxt b n).take 8 = numL b := by
  unfold ptTxt; rw [List.take_left' (numL_length b)]
theorem ptTxt_drop (b : Int) (n : Nat) : (ptTxt b n).drop 8 = amtB n := by
  unfold ptTxt; rw [List.drop_left' (numL_length b)]
theorem numsF_numL {b : Int} (h0 : 0 ≤ b) (h1 : b < 9223372036854775808) : numsF (numL b) = some [b] := by
  have := cnumsF_flat [b] (by intro x hx; rw [List.mem_singleton.1 hx]; exact ⟨h0, h1⟩)
  simpa using this
theorem ptOk_txt {b : Int} (n : Nat) (h0 : 0 ≤ b) (h1 : b < 9223372036854775808) : ptOk (ptTxt b n) = true := by
  unfold ptOk
  rw [ptTxt_take, numsF_numL h0 h1, ptTxt_length]; rfl
theorem ptB_txt {b : Int} (n : Nat) (h0 : 0 ≤ b) (h1 : b < 9223372036854775808) : ptB (ptTxt b n) = b := by
  unfold ptB
  rw [if_pos (ptOk_txt n h0 h1), ptTxt_take, rowF_numL h0 h1]; rfl
theorem ptN_txt {b : Int} {n : Nat} (h0 : 0 ≤ b) (h1 : b < 9223372036854775808) (hn : n < uMax) : ptN (ptTxt b n) = n := by
  unfold ptN
  rw [if_pos (ptOk_txt n h0 h1), ptTxt_drop, amtF_B hn]
/-- What a checkpoint is told as. -/
def PtRet (w : World) (v : Txt) (e : Ending) (w' : World) : Prop := ∃ a b c d : Int, UIs a b c d (ptN v) ∧ e = .returned (.agg #[.int .i64 (ptB v), .int .u64 a, .int .u64 b, .int .u64 c, .int .u64 d]) ∧ Below w.heap.size w w'
theorem ptRet_no {w w' : World} {v : Txt} (h : ptOk v = false) (hb : Below w.heap.size w w') : PtRet w v (.returned (.agg #[.int .i64 0, .int .u64 0, .int .u64 0, .int .u64 0, .int .u64 0])) w' := by
  refine ⟨0, 0, 0, 0, ?_, ?_, hb⟩
  · unfold ptN; rw [h]; exact UIs.zero
  · unfold ptB; rw [h]; rfl
theorem Tryz.zeroPt (w : World) : (zeroValue 172).run Tryz.prog w = .ok (.agg #[.int .i64 0, .int .u64 0, .int .u64 0, .int .u64 0, .int .u64 0]) w := by kernel_rfl
theorem Tryz.sizePt : (Tryz.prog.info? 172).map (·.size) = some 5 := by kernel_rfl
theorem Tryz.ptField0 (lb a b c d : Int) (w : World) : (Instr.field 172 (.agg #[.int .i64 lb, .int .u64 a, .int .u64 b, .int .u64 c, .int .u64 d]) 0).run Tryz.prog w = .ok (.int .i64 lb) w := by kernel_rfl
theorem Tryz.ptField1 (lb a b c d : Int) (w : World) : (Instr.field 172 (.agg #[.int .i64 lb, .int .u64 a, .int .u64 b, .int .u64 c, .int .u64 d]) 1).run Tryz.prog w = .ok (.agg #[.int .u64 a, .int .u64 b, .int .u64 c, .int .u64 d]) w := by kernel_rfl
theorem Tryz.zeroU (w : World) : (zeroValue 33).run Tryz.prog w = .ok (.agg u0) w := by kernel_rfl

set_option maxHeartbeats 4000000 in
set_option maxRecDepth 100000 in
theorem hat_any (t : Int) {ids : List Int} {vi : Value} {n : Int} {w : World} (hl : ids.length ≤ 1000000) (hi : I64s ids) (hrd : Rd w intE 1 vi ids) (hn : -9223372036854775808 ≤ n ∧ n < 9223372036854775808) :
    Calls Tryz.prog 178 #[.int .i64 t, vi, .int .i64 n] w (Ret w (.string (bs (keyF t (ids ++ [n]))))) := by
  obtain ⟨adi, capi, rfl, _, _⟩ := hrd.shape
  have HL := Lib.hid hl; have HI := Lib.hid hi; have HR := Lib.hid hrd; have HN := Lib.hid hn
  clear hl hi hrd hn
  go_enter Tryz.func178, Tryz.ntmps178
  go_wp2_with fail
  refine (clone_ints _ _ ids HR.out (by have := HL.out; omega)).mono ?_
  rintro e w1 ⟨vc, rfl, lc, hb, kc⟩
  have LC := Lib.hid lc; have HB1 := Lib.hid hb; have KC := Lib.hid kc
  clear lc hb kc
  go_wp2_with (at_builtin; refine lo_apps (l := ids) (l2 := [n]) (enc := intE) rfl _ _ 98 98 rfl Tryz.underlying98 Tryz.underlying98 Tryz.infoCI rfl (by decide) intE_len (intE_ones _) (LC.out.later (below_new _ _)) rfl _ rfl (lit1 _ _) (by have := HL.out; unfold maxLen; simp; omega) (by have := HL.out; simp; omega) ?_)
  intro v' w2 r1 r2 _
  have hb2 : Below w.heap.size w w2 := (HB1.out.trans ((below_new w1 (.cells #[.int .i64 n] 3)).mono HB1.out.size)).trans (r2.below (B := w.heap.size) (fun q hq e => by have := KC.out q e; omega) (Nat.le_trans HB1.out.size (below_new w1 (.cells #[.int .i64 n] 3)).size))
  have R1 := Lib.hid (r1.rd intE_len); have HB2 := Lib.hid hb2
  clear r1 r2 hb2
  go_wp2_with fail
  refine (key_any t (ids ++ [n]) _ _ (by have := HL.out; simp; omega) (I64s_snoc HI.out HN.out) R1.out).mono ?_
  rintro e w3 ⟨rfl, hb⟩
  have HB3 := Lib.hid (HB2.out.trans (hb.mono HB2.out.size))
  clear hb
  go_wp2_with fail
  go_ret
  exact ⟨rfl, HB3.out⟩

set_option maxHeartbeats 4000000 in
set_option maxRecDepth 100000 in
theorem hlen_any {w : World} {x : Option Addr} {m : Bool} {f : Txt → Option Txt} (h : Look w x m f) (hf : FitF f) (t : Int) {ids : List Int} {vi : Value} (hl : ids.length ≤ 1000000) (hi : I64s ids) (hrd : Rd w intE 1 vi ids) :
    Calls Tryz.prog 77 #[.pointer x, .int .i64 t, vi] w (Ret w (.int .i64 (getI f (keyF t ids)))) := by
  obtain ⟨adi, capi, rfl, _, _⟩ := hrd.shape
  have H := Lib.hid h; have HF := Lib.hid hf; have HI := Lib.hid hi; have HR := Lib.hid hrd; have HL := Lib.hid hl
  clear h hf hl hi hrd
  go_enter Tryz.func77, Tryz.ntmps77
  go_wp2_with fail
  refine (key_any t ids _ _ (by have := HL.out; omega) HI.out HR.out).mono ?_
  rintro e w1 ⟨rfl, hb⟩
  have HB1 := Lib.hid hb
  clear hb
  go_wp2_with fail
  refine (int_any (H.out.later HB1.out) HF.out (keyF t ids)).mono ?_
  rintro e w2 ⟨rfl, hb⟩
  have HB2 := Lib.hid (HB1.out.trans (hb.mono HB1.out.size))
  clear hb
  go_wp2_with fail
  go_ret
  exact ⟨rfl, HB2.out⟩

set_option maxHeartbeats 8000000 in
set_option maxRecDepth 100000 in
theorem hread_any {w : World} {x : Option Addr} {m : Bool} {f : Txt → Option Txt} (h : Look w x m f) (hf : FitF f) (t : Int) {ids : List Int} {vi : Value} {n : Int} (hl : ids.length ≤ 1000000) (hi : I64s ids) (hrd : Rd w intE 1 vi ids) (hn : -9223372036854775808 ≤ n ∧ n < 9223372036854775808) :
    Calls Tryz.prog 134 #[.pointer x, .int .i64 t, vi, .int .i64 n] w (PtRet w (valF f (keyF t (ids ++ [n])))) := by
  obtain ⟨adi, capi, rfl, _, _⟩ := hrd.shape
  have H := Lib.hid h; have HI := Lib.hid hi; have HR := Lib.hid hrd; have HL := Lib.hid hl; have HN := Lib.hid hn
  have hfv := hf (keyF t (ids ++ [n]))
  obtain ⟨k, hk⟩ : ∃ k, k = keyF t (ids ++ [n]) := ⟨_, rfl⟩
  rw [← hk] at hfv ⊢
  have HK := Lib.hid hk
  obtain ⟨v, hv⟩ : ∃ v, v = valF f k := ⟨_, rfl⟩
  rw [← hv] at hfv ⊢
  have HV := Lib.hid hv; have HFV := Lib.hid hfv
  clear h hf hl hi hrd hn hk hv hfv
  go_enter Tryz.func134, Tryz.ntmps134
  go_wp2_with (refine wpList_alloc_g rfl _ rfl _ _ Tryz.zeroPt rfl ?_)
  intro R w1 h1
  have HR1 := Lib.hid h1.out.cells; have HB1 := Lib.hid h1.out.below; have HRW : Hid (w.heap.size ≤ R) := Lib.hid (Nat.le_of_eq h1.out.eq.symm)
  clear h1
  go_wp2_with fail
  refine (hat_any t (n := n) HL.out HI.out (HR.out.later HB1.out) HN.out).mono ?_
  rintro e w2 ⟨rfl, hb⟩
  rw [← HK.out]
  have HR2 := Lib.hid (below_at' hb HR1.out); have HB2 := Lib.hid (HB1.out.trans (hb.mono HB1.out.size))
  clear hb HR1 HB1
  go_wp2_with fail
  refine (lget_any (H.out.later HB2.out) k).mono ?_
  rintro e w3 ⟨rfl, rfl⟩
  rw [show (f k).getD [] = v from HV.out.symm]
  by_cases h8 : v.length < 8
  · have hno : ptOk v = false := by unfold ptOk; rw [decide_eq_false (by omega)]; rfl
    have HNO := Lib.hid hno
    have h8' : (bs v).size < 8 := by rw [bs_size]; exact h8
    clear hno h8
    go_wp2_with (refine wpList_store_row_g (t := 172) (old := #[.int .i64 0, .int .u64 0, .int .u64 0, .int .u64 0, .int .u64 0]) rfl 172 _ _ rfl R #[.int .i64 0, .int .u64 0, .int .u64 0, .int .u64 0, .int .u64 0] rfl rfl HR2.out Tryz.sizePt rfl (by simp [Value.oneCell']) ?_)
    intro w4 hx4 k4 _
    have HX4 := Lib.hid hx4; have HB4 := Lib.hid (HB2.out.trans (k4.below (B := w.heap.size) (fun y hy e => by have := HRW.out; omega) HB2.out.size))
    clear hx4 k4
    go_wp2_with fail
    exact bodyPost_ret (results_cell_row rfl _ _ _ _ _ _ _ rfl HX4.out Tryz.underlying172 rfl Tryz.sizePt) rfl (ptRet_no HNO.out HB4.out)
  have h8' : ¬ (bs v).size < 8 := by rw [bs_size]; exact h8
  have h8a : 8 ≤ (bs v).size := by omega
  have e1 : (bs v).extract 0 8 = bs (v.take 8) := by rw [bs_extract]; simp
  have e2 : (bs v).extract 8 (bs v).size = bs (v.drop 8) := by
    rw [bs_extract, bs_size, List.take_of_length_le (by rw [List.length_drop]; omega)]
  have H8 : Hid (8 ≤ v.length) := Lib.hid (by omega)
  clear h8
  go_wp2_with fail
  refine (nums_any (bs (v.take 8)) _ (by rw [bs_size, List.length_take]; omega)).mono ?_
  rintro e w4 ⟨hb, hs⟩
  rw [bs_toList] at hs
  have HR4 := Lib.hid (below_at' hb HR2.out); have HB4 := Lib.hid (HB2.out.trans (hb.mono HB2.out.size))
  clear hb HR2 HB2
  have HAM := fun w' : World => toAmt_any (v.drop 8) w' (by have := HFV.out; rw [List.length_drop]; omega)
  cases hq : numsF (v.take 8) with
  | none =>
    rw [hq] at hs
    subst hs
    have hno : ptOk v = false := by unfold ptOk; rw [hq]; simp
    have HNO := Lib.hid hno
    clear hno hq
    go_wp2_with fail
    refine (HAM _).mono ?_
    rintro e w5 ⟨a, b, c, d, hu, rfl, hb⟩
    have HR5 := Lib.hid (below_at' hb HR4.out); have HB5 := Lib.hid (HB4.out.trans (hb.mono HB4.out.size))
    clear hb HR4 HB4 HAM
    go_wp2_with (refine wpList_alloc_g rfl _ rfl _ _ Tryz.zeroU rfl ?_)
    intro X w6 h6
    have HX6 := Lib.hid h6.out.cells; have HR6 := Lib.hid (below_at' h6.out.below HR5.out); have HB6 := Lib.hid (HB5.out.trans (h6.out.below.mono HB5.out.size)); have HXR : Hid (X ≠ R ∧ w.heap.size ≤ X) := Lib.hid ⟨by have := heap_lt HR5.out; have := h6.out.eq; omega, by rw [h6.out.eq]; exact HB5.out.size⟩
    clear h6 HR5 HB5
    go_wp2_with (refine wpList_store_row_g (t := 33) (old := u0) rfl 33 _ _ rfl X #[.int .u64 a, .int .u64 b, .int .u64 c, .int .u64 d] rfl rfl HX6.out Tryz.sizeU rfl (one_u64 _ _ _ _) ?_)
    intro w7 hx7 k7 _
    have HR7 := Lib.hid (k7.at HR6.out (fun e => HXR.out.1 e.symm)); have HB7 := Lib.hid (HB6.out.trans (k7.below (B := w.heap.size) (fun y hy e => by have := HXR.out; omega) HB6.out.size))
    clear hx7 k7 HX6 HR6 HB6
    go_wp2_with (refine wpList_store_row_g (t := 172) (old := #[.int .i64 0, .int .u64 0, .int .u64 0, .int .u64 0, .int .u64 0]) rfl 172 _ _ rfl R #[.int .i64 0, .int .u64 0, .int .u64 0, .int .u64 0, .int .u64 0] rfl rfl HR7.out Tryz.sizePt rfl (by simp [Value.oneCell']) ?_)
    intro w8 hx8 k8 _
    have HX8 := Lib.hid hx8; have HB8 := Lib.hid (HB7.out.trans (k8.below (B := w.heap.size) (fun y hy e => by have := HRW.out; omega) HB7.out.size))
    clear hx8 k8
    go_wp2_with fail
    exact bodyPost_ret (results_cell_row rfl _ _ _ _ _ _ _ rfl HX8.out Tryz.underlying172 rfl Tryz.sizePt) rfl (ptRet_no HNO.out HB8.out)
  | some xs =>
    rw [hq] at hs
    obtain ⟨vn, rfl, hown⟩ := hs
    have hrow : rowF (v.take 8) = xs := by unfold rowF; rw [hq]; rfl
    have hxl : xs.length = 1 := by
      have hh := hq
      unfold numsF at hh
      have h8l : (v.take 8).length = 8 := by rw [List.length_take]; have := H8.out; omega
      rw [h8l] at hh
      exact numsTo_len hh
    obtain ⟨n0, rfl⟩ := one_of hxl
    have HO := Lib.hid (RowRet.rd hown)
    obtain ⟨adn, capn, rfl, _, _⟩ := HO.out.shape
    have HB0 : Hid (ptOk v = decide (v.length = 40)) := Lib.hid (by unfold ptOk; rw [hq]; simp)
    have HRO := Lib.hid hrow
    clear hq hrow hxl hown
    go_wp2_with fail
    refine (HAM _).mono ?_
    rintro e w5 ⟨a, b, c, d, hu, rfl, hb⟩
    obtain ⟨ok2, hok2⟩ : ∃ q, q = decide ((v.drop 8).length = 32) := ⟨_, rfl⟩
    rw [← hok2]
    have HOK2 := Lib.hid hok2
    clear hok2
    have HU := Lib.hid hu
    have HR5 := Lib.hid (below_at' hb HR4.out); have HB5 := Lib.hid (HB4.out.trans (hb.mono HB4.out.size)); have HO5 := Lib.hid (HO.out.later hb)
    clear hu hb HR4 HB4 HAM HO
    go_wp2_with (refine wpList_alloc_g rfl _ rfl _ _ Tryz.zeroU rfl ?_)
    intro X w6 h6
    have HX6 := Lib.hid h6.out.cells; have HR6 := Lib.hid (below_at' h6.out.below HR5.out); have HB6 := Lib.hid (HB5.out.trans (h6.out.below.mono HB5.out.size)); have HXR : Hid (X ≠ R ∧ w.heap.size ≤ X) := Lib.hid ⟨by have := heap_lt HR5.out; have := h6.out.eq; omega, by rw [h6.out.eq]; exact HB5.out.size⟩
    have HO6 := Lib.hid (HO5.out.later h6.out.below)
    have HXN : Hid (∀ q off, adn = some ⟨q, off, none⟩ → q ≠ X) := Lib.hid fun q off e => by
      obtain ⟨q', off', e', hlt, _⟩ := HO5.out.at 0 (by simp)
      rw [e] at e'; cases e'
      have := h6.out.eq; omega
    clear h6 HR5 HB5 HO5
    go_wp2_with (refine wpList_store_row_g (t := 33) (old := u0) rfl 33 _ _ rfl X #[.int .u64 a, .int .u64 b, .int .u64 c, .int .u64 d] rfl rfl HX6.out Tryz.sizeU rfl (one_u64 _ _ _ _) ?_)
    intro w7 hx7 k7 _
    have HX7 := Lib.hid hx7; have HR7 := Lib.hid (k7.at HR6.out (fun e => HXR.out.1 e.symm)); have HB7 := Lib.hid (HB6.out.trans (k7.below (B := w.heap.size) (fun y hy e => by have := HXR.out; omega) HB6.out.size))
    obtain ⟨qn, on, rfl, _, hc⟩ := HO6.out.at 0 (by simp)
    have HC7 : Hid (w7.cell? ⟨qn, on, none⟩ = some (.int .i64 n0)) := Lib.hid (keep_cell k7 (show w6.cell? ⟨qn, on, none⟩ = some (.int .i64 n0) from hc) (HXN.out qn on rfl))
    clear hx7 k7 HX6 HR6 HB6 hc HO6
    have hdl : (v.drop 8).length = v.length - 8 := List.length_drop ..
    by_cases h40 : v.length = 40
    · have hd : ok2 = true := by rw [HOK2.out]; exact decide_eq_true (by omega)
      have HOK : Hid (ptOk v = true) := Lib.hid (by rw [HB0.out, decide_eq_true h40])
      subst hd
      clear hdl h40 HOK2
      have hS : w7.drew.cell? ⟨qn, on, none⟩ = some (.int .i64 n0) ∧ w7.drew.heap[X]? = some (.cells #[.int .u64 a, .int .u64 b, .int .u64 c, .int .u64 d] 33 (0, 0)) := ⟨HC7.out, HX7.out⟩
      have HBD := Lib.hid (HB7.out.drew); have HRD : Hid (w7.drew.heap[R]? = some (.cells #[.int .i64 0, .int .u64 0, .int .u64 0, .int .u64 0, .int .u64 0] 172 (0, 0))) := Lib.hid HR7.out
      go_wp2_with fail
      refine wp_region_till (fun w' => w'.cell? ⟨qn, on, none⟩ = some (.int .i64 n0) ∧ w'.heap[X]? = some (.cells #[.int .u64 a, .int .u64 b, .int .u64 c, .int .u64 d] 33 (0, 0))) 5 6 (by kernel_rfl) rfl ?_
      refine till_take 0 (some 47) rfl rfl (by kernel_rfl) (by kernel_rfl) (by kernel_rfl) (by kernel_rfl) (by kernel_rfl) (by kernel_rfl) (fun _ _ _ h => h) (.inl ⟨by rfl, fun w' _ => (by go_simp; rfl)⟩) hS ?_
      go_frame
      refine till_take 1 (some 48) rfl rfl (by kernel_rfl) (by kernel_rfl) (by kernel_rfl) (by kernel_rfl) (by kernel_rfl) (by kernel_rfl) (fun _ _ _ h => h) (.inl ⟨by rfl, fun w' _ => (by go_simp; rfl)⟩) hS ?_
      go_frame
      refine till_take 2 (some 49) rfl rfl (by kernel_rfl) (by kernel_rfl) (by kernel_rfl) (by kernel_rfl) (by kernel_rfl) (by kernel_rfl) (fun _ _ _ h => h) (.inl ⟨by rfl, fun w' hS' => (by obtain ⟨hc1, hc2⟩ := hS'; go_simp; rfl)⟩) hS ?_
      go_frame
      refine till_take 3 (some 50) rfl rfl (by kernel_rfl) (by kernel_rfl) (by kernel_rfl) (by kernel_rfl) (by kernel_rfl) (by kernel_rfl) (fun _ _ _ h => h) (yields_load (by rfl) 33 _ rfl (.pointer (some ⟨X, 0, none⟩)) rfl (.agg #[.int .u64 a, .int .u64 b, .int .u64 c, .int .u64 d]) (fun w' hS' => load_heap hS'.2 Tryz.underlying33 rfl Tryz.sizeU)) hS ?_
      go_frame
      refine till_take 4 (some 51) rfl rfl (by kernel_rfl) (by kernel_rfl) (by kernel_rfl) (by kernel_rfl) (by kernel_rfl) (by kernel_rfl) (fun _ _ _ h => h) (.inl ⟨by rfl, fun w' _ => (by go_simp; rfl)⟩) hS ?_
      go_frame
      refine till_one 5 rfl (by kernel_rfl) fun K hK => ?_
      simp only [List.getElem_toArray, List.getElem_cons_succ, List.getElem_cons_zero]
      rw [if_pos (by rfl)]
      refine wp_store_row_g (t := 172) (old := #[.int .i64 0, .int .u64 0, .int .u64 0, .int .u64 0, .int .u64 0]) 172 _ _ rfl R #[.int .i64 n0, .int .u64 a, .int .u64 b, .int .u64 c, .int .u64 d] rfl rfl HRD.out Tryz.sizePt rfl (by simp [Value.oneCell']) ?_
      intro w8 hx8 k8 _
      have HX8 := Lib.hid hx8; have HB8 := Lib.hid (HBD.out.trans (k8.below (B := w.heap.size) (fun y hy e => by have := HRW.out; omega) HBD.out.size))
      refine hK _ _ (fun hc => absurd rfl hc) ?_
      clear hK hS hx8 k8
      refine till_done (by kernel_rfl) ?_ _
      go_wp2_with fail
      exact bodyPost_ret (results_cell_row rfl _ _ _ _ _ _ _ rfl HX8.out Tryz.underlying172 rfl Tryz.sizePt) rfl ⟨a, b, c, d, (by unfold ptN; rw [if_pos HOK.out]; exact HU.out), (by unfold ptB; rw [if_pos HOK.out, HRO.out]; rfl), HB8.out⟩
    · have hd : ok2 = false := by rw [HOK2.out]; exact decide_eq_false (by have := H8.out; omega)
      have HNO : Hid (ptOk v = false) := Lib.hid (by rw [HB0.out, decide_eq_false h40])
      subst hd
      clear hdl h40 HOK2
      go_wp2_with (refine wpList_store_row_g (t := 172) (old := #[.int .i64 0, .int .u64 0, .int .u64 0, .int .u64 0, .int .u64 0]) rfl 172 _ _ rfl R #[.int .i64 0, .int .u64 0, .int .u64 0, .int .u64 0, .int .u64 0] rfl rfl HR7.out Tryz.sizePt rfl (by simp [Value.oneCell']) ?_)
      intro w8 hx8 k8 _
      have HX8 := Lib.hid hx8; have HB8 := Lib.hid (HB7.out.trans (k8.below (B := w.heap.size) (fun y hy e => by have := HRW.out; omega) HB7.out.size))
      clear hx8 k8
      go_wp2_with fail
      exact bodyPost_ret (results_cell_row rfl _ _ _ _ _ _ _ rfl HX8.out Tryz.underlying172 rfl Tryz.sizePt) rfl (ptRet_no HNO.out HB8.out)

set_option maxHeartbeats 8000000 in
set_option maxRecDepth 100000 in
theorem hwrite_any {w : World} {g : Nat} {s : PS} {F : List Nat} (h : St w g s F) (hz : s.sz < 1099511627776) (t : Int) {ids : List Int} {vi : Value} {n : Int} (hl : ids.length ≤ 1000000) (hi : I64s ids) (hrd : Rd w intE 1 vi ids) (hn : -9223372036854775808 ≤ n ∧ n < 9223372036854775808)
    {bk : Int} (hbk : 0 ≤ bk ∧ bk < 9223372036854775808) {a b c d : Int} {m : Nat} (hu : UIs a b c d m) :
    Calls Tryz.prog 133 #[.pointer (some ⟨g, 0, none⟩), .int .i64 t, vi, .int .i64 n, .agg #[.int .i64 bk, .int .u64 a, .int .u64 b, .int .u64 c, .int .u64 d]] w (StRet w g F (s.set (keyF t (ids ++ [n])) (ptTxt bk m)) (.tuple #[])) := by
  obtain ⟨adi, capi, rfl, _, _⟩ := hrd.shape
  have H := Lib.hid h; have HZ := Lib.hid hz; have HI := Lib.hid hi; have HR := Lib.hid hrd; have HL := Lib.hid hl; have HN := Lib.hid hn; have HBK := Lib.hid hbk; have HU := Lib.hid hu
  clear h hz hl hi hrd hn hbk hu
  go_enter Tryz.func133, Tryz.ntmps133
  go_wp2_with fail
  obtain ⟨wB, hwB⟩ : ∃ wB, wB = w.alloc (.cells #[.int .i64 bk, .int .u64 a, .int .u64 b, .int .u64 c, .int .u64 d] 172) := ⟨_, rfl⟩
  obtain ⟨X, hX⟩ : ∃ X, X = w.heap.size := ⟨_, rfl⟩
  rw [← hwB, ← hX]
  have hS : wB.drew.heap[X]? = some (.cells #[.int .i64 bk, .int .u64 a, .int .u64 b, .int .u64 c, .int .u64 d] 172 (0, 0)) := by rw [hwB, hX]; exact heap_alloc_new _ _
  have HBD : Hid (Below w.heap.size w wB.drew) := Lib.hid (by rw [hwB]; exact (below_new _ _).drew)
  clear hwB hX
  refine wp_region_till (fun w' => w'.heap[X]? = some (.cells #[.int .i64 bk, .int .u64 a, .int .u64 b, .int .u64 c, .int .u64 d] 172 (0, 0))) 12 13 (by kernel_rfl) rfl ?_
  refine till_take 0 (some 10) rfl rfl (by kernel_rfl) (by kernel_rfl) (by kernel_rfl) (by kernel_rfl) (by kernel_rfl) (by kernel_rfl) (fun _ _ _ h => h) (.inl ⟨by rfl, fun w' _ => (by go_simp; rfl)⟩) hS ?_
  go_frame
  refine till_take 1 (some 11) rfl rfl (by kernel_rfl) (by kernel_rfl) (by kernel_rfl) (by kernel_rfl) (by kernel_rfl) (by kernel_rfl) (fun _ _ _ h => h) (.inl ⟨by rfl, fun w' _ => (by go_simp; rfl)⟩) hS ?_
  go_frame
  refine till_take 2 (some 12) rfl rfl (by kernel_rfl) (by kernel_rfl) (by kernel_rfl) (by kernel_rfl) (by kernel_rfl) (by kernel_rfl) (fun _ _ _ h => h) (.inl ⟨by rfl, fun w' _ => (by go_simp; rfl)⟩) hS ?_
  go_frame
  refine till_take 3 (some 13) rfl rfl (by kernel_rfl) (by kernel_rfl) (by kernel_rfl) (by kernel_rfl) (by kernel_rfl) (by kernel_rfl) (fun _ _ _ h => h) (.inl ⟨by rfl, fun w' _ => (by go_simp; rfl)⟩) hS ?_
  go_frame
  refine till_take 5 (some 15) rfl rfl (by kernel_rfl) (by kernel_rfl) (by kernel_rfl) (by kernel_rfl) (by kernel_rfl) (by kernel_rfl) (fun _ _ _ h => h) (.inl ⟨by rfl, fun w' _ => (by go_simp; rfl)⟩) hS ?_
  go_frame
  refine till_take 6 (some 16) rfl rfl (by kernel_rfl) (by kernel_rfl) (by kernel_rfl) (by kernel_rfl) (by kernel_rfl) (by kernel_rfl) (fun _ _ _ h => h) (.inl ⟨by rfl, fun w' hS' => (by have hc1 : w'.cell? ⟨X, 0, none⟩ = some (.int .i64 bk) := Lib.cell_of_heap hS' 0; go_simp; rfl)⟩) hS ?_
  go_frame
  refine till_take 8 (some 18) rfl rfl (by kernel_rfl) (by kernel_rfl) (by kernel_rfl) (by kernel_rfl) (by kernel_rfl) (by kernel_rfl) (fun _ _ _ h => h) (.inl ⟨by rfl, fun w' _ => (by go_simp; rfl)⟩) hS ?_
  go_frame
  refine till_take 9 (some 19) rfl rfl (by kernel_rfl) (by kernel_rfl) (by kernel_rfl) (by kernel_rfl) (by kernel_rfl) (by kernel_rfl) (fun _ _ _ h => h) (yieldsIf_load_mid (by rfl) 33 _ rfl X 1 rfl [.int .u64 a, .int .u64 b, .int .u64 c, .int .u64 d] _ (fun w' hS' => range_of_heap hS' 1 _ rfl) Tryz.underlying33 rfl Tryz.sizeU) hS ?_
  go_frame
  refine till_one 4 rfl (by kernel_rfl) fun K hK => ?_
  simp only [List.getElem_toArray, List.getElem_cons_succ, List.getElem_cons_zero]
  rw [if_pos (by rfl)]
  go_simp
  refine (hat_any t (n := n) HL.out HI.out (HR.out.later HBD.out) HN.out).mono ?_
  rintro e wa ⟨rfl, hb⟩
  have hS2 := below_at' hb hS
  have HBD2 := Lib.hid (HBD.out.trans (hb.mono HBD.out.size))
  refine hK _ _ (fun _ _ => hS2) ?_
  clear hK hS hb HBD
  have hS := hS2
  clear hS2
  have HBD := HBD2
  clear HBD2
  refine till_one 7 rfl (by kernel_rfl) fun K hK => ?_
  simp only [List.getElem_toArray, List.getElem_cons_succ, List.getElem_cons_zero]
  rw [if_pos (by rfl)]
  go_simp
  refine (num_any bk _ (by have := HBK.out; omega) HBK.out.2).mono ?_
  rintro e wb ⟨rfl, hb⟩
  rw [show max bk 0 = bk from by have := HBK.out; omega]
  have hS2 := below_at' hb hS
  have HBD2 := Lib.hid (HBD.out.trans (hb.mono HBD.out.size))
  refine hK _ _ (fun _ _ => hS2) ?_
  clear hK hS hb HBD
  have hS := hS2
  clear hS2
  have HBD := HBD2
  clear HBD2
  refine till_one 10 rfl (by kernel_rfl) fun K hK => ?_
  simp only [List.getElem_toArray, List.getElem_cons_succ, List.getElem_cons_zero]
  rw [if_pos (by rfl)]
  go_simp
  refine (amt_any HU.out _).mono ?_
  rintro e wc ⟨rfl, hb⟩
  have hS2 := below_at' hb hS
  have HBD2 := Lib.hid (HBD.out.trans (hb.mono HBD.out.size))
  refine hK _ _ (fun _ _ => hS2) ?_
  clear hK hS hb HBD
  have hS := hS2
  clear hS2
  have HBD := HBD2
  clear HBD2
  refine till_take 11 (some 21) rfl rfl (by kernel_rfl) (by kernel_rfl) (by kernel_rfl) (by kernel_rfl) (by kernel_rfl) (by kernel_rfl) (fun _ _ _ h => h) (.inl ⟨by rfl, fun w' _ => (by go_simp; rfl)⟩) hS ?_
  go_frame
  refine till_one 12 rfl (by kernel_rfl) fun K hK => ?_
  simp only [List.getElem_toArray, List.getElem_cons_succ, List.getElem_cons_zero]
  rw [if_pos (by rfl)]
  go_simp
  rw [bs_append, show numL bk ++ amtB m = ptTxt bk m from rfl]
  refine (Liv.call (Liv.later (Liv.start H.out) HBD.out) fun F h => sset_any h (by have := HZ.out; unfold PS.sz at this; omega) (by have := HZ.out; unfold PS.sz at this; omega) (keyF t (ids ++ [n])) (ptTxt bk m)).mono ?_
  rintro e wS ⟨rfl, LS, _⟩
  have LS := Lib.hid LS
  refine hK _ _ (fun hc => absurd rfl hc) ?_
  clear hK hS HBD
  refine till_done (by kernel_rfl) ?_ _
  go_wp2_with fail
  go_end0
  exact LS.out.ret
end Go.Proofs.YthnjakomkdlglaaGreat
