/- Roots: Disable and Post, of the code and the document's. -/
import Derived.Test.YtohedljdkfmkdaaRootB
namespace Go.Proofs.Ytohedljdkfmkdaa
open Go.RowKit


theorem lit2 (w : World) (a b : Int) : Rd (w.alloc (.cells #[.int .i64 a, .int .i64 b] 3)) intE 1 (.slice (some ⟨w.heap.size, 0, none⟩) 2 2) [a, b] :=
  RowRet.rd (w := w) (own_lit (l := [a, b]) (heap_alloc_new _ _) (Nat.le_refl _) (by unfold maxLen; simp))
theorem I64s.two {a b : Int} (h1 : -9223372036854775808 ≤ a ∧ a < 9223372036854775808) (h2 : -9223372036854775808 ≤ b ∧ b < 9223372036854775808) : I64s [a, b] := by
  intro x hx
  simp only [List.mem_cons, List.not_mem_nil, or_false] at hx
  rcases hx with rfl | rfl
  · exact h1
  · exact h2
theorem dis_e8 {f : Txt → Option Txt} {i b : Int} (h : (rootF f i).ok = false) : disE f i b = 8 := by unfold disE; rw [if_pos h]
theorem dis_e9 {f : Txt → Option Txt} {i b : Int} (h : (rootF f i).ok = true) (h2 : (rootF f i).st ≠ 1) : disE f i b = 9 := by unfold disE; rw [if_neg (by rw [h]; decide), if_pos h2]
theorem dis_e10 {f : Txt → Option Txt} {i b : Int} (h : (rootF f i).ok = true) (h2 : (rootF f i).st = 1) (h3 : (rootF f i).at_ ≤ b) : disE f i b = 10 := by unfold disE; rw [if_neg (by rw [h]; decide), if_neg (by rw [h2]; decide), if_pos h3]
theorem dis_e0 {f : Txt → Option Txt} {i b : Int} (h : (rootF f i).ok = true) (h2 : (rootF f i).st = 1) (h3 : b < (rootF f i).at_) : disE f i b = 0 := by unfold disE; rw [if_neg (by rw [h]; decide), if_neg (by rw [h2]; decide), if_neg (by omega)]
theorem dis_s {s : PS} {i b : Int} (h : ¬ disE (getP s.t) i b = 0) : disS s i b = s := by unfold disS; rw [if_neg h]
theorem dis_s0 {s : PS} {i b : Int} (h : disE (getP s.t) i b = 0) : disS s i b = s.setRow (keyF 37 [i]) [2, (rootF (getP s.t) i).at_] := by unfold disS; rw [if_pos h]
theorem rootF_none (i : Int) : rootF (fun _ => none) i = RV.none := by
  unfold rootF
  rw [show valF (fun _ => none) (keyF 37 [i]) = [] from rfl, show valF (fun _ => none) (keyF 38 [i]) = [] from rfl, rowF_nil]; rfl

set_option maxHeartbeats 4000000 in
set_option maxRecDepth 100000 in
theorem dis32_any {w : World} {g : Nat} {s : PS} {F : List Nat} (h : St w g s F) (hz : s.sz < 1099511627776) (hf : Fit s) {i : Int} (b : Int) (hi : -9223372036854775808 ≤ i ∧ i < 9223372036854775808) :
    Calls Try.prog 49 #[.pointer (some ⟨g, 0, none⟩), .int .i64 i, .int .i64 b] w (StRet w g F (disS s i b) (.int .i64 (disE (getP s.t) i b))) := by
  have L := Lib.hid (Liv.start h); have HZ := Lib.hid hz; have HI := Lib.hid hi
  have hof := of_any (Look.of_st h) hf.f hi
  have hlen := rootF_h (getP s.t) i
  have hbd := rootF_bound (getP s.t) i
  clear h hz hf hi
  go_enter Try.func49, Try.ntmps49
  go_wp2_with fail
  refine hof.mono ?_
  rintro e w2 ⟨rfl, hb2⟩
  obtain ⟨h, st, a, ok, hr⟩ : ∃ h st a ok, rootF (getP s.t) i = ⟨h, st, a, ok⟩ := ⟨_, _, _, _, rfl⟩
  have HRT := Lib.hid hr
  rw [hr] at hlen hbd ⊢
  have HH : Hid (h.length = 32) := Lib.hid hlen
  have HBD : Hid (0 ≤ a ∧ a < 9223372036854775808) := Lib.hid ⟨hbd.2.2.1, hbd.2.2.2⟩
  have L2 := Lib.hid (L.out.later hb2)
  clear hlen hr hof hbd hb2
  go_wp2_with (refine wpList_alloc_g rfl _ rfl _ _ Try.zeroRoot rfl ?_)
  intro X w3 h3
  have HX3 := Lib.hid h3.out.cells; have L3 := Lib.hid (L2.out.later h3.out.below); have HXW : Hid (w.heap.size ≤ X) := Lib.hid (by rw [h3.out.eq]; exact L2.out.keep.size)
  clear h3 L2
  go_wp2_with (refine wpList_store_row_g (t := 155) (old := rvC RV.none) rfl 155 _ _ rfl X (rvC ⟨h, st, a, ok⟩) rfl rfl HX3.out (Try.sizeRoot (r := ⟨h, st, a, ok⟩) HH.out) (by rw [rvC_size (r := ⟨h, st, a, ok⟩) HH.out, rvC_size (r := RV.none) z32_len]) (rvC_one _) ?_)
  intro w4 hx4 k34 z34
  have HX4 := Lib.hid hx4; have L4 := Lib.hid (L3.out.turn HX3.out rfl HXW.out k34)
  clear hx4 k34 z34 HX3 L3
  have q1 : w4.cell? ⟨X, 32, none⟩ = some (.int .i64 st) := (Lib.cell_of_heap HX4.out 32).trans (rvC_st HH.out)
  have q2 : w4.cell? ⟨X, 33, none⟩ = some (.int .i64 a) := (Lib.cell_of_heap HX4.out 33).trans (rvC_at HH.out)
  cases ok with
  | false =>
    have HE := Lib.hid (dis_e8 (b := b) (by rw [HRT.out]))
    go_wp2_with fail
    go_ret
    rw [HE.out, dis_s (by rw [HE.out]; decide)]
    exact L4.out.ret
  | true =>
  by_cases h1 : st = 1
  · have hne : (st != 1) = false := by rw [h1]; rfl
    by_cases h2 : a ≤ b
    · have HE := Lib.hid (dis_e10 (f := getP s.t) (i := i) (b := b) (by rw [HRT.out]) (by rw [HRT.out]; exact h1) (by rw [HRT.out]; exact h2))
      clear h1
      go_wp2_with fail
      go_ret
      rw [HE.out, dis_s (by rw [HE.out]; decide)]
      exact L4.out.ret
    · have HE := Lib.hid (dis_e0 (f := getP s.t) (i := i) (b := b) (by rw [HRT.out]) (by rw [HRT.out]; exact h1) (by rw [HRT.out]; show b < a; omega))
      have HS0 := Lib.hid (dis_s0 (s := s) HE.out)
      rw [HRT.out] at HS0
      clear h1
      obtain ⟨wz, hwz⟩ : ∃ wz, wz = w4.drew := ⟨_, rfl⟩
      have hb4 : Below w4.heap.size w4 wz := by rw [hwz]; exact Below.drew (Below.refl _ _)
      have LV0 := Lib.hid (L4.out.later hb4); have HX0 := Lib.hid (below_at' hb4 HX4.out)
      have hS : wz.cell? ⟨X, 33, none⟩ = some (.int .i64 a) := (Lib.cell_of_heap HX0.out 33).trans (rvC_at HH.out)
      clear hb4 HX4 L4
      go_wp2_with fail
      clear h2 hne q1 q2
      refine wp_region_till (fun w' => w'.cell? ⟨X, 33, none⟩ = some (.int .i64 a)) 7 8 (by kernel_rfl) rfl ?_
      rw [← hwz]
      clear hwz
      refine till_take 0 (some 27) rfl rfl (by kernel_rfl) (by kernel_rfl) (by kernel_rfl) (by kernel_rfl) (by kernel_rfl) (by kernel_rfl) (fun _ _ _ h => h) (.inl ⟨by rfl, fun w' _ => (by go_simp; rfl)⟩) hS ?_
      go_frame
      refine till_take 1 (some 28) rfl rfl (by kernel_rfl) (by kernel_rfl) (by kernel_rfl) (by kernel_rfl) (by kernel_rfl) (by kernel_rfl) (fun _ _ _ h => h) (.inl ⟨by rfl, fun w' _ => (by go_simp; rfl)⟩) hS ?_
      go_frame
      refine till_take 4 (some 31) rfl rfl (by kernel_rfl) (by kernel_rfl) (by kernel_rfl) (by kernel_rfl) (by kernel_rfl) (by kernel_rfl) (fun _ _ _ h => h) (.inl ⟨by rfl, fun w' _ => (by go_simp; rfl)⟩) hS ?_
      go_frame
      refine till_take 5 (some 32) rfl rfl (by kernel_rfl) (by kernel_rfl) (by kernel_rfl) (by kernel_rfl) (by kernel_rfl) (by kernel_rfl) (fun _ _ _ h => h) (.inl ⟨by rfl, fun w' hS' => (by have hc1 := hS'; go_simp; rfl)⟩) hS ?_
      go_frame
      refine till_two 2 6 rfl rfl (by kernel_rfl) (fun K hK => ?_) (fun K hK => ?_)
      · simp only [List.getElem_toArray, List.getElem_cons_succ, List.getElem_cons_zero]
        rw [if_pos (by rfl)]
        go_simp
        obtain ⟨wt1, hwn⟩ : ∃ wn, wn = World.alloc wz (.cells #[.int .i64 i] 3) := ⟨_, rfl⟩
        obtain ⟨A, hA⟩ : ∃ A, A = (World.heap wz).size := ⟨_, rfl⟩
        rw [← hwn, ← hA]
        have hb : Below (World.heap wz).size wz wt1 := by rw [hwn]; exact below_new _ _
        have hra : Rd wt1 intE 1 (.slice (some ⟨A, 0, none⟩) 1 1) [i] := by rw [hwn, hA]; exact lit1 _ _
        have LV1 := Lib.hid (LV0.out.later hb)
        have HX1 := Lib.hid (below_at' hb HX0.out)
        have RA1 := Lib.hid hra
        clear hra hwn hA
        have hS1 := (Lib.cell_of_heap HX1.out 33).trans (rvC_at (r := ⟨h, st, a, true⟩) HH.out)
        refine hK _ _ (fun _ _ => hS1) ?_
        clear hK hS hb LV0 HX0
        have hS := hS1
        clear hS1
        refine till_two 3 6 rfl rfl (by kernel_rfl) (fun K hK => ?_) (fun K hK => ?_)
        · simp only [List.getElem_toArray, List.getElem_cons_succ, List.getElem_cons_zero]
          rw [if_pos (by rfl)]
          go_simp
          refine (key_any 37 [i] _ _ (by simp) (I64s.one HI.out) RA1.out).mono ?_
          rintro e wt2 ⟨rfl, hb⟩
          have LV2 := Lib.hid (LV1.out.later hb)
          have HX2 := Lib.hid (below_at' hb HX1.out)
          have RA2 := Lib.hid (RA1.out.later hb)
          have hS1 := (Lib.cell_of_heap HX2.out 33).trans (rvC_at (r := ⟨h, st, a, true⟩) HH.out)
          refine hK _ _ (fun _ _ => hS1) ?_
          clear hK hS hb LV1 HX1 RA1
          have hS := hS1
          clear hS1
          refine till_one 6 rfl (by kernel_rfl) (fun K hK => ?_)
          · simp only [List.getElem_toArray, List.getElem_cons_succ, List.getElem_cons_zero]
            rw [if_pos (by rfl)]
            go_simp
            obtain ⟨wt3, hwn⟩ : ∃ wn, wn = World.alloc wt2 (.cells #[.int .i64 2, .int .i64 a] 3) := ⟨_, rfl⟩
            obtain ⟨B, hB⟩ : ∃ B, B = (World.heap wt2).size := ⟨_, rfl⟩
            rw [← hwn, ← hB]
            have hb : Below (World.heap wt2).size wt2 wt3 := by rw [hwn]; exact below_new _ _
            have hrb : Rd wt3 intE 1 (.slice (some ⟨B, 0, none⟩) 2 2) [2, a] := by rw [hwn, hB]; exact lit2 _ _ _
            have LV3 := Lib.hid (LV2.out.later hb)
            have HX3 := Lib.hid (below_at' hb HX2.out)
            have RA3 := Lib.hid (RA2.out.later hb)
            have RB3 := Lib.hid hrb
            clear hrb hwn hB
            have hS1 := (Lib.cell_of_heap HX3.out 33).trans (rvC_at (r := ⟨h, st, a, true⟩) HH.out)
            refine hK _ _ (fun _ _ => hS1) ?_
            clear hK hS hb LV2 HX2 RA2
            have hS := hS1
            clear hS1
            refine till_one 7 rfl (by kernel_rfl) (fun K hK => ?_)
            · simp only [List.getElem_toArray, List.getElem_cons_succ, List.getElem_cons_zero]
              rw [if_pos (by rfl)]
              go_simp
              refine (LV3.out.call fun F h => setRow_any h HZ.out (keyF 37 [i]) (by simp) (I64s.two (by decide) ⟨by have := HBD.out.1; omega, HBD.out.2⟩) RB3.out).mono ?_
              rintro e wt4 ⟨rfl, LE, _⟩
              have LE := Lib.hid LE
              refine hK _ _ (fun h => absurd rfl h) ?_
              clear hK hS
              refine till_done (by kernel_rfl) ?_ _
              go_wp2_with fail
              go_ret
              rw [HE.out, HS0.out]
              exact LE.out.ret
        · simp only [List.getElem_toArray, List.getElem_cons_succ, List.getElem_cons_zero]
          rw [if_pos (by rfl)]
          go_simp
          obtain ⟨wt5, hwn⟩ : ∃ wn, wn = World.alloc wt1 (.cells #[.int .i64 2, .int .i64 a] 3) := ⟨_, rfl⟩
          obtain ⟨B, hB⟩ : ∃ B, B = (World.heap wt1).size := ⟨_, rfl⟩
          rw [← hwn, ← hB]
          have hb : Below (World.heap wt1).size wt1 wt5 := by rw [hwn]; exact below_new _ _
          have hrb : Rd wt5 intE 1 (.slice (some ⟨B, 0, none⟩) 2 2) [2, a] := by rw [hwn, hB]; exact lit2 _ _ _
          have LV5 := Lib.hid (LV1.out.later hb)
          have HX5 := Lib.hid (below_at' hb HX1.out)
          have RA5 := Lib.hid (RA1.out.later hb)
          have RB5 := Lib.hid hrb
          clear hrb hwn hB
          have hS1 := (Lib.cell_of_heap HX5.out 33).trans (rvC_at (r := ⟨h, st, a, true⟩) HH.out)
          refine hK _ _ (fun _ _ => hS1) ?_
          clear hK hS hb LV1 HX1 RA1
          have hS := hS1
          clear hS1
          refine till_one 3 rfl (by kernel_rfl) (fun K hK => ?_)
          · simp only [List.getElem_toArray, List.getElem_cons_succ, List.getElem_cons_zero]
            rw [if_pos (by rfl)]
            go_simp
            refine (key_any 37 [i] _ _ (by simp) (I64s.one HI.out) RA5.out).mono ?_
            rintro e wt6 ⟨rfl, hb⟩
            have LV6 := Lib.hid (LV5.out.later hb)
            have HX6 := Lib.hid (below_at' hb HX5.out)
            have RA6 := Lib.hid (RA5.out.later hb)
            have RB6 := Lib.hid (RB5.out.later hb)
            have hS1 := (Lib.cell_of_heap HX6.out 33).trans (rvC_at (r := ⟨h, st, a, true⟩) HH.out)
            refine hK _ _ (fun _ _ => hS1) ?_
            clear hK hS hb LV5 HX5 RA5 RB5
            have hS := hS1
            clear hS1
            refine till_one 7 rfl (by kernel_rfl) (fun K hK => ?_)
            · simp only [List.getElem_toArray, List.getElem_cons_succ, List.getElem_cons_zero]
              rw [if_pos (by rfl)]
              go_simp
              refine (LV6.out.call fun F h => setRow_any h HZ.out (keyF 37 [i]) (by simp) (I64s.two (by decide) ⟨by have := HBD.out.1; omega, HBD.out.2⟩) RB6.out).mono ?_
              rintro e wt7 ⟨rfl, LE, _⟩
              have LE := Lib.hid LE
              refine hK _ _ (fun h => absurd rfl h) ?_
              clear hK hS
              refine till_done (by kernel_rfl) ?_ _
              go_wp2_with fail
              go_ret
              rw [HE.out, HS0.out]
              exact LE.out.ret
      · simp only [List.getElem_toArray, List.getElem_cons_succ, List.getElem_cons_zero]
        rw [if_pos (by rfl)]
        go_simp
        obtain ⟨wt8, hwn⟩ : ∃ wn, wn = World.alloc wz (.cells #[.int .i64 2, .int .i64 a] 3) := ⟨_, rfl⟩
        obtain ⟨B, hB⟩ : ∃ B, B = (World.heap wz).size := ⟨_, rfl⟩
        rw [← hwn, ← hB]
        have hb : Below (World.heap wz).size wz wt8 := by rw [hwn]; exact below_new _ _
        have hrb : Rd wt8 intE 1 (.slice (some ⟨B, 0, none⟩) 2 2) [2, a] := by rw [hwn, hB]; exact lit2 _ _ _
        have LV8 := Lib.hid (LV0.out.later hb)
        have HX8 := Lib.hid (below_at' hb HX0.out)
        have RB8 := Lib.hid hrb
        clear hrb hwn hB
        have hS1 := (Lib.cell_of_heap HX8.out 33).trans (rvC_at (r := ⟨h, st, a, true⟩) HH.out)
        refine hK _ _ (fun _ _ => hS1) ?_
        clear hK hS hb LV0 HX0
        have hS := hS1
        clear hS1
        refine till_one 2 rfl (by kernel_rfl) (fun K hK => ?_)
        · simp only [List.getElem_toArray, List.getElem_cons_succ, List.getElem_cons_zero]
          rw [if_pos (by rfl)]
          go_simp
          obtain ⟨wt9, hwn⟩ : ∃ wn, wn = World.alloc wt8 (.cells #[.int .i64 i] 3) := ⟨_, rfl⟩
          obtain ⟨A, hA⟩ : ∃ A, A = (World.heap wt8).size := ⟨_, rfl⟩
          rw [← hwn, ← hA]
          have hb : Below (World.heap wt8).size wt8 wt9 := by rw [hwn]; exact below_new _ _
          have hra : Rd wt9 intE 1 (.slice (some ⟨A, 0, none⟩) 1 1) [i] := by rw [hwn, hA]; exact lit1 _ _
          have LV9 := Lib.hid (LV8.out.later hb)
          have HX9 := Lib.hid (below_at' hb HX8.out)
          have RB9 := Lib.hid (RB8.out.later hb)
          have RA9 := Lib.hid hra
          clear hra hwn hA
          have hS1 := (Lib.cell_of_heap HX9.out 33).trans (rvC_at (r := ⟨h, st, a, true⟩) HH.out)
          refine hK _ _ (fun _ _ => hS1) ?_
          clear hK hS hb LV8 HX8 RB8
          have hS := hS1
          clear hS1
          refine till_one 3 rfl (by kernel_rfl) (fun K hK => ?_)
          · simp only [List.getElem_toArray, List.getElem_cons_succ, List.getElem_cons_zero]
            rw [if_pos (by rfl)]
            go_simp
            refine (key_any 37 [i] _ _ (by simp) (I64s.one HI.out) RA9.out).mono ?_
            rintro e wt10 ⟨rfl, hb⟩
            have LV10 := Lib.hid (LV9.out.later hb)
            have HX10 := Lib.hid (below_at' hb HX9.out)
            have RB10 := Lib.hid (RB9.out.later hb)
            have RA10 := Lib.hid (RA9.out.later hb)
            have hS1 := (Lib.cell_of_heap HX10.out 33).trans (rvC_at (r := ⟨h, st, a, true⟩) HH.out)
            refine hK _ _ (fun _ _ => hS1) ?_
            clear hK hS hb LV9 HX9 RB9 RA9
            have hS := hS1
            clear hS1
            refine till_one 7 rfl (by kernel_rfl) (fun K hK => ?_)
            · simp only [List.getElem_toArray, List.getElem_cons_succ, List.getElem_cons_zero]
              rw [if_pos (by rfl)]
              go_simp
              refine (LV10.out.call fun F h => setRow_any h HZ.out (keyF 37 [i]) (by simp) (I64s.two (by decide) ⟨by have := HBD.out.1; omega, HBD.out.2⟩) RB10.out).mono ?_
              rintro e wt11 ⟨rfl, LE, _⟩
              have LE := Lib.hid LE
              refine hK _ _ (fun h => absurd rfl h) ?_
              clear hK hS
              refine till_done (by kernel_rfl) ?_ _
              go_wp2_with fail
              go_ret
              rw [HE.out, HS0.out]
              exact LE.out.ret
  · have hne : (st != 1) = true := bne_iff_ne.2 h1
    have HE := Lib.hid (dis_e9 (f := getP s.t) (i := i) (b := b) (by rw [HRT.out]) (by rw [HRT.out]; exact h1))
    clear h1
    go_wp2_with fail
    go_ret
    rw [HE.out, dis_s (by rw [HE.out]; decide)]
    exact L4.out.ret

set_option maxHeartbeats 4000000 in
theorem dis32_not {w : World} {x : Option Addr} (h : NotMade w x) {i : Int} (b : Int) (hi : -9223372036854775808 ≤ i ∧ i < 9223372036854775808) :
    Calls Try.prog 49 #[.pointer x, .int .i64 i, .int .i64 b] w (Ret w (.int .i64 8)) := by
  have hof := of_any (Look.of_not h) FitF.none hi
  rw [rootF_none] at hof
  clear h hi
  go_enter Try.func49, Try.ntmps49
  go_wp2_with fail
  refine hof.mono ?_
  rintro e w2 ⟨rfl, hb2⟩
  have HB2 := Lib.hid hb2
  clear hof hb2
  rw [show RV.none.ok = false from rfl]
  go_wp2_with (refine wpList_alloc_g rfl _ rfl _ _ Try.zeroRoot rfl ?_)
  intro X w3 h3
  have HX3 := Lib.hid h3.out.cells; have HB3 := Lib.hid (HB2.out.trans (h3.out.below.mono HB2.out.size)); have HXW : Hid (w.heap.size ≤ X) := Lib.hid (by rw [h3.out.eq]; exact HB2.out.size)
  clear h3 HB2
  go_wp2_with (refine wpList_store_row_g (t := 155) (old := rvC RV.none) rfl 155 _ _ rfl X (rvC RV.none) rfl rfl HX3.out (Try.sizeRoot (r := RV.none) z32_len) rfl (rvC_one _) ?_)
  intro w4 hx4 k34 z34
  have HB4 := Lib.hid (HB3.out.trans (k34.below (B := w.heap.size) (fun y hy e => by have := HXW.out; omega) HB3.out.size))
  clear hx4 k34 z34 HX3 HB3
  go_wp2_with fail
  go_ret
  exact ⟨rfl, HB4.out⟩

set_option maxHeartbeats 4000000 in
set_option maxRecDepth 100000 in
theorem rdis32_any {w : World} {g : Nat} {s : PS} {F : List Nat} (h : RS w g s F) (hz : s.sz < 1099511627776) (hf : Fit s) {i : Int} (b : Int) (hi : -9223372036854775808 ≤ i ∧ i < 9223372036854775808) :
    Calls Try.prog 91 #[.pointer (some ⟨g, 0, none⟩), .int .i64 i, .int .i64 b] w (RRet w g F (disS s i b) (.int .i64 (disE (getP s.t) i b))) := by
  have L := Lib.hid (RLiv.start h); have HZ := Lib.hid hz; have HI := Lib.hid hi
  have hof := rget32_any h hz hf hi
  have hlen := rootF_h (getP s.t) i
  have hbd := rootF_bound (getP s.t) i
  clear h hz hf hi
  go_enter Try.func91, Try.ntmps91
  go_wp2_with fail
  refine hof.mono ?_
  rintro e w2 ⟨rfl, hb2⟩
  obtain ⟨h, st, a, ok, hr⟩ : ∃ h st a ok, rootF (getP s.t) i = ⟨h, st, a, ok⟩ := ⟨_, _, _, _, rfl⟩
  have HRT := Lib.hid hr
  rw [hr] at hlen hbd ⊢
  have HH : Hid (h.length = 32) := Lib.hid hlen
  have HBD : Hid (0 ≤ a ∧ a < 9223372036854775808) := Lib.hid ⟨hbd.2.2.1, hbd.2.2.2⟩
  have L2 := Lib.hid (L.out.later hb2)
  clear hlen hr hof hbd hb2
  go_wp2_with (refine wpList_alloc_g rfl _ rfl _ _ Try.zeroHsh rfl ?_)
  intro X w3 h3
  have HX3 := Lib.hid h3.out.cells; have L3 := Lib.hid (L2.out.later h3.out.below); have HXW : Hid (w.heap.size ≤ X) := Lib.hid (by rw [h3.out.eq]; exact L2.out.keep.size)
  clear h3 L2
  go_wp2_with (refine wpList_store_row_g (t := 83) (old := c8 z32) rfl 83 _ _ rfl X (c8 h) rfl rfl HX3.out (Try.sizeHsh HH.out) (by rw [c8_size, c8_size, HH.out]; rfl) (c8_one _) ?_)
  intro w4 hx4 k34 z34
  have L4 := Lib.hid (L3.out.turn HX3.out rfl HXW.out k34)
  clear hx4 k34 z34 HX3 L3
  cases ok with
  | false =>
    have HE := Lib.hid (dis_e8 (b := b) (by rw [HRT.out]))
    go_wp2_with fail
    go_ret
    rw [HE.out, dis_s (by rw [HE.out]; decide)]
    exact L4.out.ret
  | true =>
  by_cases h1 : st = 1
  · have hne : (st == 1) = true := by rw [h1]; rfl
    by_cases h2 : a ≤ b
    · have HE := Lib.hid (dis_e10 (f := getP s.t) (i := i) (b := b) (by rw [HRT.out]) (by rw [HRT.out]; exact h1) (by rw [HRT.out]; exact h2))
      clear h1
      go_wp2_with fail
      go_ret
      rw [HE.out, dis_s (by rw [HE.out]; decide)]
      exact L4.out.ret
    · have HE := Lib.hid (dis_e0 (f := getP s.t) (i := i) (b := b) (by rw [HRT.out]) (by rw [HRT.out]; exact h1) (by rw [HRT.out]; show b < a; omega))
      have HS0 := Lib.hid (dis_s0 (s := s) HE.out)
      rw [HRT.out] at HS0
      clear h1
      go_wp2_with fail
      clear h2 hne
      have hb5 := below_new w4 (.cells #[.int .i64 i] 3)
      refine (refKey_any 37 [i] _ _ (by simp) (I64s.one HI.out) (lit1 w4 i)).mono ?_
      rintro e w6 ⟨rfl, hb6⟩
      have L6 := Lib.hid ((L4.out.later hb5).later hb6)
      clear hb5 hb6 L4
      go_wp2_with fail
      have hb7 := below_new w6 (.cells #[.int .i64 2, .int .i64 a] 3)
      refine ((L6.out.later hb7).call fun F h => rsetRow_any h HZ.out (keyF 37 [i]) (by simp) (I64s.two (by decide) ⟨by have := HBD.out.1; omega, HBD.out.2⟩) (lit2 w6 2 a)).mono ?_
      rintro e w8 ⟨rfl, L8, _⟩
      have L8 := Lib.hid L8
      clear hb7 L6
      go_wp2_with fail
      go_ret
      rw [HE.out, HS0.out]
      exact L8.out.ret
  · have hne : (st == 1) = false := beq_eq_false_iff_ne.2 h1
    have HE := Lib.hid (dis_e9 (f := getP s.t) (i := i) (b := b) (by rw [HRT.out]) (by rw [HRT.out]; exact h1))
    clear h1
    go_wp2_with fail
    go_ret
    rw [HE.out, dis_s (by rw [HE.out]; decide)]
    exact L4.out.ret

theorem post_e2 {f : Txt → Option Txt} {b wt : Int} (h : badR b wt = true) : postE f b wt = 2 ∧ postN f b wt = 0 := by
  unfold postE postN; rw [if_pos h, if_pos (.inl h)]; exact ⟨rfl, rfl⟩
theorem post_e7 {f : Txt → Option Txt} {b wt : Int} (h : badR b wt = false) (h2 : 1000 ≤ cntF f) : postE f b wt = 7 ∧ postN f b wt = 0 := by
  unfold postE postN; rw [if_neg (by rw [h]; decide), if_pos h2, if_pos (.inr h2)]; exact ⟨rfl, rfl⟩
theorem post_e0 {f : Txt → Option Txt} {b wt : Int} (h : badR b wt = false) (h2 : cntF f < 1000) : postE f b wt = 0 ∧ postN f b wt = nextI (cntF f) - 1 := by
  have hc : ¬ (badR b wt = true ∨ 1000 ≤ cntF f) := by rw [h]; rintro (h | h); cases h; omega
  unfold postE postN; rw [if_neg (by rw [h]; decide), if_neg (by omega), if_neg hc]; exact ⟨rfl, rfl⟩
theorem post_s0 {s : PS} {x : Txt} {b wt : Int} (h : badR b wt = false) (h2 : cntF (getP s.t) < 1000) : postS s x b wt = ((s.setInt kC (nextI (cntF (getP s.t)))).setRow (keyF 37 [nextI (cntF (getP s.t)) - 1]) [1, b + wt]).set (keyF 38 [nextI (cntF (getP s.t)) - 1]) x := by
  have hc : ¬ (badR b wt = true ∨ 1000 ≤ cntF (getP s.t)) := by rw [h]; rintro (h | h); cases h; omega
  unfold postS; rw [if_neg hc]
theorem rdH {w : World} {g : Nat} {l : Txt} {T : TypeId} {fr : Nat × Nat} (h : w.heap[g]? = some (.cells (c8 l) T fr)) (hl : l.length = 32) : Rd w u8E 1 (.slice (some ⟨g, 0, none⟩) 32 32) l := by
  refine ⟨_, 32, by rw [hl], by omega, by unfold maxLen; decide, fun _ => ⟨g, 0, rfl, heap_lt h, fun i hi j hj => ?_⟩⟩
  obtain rfl : j = 0 := by omega
  rw [show (⟨g, 0 + i * 1 + 0, none⟩ : Addr) = ⟨g, i, none⟩ by simp, Lib.cell_of_heap h i]
  simp [c8, u8E, List.getElem?_map, List.getElem?_eq_getElem hi]

set_option maxHeartbeats 4000000 in
set_option maxRecDepth 100000 in
theorem post32_any {w : World} {g : Nat} {s : PS} {F : List Nat} (h : St w g s F) (hz : s.sz < 1099511627700) (hf : Fit s) {x : Txt} (hx : x.length = 32) (b wt : Int) :
    Calls Try.prog 48 #[.pointer (some ⟨g, 0, none⟩), .agg (c8 x), .int .i64 b, .int .i64 wt] w (StRet w g F (postS s x b wt) (.tuple #[.int .i64 (postN (getP s.t) b wt), .int .i64 (postE (getP s.t) b wt)])) := by
  have L := Lib.hid (Liv.start h); have HZ : Hid (s.sz < 1099511627776) := Lib.hid (by omega); have HZ2 := Lib.hid hz; have HF := Lib.hid hf; have HXL := Lib.hid hx
  clear h hz hf hx
  go_enter Try.func48, Try.ntmps48
  go_wp2_with fail
  obtain ⟨w1, hw1⟩ : ∃ w1, w1 = w.alloc (.cells (c8 x) 83) := ⟨_, rfl⟩
  obtain ⟨B, hB⟩ : ∃ B, B = w.heap.size := ⟨_, rfl⟩
  rw [← hw1, ← hB]
  have hx1 : w1.heap[B]? = some (.cells (c8 x) 83 (0, 0)) := by rw [hw1, hB]; exact heap_alloc_new _ _
  have hb01 : Below w.heap.size w w1 := by rw [hw1]; exact below_new w _
  have L1 := Lib.hid (L.out.later hb01); have HX1 := Lib.hid hx1; have HBW : Hid (w.heap.size ≤ B) := Lib.hid (Nat.le_of_eq hB.symm)
  clear hw1 hB hx1 hb01 L
  obtain ⟨F1, p1, _⟩ := L1.out
  have P1 := Lib.hid p1
  clear p1
  refine (smade_any P1.out).mono ?_
  rintro e w2 ⟨rfl, rfl⟩
  cases hb1 : goodB b with
  | false =>
    have HE := Lib.hid (post_e2 (f := getP s.t) (b := b) (wt := wt) (by unfold badR; rw [hb1]; rfl)); have HP := Lib.hid (post_off (s := s) (h := x) (b := b) (wt := wt) (.inl (by unfold badR; rw [hb1]; rfl)))
    go_wp2_with fail
    refine (blocks_any b _).mono ?_
    rintro e w3 ⟨rfl, rfl⟩
    rw [hb1]
    go_wp2_with fail
    go_ret2
    rw [HP.out, HE.out.1, HE.out.2]
    exact L1.out.ret
  | true =>
  cases hb2 : goodB wt with
  | false =>
    have HE := Lib.hid (post_e2 (f := getP s.t) (b := b) (wt := wt) (by unfold badR; rw [hb1, hb2]; rfl)); have HP := Lib.hid (post_off (s := s) (h := x) (b := b) (wt := wt) (.inl (by unfold badR; rw [hb1, hb2]; rfl)))
    go_wp2_with fail
    refine (blocks_any b _).mono ?_
    rintro e w3 ⟨rfl, rfl⟩
    rw [hb1]
    go_wp2_with fail
    refine (blocks_any wt _).mono ?_
    rintro e w3 ⟨rfl, rfl⟩
    rw [hb2]
    go_wp2_with fail
    go_ret2
    rw [HP.out, HE.out.1, HE.out.2]
    exact L1.out.ret
  | true =>
  have HBAD : Hid (badR b wt = false) := Lib.hid (by unfold badR; rw [hb1, hb2]; rfl)
  have HG := Lib.hid (And.intro (goodB_yes.1 hb1) (goodB_yes.1 hb2))
  go_wp2_with fail
  refine (blocks_any b _).mono ?_
  rintro e w3 ⟨rfl, rfl⟩
  rw [hb1]
  go_wp2_with fail
  refine (blocks_any wt _).mono ?_
  rintro e w3 ⟨rfl, rfl⟩
  rw [hb2]
  clear hb1 hb2
  go_wp2_with fail
  refine (cnt_any (Look.of_st P1.out) HF.out.f).mono ?_
  rintro e w3 ⟨rfl, hb3⟩
  have L3 := Lib.hid (L1.out.later hb3); have HX3 := Lib.hid (below_at' hb3 HX1.out)
  have h0c := (getI_bound (getP s.t) kC).1
  obtain ⟨n, hn⟩ : ∃ n, n = cntF (getP s.t) := ⟨_, rfl⟩
  rw [← hn]
  have HN := Lib.hid hn
  have h0n : 0 ≤ n := by rw [hn]; exact h0c
  have H0N := Lib.hid h0n
  clear hb3 L1 HX1 P1 hn h0c h0n
  by_cases hfull : 1000 ≤ n
  · have HE := Lib.hid (post_e7 HBAD.out (by rw [← HN.out]; exact hfull)); have HP := Lib.hid (post_off (s := s) (h := x) (b := b) (wt := wt) (.inr (by rw [← HN.out]; exact hfull)))
    go_wp2_with fail
    go_ret2
    rw [HP.out, HE.out.1, HE.out.2]
    exact L3.out.ret
  have hlt : n < 1000 := by omega
  have HE := Lib.hid (post_e0 HBAD.out (by rw [← HN.out]; exact hlt)); have HP := Lib.hid (post_s0 (s := s) (x := x) (b := b) (wt := wt) HBAD.out (by rw [← HN.out]; exact hlt))
  have hnx : nextI n = n + 1 := if_pos (by omega)
  have hn1 : n + 1 - 1 = n := by omega
  rw [← HN.out, hnx, hn1] at HE HP
  have HNX := Lib.hid hnx; have HLT := Lib.hid hlt
  clear hnx hn1 hlt
  go_wp2_with fail
  clear hfull
  refine (key_any 36 [] _ _ (by simp) I64s_nil (Rd.nil _ _ _)).mono ?_
  rintro e w4 ⟨rfl, hb4⟩
  have L4 := Lib.hid (L3.out.later hb4); have HX4 := Lib.hid (below_at' hb4 HX3.out)
  clear hb4 L3 HX3
  go_wp2_with fail
  refine (L4.out.call fun F h => next_any h HZ.out HF.out (keyF 36 [])).mono ?_
  rintro e w5 ⟨rfl, l5, o5⟩
  rw [show getI (getP s.t) (keyF 36 []) = n from HN.out.symm, HNX.out] at l5 ⊢
  have hf5 := HF.out.setInt kC (n + 1); have hz5 := sz_setInt s kC (n + 1)
  obtain ⟨s5, hs5⟩ : ∃ s5, s5 = s.setInt kC (n + 1) := ⟨_, rfl⟩
  have l5' : Liv w F w5 g s5 := by rw [hs5]; exact l5
  rw [← hs5] at HP hf5 hz5
  have HF5 := Lib.hid hf5; have HZ5 : Hid (s5.sz < 1099511627776) := Lib.hid (by have := HZ2.out; omega); have HZ6 : Hid (s5.sz < 1099511627706) := Lib.hid (by have := HZ2.out; omega)
  have L5 := Lib.hid l5'; have HX5 := Lib.hid (o5.2 B _ HX4.out rfl rfl)
  have i1 := H0N.out; have i2 := HLT.out
  clear hf5 hz5 hs5 l5 l5' o5 L4 HX4
  go_wp2_with fail
  have hi : Hid (-9223372036854775808 ≤ n ∧ n < 9223372036854775808) := Lib.hid (by omega)
  have hw1 := HG.out.1; have hw2 := HG.out.2
  have hb6 := below_new w5 (.cells #[.int .i64 n] 3)
  refine (key_any 37 [n] _ _ (by simp) (I64s.one hi.out) (lit1 w5 n)).mono ?_
  rintro e w6 ⟨rfl, hb7⟩
  have hb8 := hb6.trans (hb7.mono hb6.size)
  have L6 := Lib.hid (L5.out.later hb8); have HX6 := Lib.hid (below_at' hb8 HX5.out)
  clear hb6 hb7 hb8 L5 HX5
  go_wp2_with fail
  have hb6 := below_new w6 (.cells #[.int .i64 1, .int .i64 (b + wt)] 3)
  refine ((L6.out.later hb6).call fun F h => setRow_any h HZ5.out (keyF 37 [n]) (by simp) (I64s.two (by decide) ⟨by omega, by omega⟩) (lit2 w6 1 (b + wt))).mono ?_
  rintro e w7 ⟨rfl, l7, o7⟩
  have hz7 := sz_setRow s5 (keyF 37 [n]) [1, b + wt]
  obtain ⟨s7, hs7⟩ : ∃ s7, s7 = s5.setRow (keyF 37 [n]) [1, b + wt] := ⟨_, rfl⟩
  rw [← hs7] at HP hz7 l7
  have HZ7 : Hid (s7.t.length < 1099511627776 ∧ s7.past.length < 1099511627776) := Lib.hid (by have := HZ6.out; unfold PS.sz at *; omega)
  obtain ⟨wz, hwz⟩ : ∃ wz, wz = w7.drew := ⟨_, rfl⟩
  have hbz : Below w7.heap.size w7 wz := by rw [hwz]; exact Below.drew (Below.refl _ _)
  have LZ := Lib.hid (l7.later hbz); have HXZ := Lib.hid (below_at' hbz (o7.2 B _ (below_at' hb6 HX6.out) rfl rfl))
  have hS : wz.heap[B]? = some (.cells (c8 x) 83 (0, 0)) := HXZ.out
  clear hz7 hs7 l7 o7 hb6 hbz L6 HX6 hw1 hw2
  go_wp2_with fail
  refine wp_region_till (fun w' => w'.heap[B]? = some (.cells (c8 x) 83 (0, 0))) 7 7 (by kernel_rfl) rfl ?_
  rw [← hwz]
  clear hwz
  refine till_take 0 (some 41) rfl rfl (by kernel_rfl) (by kernel_rfl) (by kernel_rfl) (by kernel_rfl) (by kernel_rfl) (by kernel_rfl) (fun _ _ _ h => h) (.inl ⟨by rfl, fun w' _ => (by go_simp; rfl)⟩) hS ?_
  go_frame
  refine till_take 1 (some 42) rfl rfl (by kernel_rfl) (by kernel_rfl) (by kernel_rfl) (by kernel_rfl) (by kernel_rfl) (by kernel_rfl) (fun _ _ _ h => h) (.inl ⟨by rfl, fun w' _ => (by go_simp; rfl)⟩) hS ?_
  go_frame
  refine till_take 4 (some 45) rfl rfl (by kernel_rfl) (by kernel_rfl) (by kernel_rfl) (by kernel_rfl) (by kernel_rfl) (by kernel_rfl) (fun _ _ _ h => h) (.inl ⟨by rfl, fun w' _ => (by go_simp; rfl)⟩) hS ?_
  go_frame
  refine till_take 5 (some 46) rfl rfl (by kernel_rfl) (by kernel_rfl) (by kernel_rfl) (by kernel_rfl) (by kernel_rfl) (by kernel_rfl) (fun _ _ _ h => h) (.inl ⟨by rfl, fun w' hS' => (by have hcv : (convert 159 9 (.slice (some ⟨B, 0, none⟩) 32 32)).run Try.prog w' = .ok (.string (bs x)) w' := rd_conv Try.underlying159 Try.underlying5 Try.underlying9 (rdH hS' HXL.out); go_simp; rfl)⟩) hS ?_
  go_frame
  refine till_one 2 rfl (by kernel_rfl) fun K hK => ?_
  simp only [List.getElem_toArray, List.getElem_cons_succ, List.getElem_cons_zero]
  rw [if_pos (by rfl)]
  go_simp
  obtain ⟨wa, hwa⟩ : ∃ wa, wa = World.alloc wz (.cells #[.int .i64 n] 3) := ⟨_, rfl⟩
  obtain ⟨A, hA⟩ : ∃ A, A = (World.heap wz).size := ⟨_, rfl⟩
  rw [← hwa, ← hA]
  have hb : Below wz.heap.size wz wa := by rw [hwa]; exact below_new _ _
  have RA : Hid (Rd wa intE 1 (.slice (some ⟨A, 0, none⟩) 1 1) [n]) := Lib.hid (by rw [hwa, hA]; exact lit1 _ _)
  have LA := Lib.hid (LZ.out.later hb)
  have hS1 := below_at' hb hS
  refine hK _ _ (fun _ _ => hS1) ?_
  clear hK hS hb hwa hA LZ HXZ
  have hS := hS1
  clear hS1
  refine till_one 3 rfl (by kernel_rfl) fun K hK => ?_
  simp only [List.getElem_toArray, List.getElem_cons_succ, List.getElem_cons_zero]
  rw [if_pos (by rfl)]
  go_simp
  refine (key_any 38 [n] _ _ (by simp) (I64s.one hi.out) RA.out).mono ?_
  rintro e wb ⟨rfl, hb⟩
  have LB := Lib.hid (LA.out.later hb)
  have hS1 := below_at' hb hS
  refine hK _ _ (fun _ _ => hS1) ?_
  clear hK hS hb LA RA
  have hS := hS1
  clear hS1
  refine till_one 6 rfl (by kernel_rfl) fun K hK => ?_
  simp only [List.getElem_toArray, List.getElem_cons_succ, List.getElem_cons_zero]
  rw [if_pos (by rfl)]
  go_simp
  refine (LB.out.call fun F h => sset_any h HZ7.out.1 HZ7.out.2 (keyF 38 [n]) x).mono ?_
  rintro e wc ⟨rfl, LE, oe⟩
  have LE := Lib.hid LE
  have hS1 := oe.2 B _ hS rfl rfl
  refine hK _ _ (fun _ _ => hS1) ?_
  clear hK hS oe LB
  have hS := hS1
  clear hS1
  refine till_done (by kernel_rfl) ?_ _
  clear hS
  go_wp2_with fail
  go_ret2
  rw [HP.out, HE.out.1, HE.out.2]
  exact LE.out.ret

set_option maxHeartbeats 4000000 in
set_option maxRecDepth 100000 in
theorem rpost32_any {w : World} {g : Nat} {s : PS} {F : List Nat} (h : RS w g s F) (hz : s.sz < 1099511627700) (hf : Fit s) {x : Txt} (hx : x.length = 32) (b wt : Int) :
    Calls Try.prog 92 #[.pointer (some ⟨g, 0, none⟩), .agg (c8 x), .int .i64 b, .int .i64 wt] w (RRet w g F (postS s x b wt) (.tuple #[.int .i64 (postN (getP s.t) b wt), .int .i64 (postE (getP s.t) b wt)])) := by
  have L := Lib.hid (RLiv.start h); have HZ : Hid (s.sz < 1099511627776) := Lib.hid (by omega); have HZ2 := Lib.hid hz; have HF := Lib.hid hf; have HXL := Lib.hid hx
  clear h hz hf hx
  go_enter Try.func92, Try.ntmps92
  have HBAD0 : ∀ (hbad : badR b wt = true), Hid (postE (getP s.t) b wt = 2 ∧ postN (getP s.t) b wt = 0) ∧ Hid (postS s x b wt = s) := fun h => ⟨Lib.hid (post_e2 h), Lib.hid (post_off (.inl h))⟩
  by_cases c0 : b < 0
  · have hgd : goodB b = false := goodB_no.2 (.inl c0)
    obtain ⟨HE, HP⟩ := HBAD0 (by unfold badR; rw [hgd]; simp)
    clear hgd HBAD0
    go_wp2_with fail
    obtain ⟨w1, hw1⟩ : ∃ w1, w1 = w.alloc (.cells (c8 x) 83) := ⟨_, rfl⟩
    obtain ⟨B, hB⟩ : ∃ B, B = w.heap.size := ⟨_, rfl⟩
    rw [← hw1, ← hB]
    have hx1 : w1.heap[B]? = some (.cells (c8 x) 83 (0, 0)) := by rw [hw1, hB]; exact heap_alloc_new _ _
    have hb01 : Below w.heap.size w w1 := by rw [hw1]; exact below_new w _
    have L1 := Lib.hid (L.out.later hb01); have HX1 := Lib.hid hx1; have HBW : Hid (w.heap.size ≤ B) := Lib.hid (Nat.le_of_eq hB.symm)
    clear hw1 hB hx1 hb01 L
    obtain ⟨F1, p1, _⟩ := L1.out
    have P1 := Lib.hid p1
    clear p1
    go_ret2
    rw [HP.out, HE.out.1, HE.out.2]
    exact L1.out.ret
  have c1 := c0
  clear c0
  by_cases c0 : 1099511627776 < b
  · have hgd : goodB b = false := goodB_no.2 (.inr c0)
    obtain ⟨HE, HP⟩ := HBAD0 (by unfold badR; rw [hgd]; simp)
    clear hgd HBAD0
    go_wp2_with fail
    obtain ⟨w1, hw1⟩ : ∃ w1, w1 = w.alloc (.cells (c8 x) 83) := ⟨_, rfl⟩
    obtain ⟨B, hB⟩ : ∃ B, B = w.heap.size := ⟨_, rfl⟩
    rw [← hw1, ← hB]
    have hx1 : w1.heap[B]? = some (.cells (c8 x) 83 (0, 0)) := by rw [hw1, hB]; exact heap_alloc_new _ _
    have hb01 : Below w.heap.size w w1 := by rw [hw1]; exact below_new w _
    have L1 := Lib.hid (L.out.later hb01); have HX1 := Lib.hid hx1; have HBW : Hid (w.heap.size ≤ B) := Lib.hid (Nat.le_of_eq hB.symm)
    clear hw1 hB hx1 hb01 L
    obtain ⟨F1, p1, _⟩ := L1.out
    have P1 := Lib.hid p1
    clear p1
    go_ret2
    rw [HP.out, HE.out.1, HE.out.2]
    exact L1.out.ret
  have c2 := c0
  clear c0
  by_cases c0 : wt < 0
  · have hgd : goodB wt = false := goodB_no.2 (.inl c0)
    obtain ⟨HE, HP⟩ := HBAD0 (by unfold badR; rw [hgd]; simp)
    clear hgd HBAD0
    go_wp2_with fail
    obtain ⟨w1, hw1⟩ : ∃ w1, w1 = w.alloc (.cells (c8 x) 83) := ⟨_, rfl⟩
    obtain ⟨B, hB⟩ : ∃ B, B = w.heap.size := ⟨_, rfl⟩
    rw [← hw1, ← hB]
    have hx1 : w1.heap[B]? = some (.cells (c8 x) 83 (0, 0)) := by rw [hw1, hB]; exact heap_alloc_new _ _
    have hb01 : Below w.heap.size w w1 := by rw [hw1]; exact below_new w _
    have L1 := Lib.hid (L.out.later hb01); have HX1 := Lib.hid hx1; have HBW : Hid (w.heap.size ≤ B) := Lib.hid (Nat.le_of_eq hB.symm)
    clear hw1 hB hx1 hb01 L
    obtain ⟨F1, p1, _⟩ := L1.out
    have P1 := Lib.hid p1
    clear p1
    go_ret2
    rw [HP.out, HE.out.1, HE.out.2]
    exact L1.out.ret
  have c3 := c0
  clear c0
  by_cases c0 : 1099511627776 < wt
  · have hgd : goodB wt = false := goodB_no.2 (.inr c0)
    obtain ⟨HE, HP⟩ := HBAD0 (by unfold badR; rw [hgd]; simp)
    clear hgd HBAD0
    go_wp2_with fail
    obtain ⟨w1, hw1⟩ : ∃ w1, w1 = w.alloc (.cells (c8 x) 83) := ⟨_, rfl⟩
    obtain ⟨B, hB⟩ : ∃ B, B = w.heap.size := ⟨_, rfl⟩
    rw [← hw1, ← hB]
    have hx1 : w1.heap[B]? = some (.cells (c8 x) 83 (0, 0)) := by rw [hw1, hB]; exact heap_alloc_new _ _
    have hb01 : Below w.heap.size w w1 := by rw [hw1]; exact below_new w _
    have L1 := Lib.hid (L.out.later hb01); have HX1 := Lib.hid hx1; have HBW : Hid (w.heap.size ≤ B) := Lib.hid (Nat.le_of_eq hB.symm)
    clear hw1 hB hx1 hb01 L
    obtain ⟨F1, p1, _⟩ := L1.out
    have P1 := Lib.hid p1
    clear p1
    go_ret2
    rw [HP.out, HE.out.1, HE.out.2]
    exact L1.out.ret
  have c4 := c0
  clear c0
  clear HBAD0
  have hg1 : goodB b = true := goodB_yes.2 ⟨by omega, by omega⟩
  have hg2 : goodB wt = true := goodB_yes.2 ⟨by omega, by omega⟩
  have HBAD : Hid (badR b wt = false) := Lib.hid (by unfold badR; rw [hg1, hg2]; rfl)
  have HG := Lib.hid (And.intro (goodB_yes.1 hg1) (goodB_yes.1 hg2))
  clear hg1 hg2
  go_wp2_with fail
  obtain ⟨w1, hw1⟩ : ∃ w1, w1 = w.alloc (.cells (c8 x) 83) := ⟨_, rfl⟩
  obtain ⟨B, hB⟩ : ∃ B, B = w.heap.size := ⟨_, rfl⟩
  rw [← hw1, ← hB]
  have hx1 : w1.heap[B]? = some (.cells (c8 x) 83 (0, 0)) := by rw [hw1, hB]; exact heap_alloc_new _ _
  have hb01 : Below w.heap.size w w1 := by rw [hw1]; exact below_new w _
  have L1 := Lib.hid (L.out.later hb01); have HX1 := Lib.hid hx1; have HBW : Hid (w.heap.size ≤ B) := Lib.hid (Nat.le_of_eq hB.symm)
  clear hw1 hB hx1 hb01 L
  obtain ⟨F1, p1, _⟩ := L1.out
  have P1 := Lib.hid p1
  clear p1
  clear c1 c2 c3 c4
  go_wp2_with fail
  refine (rcnt_any P1.out HZ.out HF.out).mono ?_
  rintro e w3 ⟨rfl, hb3⟩
  have L3 := Lib.hid (L1.out.later hb3); have HX3 := Lib.hid (below_at' hb3 HX1.out)
  have h0c := (getI_bound (getP s.t) kC).1
  obtain ⟨n, hn⟩ : ∃ n, n = cntF (getP s.t) := ⟨_, rfl⟩
  rw [← hn]
  have HN := Lib.hid hn
  have h0n : 0 ≤ n := by rw [hn]; exact h0c
  have H0N := Lib.hid h0n
  clear hb3 L1 HX1 P1 hn h0c h0n
  by_cases hfull : 1000 ≤ n
  · have HE := Lib.hid (post_e7 HBAD.out (by rw [← HN.out]; exact hfull)); have HP := Lib.hid (post_off (s := s) (h := x) (b := b) (wt := wt) (.inr (by rw [← HN.out]; exact hfull)))
    go_wp2_with fail
    go_ret2
    rw [HP.out, HE.out.1, HE.out.2]
    exact L3.out.ret
  have hlt : n < 1000 := by omega
  have HE := Lib.hid (post_e0 HBAD.out (by rw [← HN.out]; exact hlt)); have HP := Lib.hid (post_s0 (s := s) (x := x) (b := b) (wt := wt) HBAD.out (by rw [← HN.out]; exact hlt))
  have hnx : nextI n = n + 1 := if_pos (by omega)
  have hn1 : n + 1 - 1 = n := by omega
  rw [← HN.out, hnx, hn1] at HE HP
  have HNX := Lib.hid hnx; have HLT := Lib.hid hlt
  clear hnx hn1 hlt
  go_wp2_with fail
  clear hfull
  refine (refKey_any 36 [] _ _ (by simp) I64s_nil (Rd.nil _ _ _)).mono ?_
  rintro e w4 ⟨rfl, hb4⟩
  have L4 := Lib.hid (L3.out.later hb4); have HX4 := Lib.hid (below_at' hb4 HX3.out)
  clear hb4 L3 HX3
  go_wp2_with fail
  refine (L4.out.call fun F h => rnext_any h HZ.out HF.out (keyF 36 [])).mono ?_
  rintro e w5 ⟨rfl, l5, o5⟩
  rw [show getI (getP s.t) (keyF 36 []) = n from HN.out.symm, HNX.out] at l5 ⊢
  have hf5 := HF.out.setInt kC (n + 1); have hz5 := sz_setInt s kC (n + 1)
  obtain ⟨s5, hs5⟩ : ∃ s5, s5 = s.setInt kC (n + 1) := ⟨_, rfl⟩
  have l5' : RLiv w F w5 g s5 := by rw [hs5]; exact l5
  rw [← hs5] at HP hf5 hz5
  have HF5 := Lib.hid hf5; have HZ5 : Hid (s5.sz < 1099511627776) := Lib.hid (by have := HZ2.out; omega); have HZ6 : Hid (s5.sz < 1099511627706) := Lib.hid (by have := HZ2.out; omega)
  have L5 := Lib.hid l5'; have HX5 := Lib.hid (o5.2 B _ HX4.out rfl rfl)
  have i1 := H0N.out; have i2 := HLT.out
  clear hf5 hz5 hs5 l5 l5' o5 L4 HX4
  go_wp2_with fail
  have hi : Hid (-9223372036854775808 ≤ n ∧ n < 9223372036854775808) := Lib.hid (by omega)
  have hw1 := HG.out.1; have hw2 := HG.out.2
  have hb6 := below_new w5 (.cells #[.int .i64 n] 3)
  refine (refKey_any 37 [n] _ _ (by simp) (I64s.one hi.out) (lit1 w5 n)).mono ?_
  rintro e w6 ⟨rfl, hb7⟩
  have hb8 := hb6.trans (hb7.mono hb6.size)
  have L6 := Lib.hid (L5.out.later hb8); have HX6 := Lib.hid (below_at' hb8 HX5.out)
  clear hb6 hb7 hb8 L5 HX5
  go_wp2_with fail
  have hb6 := below_new w6 (.cells #[.int .i64 1, .int .i64 (b + wt)] 3)
  refine ((L6.out.later hb6).call fun F h => rsetRow_any h HZ5.out (keyF 37 [n]) (by simp) (I64s.two (by decide) ⟨by omega, by omega⟩) (lit2 w6 1 (b + wt))).mono ?_
  rintro e w7 ⟨rfl, l7, o7⟩
  have hz7 := sz_setRow s5 (keyF 37 [n]) [1, b + wt]
  obtain ⟨s7, hs7⟩ : ∃ s7, s7 = s5.setRow (keyF 37 [n]) [1, b + wt] := ⟨_, rfl⟩
  rw [← hs7] at HP hz7 l7
  have HZ7 : Hid (s7.t.length < 1099511627776 ∧ s7.past.length < 1099511627776) := Lib.hid (by have := HZ6.out; unfold PS.sz at *; omega)
  obtain ⟨wz, hwz⟩ : ∃ wz, wz = w7.drew := ⟨_, rfl⟩
  have hbz : Below w7.heap.size w7 wz := by rw [hwz]; exact Below.drew (Below.refl _ _)
  have LZ := Lib.hid (l7.later hbz); have HXZ := Lib.hid (below_at' hbz (o7.2 B _ (below_at' hb6 HX6.out) rfl rfl))
  have hS : wz.heap[B]? = some (.cells (c8 x) 83 (0, 0)) := HXZ.out
  clear hz7 hs7 l7 o7 hb6 hbz L6 HX6 hw1 hw2
  go_wp2_with fail
  refine wp_region_till (fun w' => w'.heap[B]? = some (.cells (c8 x) 83 (0, 0))) 7 7 (by kernel_rfl) rfl ?_
  rw [← hwz]
  clear hwz
  refine till_take 0 (some 41) rfl rfl (by kernel_rfl) (by kernel_rfl) (by kernel_rfl) (by kernel_rfl) (by kernel_rfl) (by kernel_rfl) (fun _ _ _ h => h) (.inl ⟨by rfl, fun w' _ => (by go_simp; rfl)⟩) hS ?_
  go_frame
  refine till_take 1 (some 42) rfl rfl (by kernel_rfl) (by kernel_rfl) (by kernel_rfl) (by kernel_rfl) (by kernel_rfl) (by kernel_rfl) (fun _ _ _ h => h) (.inl ⟨by rfl, fun w' _ => (by go_simp; rfl)⟩) hS ?_
  go_frame
  refine till_take 4 (some 45) rfl rfl (by kernel_rfl) (by kernel_rfl) (by kernel_rfl) (by kernel_rfl) (by kernel_rfl) (by kernel_rfl) (fun _ _ _ h => h) (.inl ⟨by rfl, fun w' _ => (by go_simp; rfl)⟩) hS ?_
  go_frame
  refine till_take 5 (some 46) rfl rfl (by kernel_rfl) (by kernel_rfl) (by kernel_rfl) (by kernel_rfl) (by kernel_rfl) (by kernel_rfl) (fun _ _ _ h => h) (.inl ⟨by rfl, fun w' hS' => (by have hcv : (convert 159 9 (.slice (some ⟨B, 0, none⟩) 32 32)).run Try.prog w' = .ok (.string (bs x)) w' := rd_conv Try.underlying159 Try.underlying5 Try.underlying9 (rdH hS' HXL.out); go_simp; rfl)⟩) hS ?_
  go_frame
  refine till_one 2 rfl (by kernel_rfl) fun K hK => ?_
  simp only [List.getElem_toArray, List.getElem_cons_succ, List.getElem_cons_zero]
  rw [if_pos (by rfl)]
  go_simp
  obtain ⟨wa, hwa⟩ : ∃ wa, wa = World.alloc wz (.cells #[.int .i64 n] 3) := ⟨_, rfl⟩
  obtain ⟨A, hA⟩ : ∃ A, A = (World.heap wz).size := ⟨_, rfl⟩
  rw [← hwa, ← hA]
  have hb : Below wz.heap.size wz wa := by rw [hwa]; exact below_new _ _
  have RA : Hid (Rd wa intE 1 (.slice (some ⟨A, 0, none⟩) 1 1) [n]) := Lib.hid (by rw [hwa, hA]; exact lit1 _ _)
  have LA := Lib.hid (LZ.out.later hb)
  have hS1 := below_at' hb hS
  refine hK _ _ (fun _ _ => hS1) ?_
  clear hK hS hb hwa hA LZ HXZ
  have hS := hS1
  clear hS1
  refine till_one 3 rfl (by kernel_rfl) fun K hK => ?_
  simp only [List.getElem_toArray, List.getElem_cons_succ, List.getElem_cons_zero]
  rw [if_pos (by rfl)]
  go_simp
  refine (refKey_any 38 [n] _ _ (by simp) (I64s.one hi.out) RA.out).mono ?_
  rintro e wb ⟨rfl, hb⟩
  have LB := Lib.hid (LA.out.later hb)
  have hS1 := below_at' hb hS
  refine hK _ _ (fun _ _ => hS1) ?_
  clear hK hS hb LA RA
  have hS := hS1
  clear hS1
  refine till_one 6 rfl (by kernel_rfl) fun K hK => ?_
  simp only [List.getElem_toArray, List.getElem_cons_succ, List.getElem_cons_zero]
  rw [if_pos (by rfl)]
  go_simp
  refine (LB.out.call fun F h => rset_any h HZ7.out.1 HZ7.out.2 (keyF 38 [n]) x).mono ?_
  rintro e wc ⟨rfl, LE, oe⟩
  have LE := Lib.hid LE
  have hS1 := oe.2 B _ hS rfl rfl
  refine hK _ _ (fun _ _ => hS1) ?_
  clear hK hS oe LB
  have hS := hS1
  clear hS1
  refine till_done (by kernel_rfl) ?_ _
  clear hS
  go_wp2_with fail
  go_ret2
  rw [HP.out, HE.out.1, HE.out.2]
  exact LE.out.ret

set_option maxHeartbeats 4000000 in
theorem post32_not {w : World} {y : Option Addr} (h : NotMade w y) {x : Txt} (b wt : Int) :
    Calls Try.prog 48 #[.pointer y, .agg (c8 x), .int .i64 b, .int .i64 wt] w (Ret w (.tuple #[.int .i64 0, .int .i64 1])) := by
  have H := Lib.hid h
  clear h
  go_enter Try.func48, Try.ntmps48
  go_wp2_with fail
  have hb := below_new w (.cells (c8 x) 83)
  refine (smade_not (H.out.later hb)).mono ?_
  rintro e w2 ⟨rfl, rfl⟩
  have HB := Lib.hid hb
  clear hb
  go_wp2_with fail
  go_ret2
  exact ⟨rfl, HB.out⟩
end Go.Proofs.Ytohedljdkfmkdaa
