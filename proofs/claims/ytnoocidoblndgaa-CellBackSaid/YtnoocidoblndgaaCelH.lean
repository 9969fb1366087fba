/- Chapter 10: CellBack: the walk where the number is not above nought. No condition. -/
import Derived.Test.YtnoocidoblndgaaCelI
namespace Go.Proofs.Ytnoocidoblndgaa
open Go.RowKit

set_option maxHeartbeats 64000000 in
set_option maxRecDepth 100000 in
theorem back_neg {w : World} {n : Int} (hn0 : ¬ 0 < n) (hn : -9223372036854775808 ≤ n ∧ n < 9223372036854775808) {a b c d : Int} {m : Nat} (hu : UIs a b c d m) {v : Value} {l : List Int} (h : Rd w intE 1 v l) (hi : I64s l) :
    Calls Try.prog 4 #[.int .i64 n, .agg #[.int .u64 a, .int .u64 b, .int .u64 c, .int .u64 d], v] w (Ret w (.bool true)) := by
  obtain ⟨ad, cap, e1, c1, c1'⟩ := h.shape
  obtain ⟨q, hq⟩ : ∃ q, q = l.length := ⟨_, rfl⟩
  rw [← hq] at e1 c1
  subst e1
  have H := Lib.hid h; have HQ := Lib.hid hq; have HI := Lib.hid hi; have HU := Lib.hid hu; have HN := Lib.hid hn; have HN9 := Lib.hid hn0
  have hall := back_all n hn.2 m hu.lt l hi
  have HALL := Lib.hid hall
  clear h hq hi hu hn hn0 hall
  obtain ⟨s1, hs1⟩ : ∃ s, s = PS.new.setInt (ckey 1) n := ⟨_, rfl⟩
  obtain ⟨s2, hs2⟩ : ∃ s, s = s1.setAmt (ckey 2) m := ⟨_, rfl⟩
  obtain ⟨s3, hs3⟩ : ∃ s, s = back3 n m l := ⟨_, rfl⟩
  rw [← hs3] at HALL
  have hs3' : s3 = s2.setRow (ckey 3) l := by rw [hs3, hs2, hs1]; rfl
  have hz1 : s1.sz ≤ 2 := by rw [hs1]; have := sz_setInt PS.new (ckey 1) n; have : PS.new.sz = 0 := rfl; omega
  have hz2 : s2.sz ≤ 4 := by rw [hs2]; have := sz_setAmt s1 (ckey 2) m; omega
  have hz3 : s3.sz ≤ 6 := by rw [hs3']; have := sz_setRow s2 (ckey 3) l; omega
  have HZ := Lib.hid (And.intro hz1 (And.intro hz2 hz3))
  have HS1 := Lib.hid hs1; have HS2 := Lib.hid hs2; have HS3 := Lib.hid hs3'
  have hf2 : Fit s2 := by rw [hs2, hs1]; exact (Fit.new.setInt _ _).setAmt _ _
  clear hs1 hs2 hs3 hs3' hz1 hz2 hz3
  by_cases hbig : 20 < q
  · go_enter Try.func4, Try.ntmps4
    go_wp2_with fail
    refine (lives10_any _).mono ?_
    rintro e w2 ⟨rfl, hb⟩
    have HB := Lib.hid ((below_new w _).trans (hb.mono (below_new w _).size))
    clear hb
    go_wp2_with fail
    go_ret
    exact ⟨rfl, HB.out⟩
  have hf3 : Fit s3 := by rw [HS3.out]; exact hf2.setRow _ (by rw [← HQ.out]; omega)
  have HF3 := Lib.hid hf3
  have HQ20 : Hid (q ≤ 20) := Lib.hid (by omega)
  clear hf2 hf3
  go_enter Try.func4, Try.ntmps4
  go_wp2_with fail
  obtain ⟨w0, hw0⟩ : ∃ w1, w1 = w.alloc (.cells #[.int .u64 a, .int .u64 b, .int .u64 c, .int .u64 d] 30) := ⟨_, rfl⟩
  obtain ⟨X, hX⟩ : ∃ X, X = w.heap.size := ⟨_, rfl⟩
  rw [← hw0, ← hX]
  have hb0 : Below w.heap.size w w0 := by rw [hw0]; exact below_new _ _
  have HX0 : Hid (w0.heap[X]? = some (.cells #[.int .u64 a, .int .u64 b, .int .u64 c, .int .u64 d] 30 (0, 0))) := Lib.hid (by rw [hw0, hX]; exact heap_alloc_new _ _)
  have HB0 := Lib.hid hb0
  clear hw0 hX hb0 hbig
  refine (snew_any _).mono ?_
  rintro e w1 ⟨g, F, rfl, h1, hb1, hf1⟩
  have O1 : Hid (One w w1 g PS.new) := Lib.hid ⟨F, h1, fun x hx => Nat.le_trans HB0.out.size (hf1 x hx), HB0.out.trans (hb1.mono HB0.out.size)⟩
  have HX1 := Lib.hid (below_at' hb1 HX0.out)
  clear h1 hb1 hf1 HX0 HB0
  go_wp2_with fail
  refine (ckey_any 1 _).mono ?_
  rintro e w2 ⟨rfl, hb⟩
  have O2 := Lib.hid (O1.out.later hb); have HX2 := Lib.hid (below_at' hb HX1.out)
  clear hb O1 HX1
  go_wp2_with fail
  refine (O2.out.st fun F hs => setInt_any hs (by decide) (ckey 1) n HN.out.2).mono ?_
  rw [← HS1.out]
  rintro e w3 ⟨rfl, o, hoth⟩
  have O3 := Lib.hid o; have HX3 := Lib.hid (hoth.2 X _ HX2.out rfl rfl)
  clear o hoth O2 HX2
  have OD := Lib.hid (O3.out.later (Below.drew (Below.refl w3.heap.size w3)))
  have hS : w3.drew.heap[X]? = some (.cells #[.int .u64 a, .int .u64 b, .int .u64 c, .int .u64 d] 30 (0, 0)) := HX3.out
  clear O3 HX3
  go_wp2_with fail
  refine wp_region_till (fun w' => w'.heap[X]? = some (.cells #[.int .u64 a, .int .u64 b, .int .u64 c, .int .u64 d] 30 (0, 0))) 4 4 (by kernel_rfl) rfl ?_
  refine till_take 0 (some 23) rfl rfl (by kernel_rfl) (by kernel_rfl) (by kernel_rfl) (by kernel_rfl) (by kernel_rfl) (by kernel_rfl) (fun _ _ _ h => h) (.inl ⟨by rfl, fun w' _ => (by go_simp; rfl)⟩) hS ?_
  go_frame
  refine till_take 2 (some 25) rfl rfl (by kernel_rfl) (by kernel_rfl) (by kernel_rfl) (by kernel_rfl) (by kernel_rfl) (by kernel_rfl) (fun _ _ _ h => h) (yields_load (by rfl) 30 _ rfl (.pointer (some ⟨X, 0, none⟩)) rfl (.agg #[.int .u64 a, .int .u64 b, .int .u64 c, .int .u64 d]) (fun w' hS' => load_heap hS' Try.underlying30 rfl Try.sizeU)) hS ?_
  go_frame
  refine till_one 1 rfl (by kernel_rfl) fun K hK => ?_
  simp only [List.getElem_toArray, List.getElem_cons_succ, List.getElem_cons_zero]
  rw [if_pos (by rfl)]
  go_simp
  refine (ckey_any 2 _).mono ?_
  rintro e wa ⟨rfl, hb⟩
  have hS2 := below_at' hb hS
  have ODn := Lib.hid (OD.out.later hb)
  refine hK _ _ (fun _ _ => hS2) ?_
  clear hK hS hb OD
  have hS := hS2
  have OD := ODn
  clear hS2 ODn
  refine till_one 3 rfl (by kernel_rfl) fun K hK => ?_
  simp only [List.getElem_toArray, List.getElem_cons_succ, List.getElem_cons_zero]
  rw [if_pos (by rfl)]
  go_simp
  refine (OD.out.st fun F hs => csetAmount_any hs (by have := HZ.out.1; omega) (ckey 2) HU.out).mono ?_
  rintro e wb ⟨rfl, o, hoth⟩
  have hS2 := hoth.2 X _ hS rfl rfl
  have ODn := Lib.hid o
  refine hK _ _ (fun _ _ => hS2) ?_
  clear hK hS hoth OD o
  have hS := hS2
  have OD := ODn
  clear hS2 ODn
  refine till_done (by kernel_rfl) ?_ _
  have HX4 := Lib.hid hS
  have O4 : Hid (One w wb g s2) := Lib.hid (by rw [HS2.out]; exact OD.out)
  clear hS OD
  go_wp2_with fail
  refine (ckey_any 3 _).mono ?_
  rintro e w5 ⟨rfl, hb⟩
  have O5 := Lib.hid (O4.out.later hb); have HX5 := Lib.hid (below_at' hb HX4.out)
  clear hb O4 HX4
  go_wp2_with fail
  refine (O5.out.st fun F hs => setRow_any hs (by have := HZ.out.2.1; omega) (ckey 3) (by rw [← HQ.out]; have := HQ20.out; omega) HI.out (H.out.later O5.out.below)).mono ?_
  rw [← HS3.out]
  rintro e w6 ⟨rfl, o, hoth⟩
  have O6 := Lib.hid o; have HX6 := Lib.hid (hoth.2 X _ HX5.out rfl rfl)
  clear o hoth O5 HX5
  go_wp2_with fail
  go_loopw [8, 33] (fun vb vi wr => ∃ (i : Nat) (bb : Bool), vb = .bool bb ∧ vi = .int .i64 i ∧ i ≤ q ∧ Hid (bb = (l.take i).any fun x => decide (x < 0)) ∧ Hid (Below w6.heap.size w6 wr)) (fun _ vi _ => q - (intOf vi).toNat)
  case atStart => exact ⟨0, false, rfl, rfl, Nat.zero_le _, Lib.hid (by simp), Lib.hid (Below.refl _ _)⟩
  case round =>
    obtain ⟨i, bb, rfl, rfl, hin, HBB, BW⟩ := hrel
    have HIN := Lib.hid hin
    by_cases hlt : i < q
    · have hj : i < l.length := by rw [← HQ.out]; exact hlt
      obtain ⟨gL, off, rfl, hgL, k0⟩ := H.out.at i hj
      have k1 := ((O6.out.below.trans (BW.out.mono O6.out.below.size)).cell (p := ⟨gL, off + i, none⟩) hgL).trans k0
      obtain ⟨x, hx⟩ : ∃ x, x = l[i] := ⟨_, rfl⟩
      rw [← hx] at k1
      replace k1 : wr.cell? ⟨gL, off + i, none⟩ = some (.int .i64 x) := k1
      have hstep : ∀ z : Bool, z = (bb || decide (x < 0)) → z = (l.take (i + 1)).any fun x => decide (x < 0) := by
        intro z hz
        rw [hz, HBB.out, List.take_succ_eq_append_getElem hj, ← hx, List.any_append]
        simp
      have HST := Lib.hid hstep; have HLT := Lib.hid hlt
      clear hx k0 hgL hj hstep
      cases bb with
      | true =>
        go_wp2_with fail
        go_roundw
        case rel => exact ⟨i + 1, true, rfl, by go_num, HLT.out, Lib.hid (HST.out true (by simp)), BW⟩
        case measure => have := HLT.out; simp [intOf]; omega
      | false =>
        by_cases hx0 : x < 0
        · have HX0' := Lib.hid hx0
          go_wp2_with fail
          go_roundw
          case rel => exact ⟨i + 1, true, rfl, by go_num, HLT.out, Lib.hid (HST.out true (by simp [HX0'.out])), BW⟩
          case measure => have := HLT.out; simp [intOf]; omega
        · have HX0' := Lib.hid hx0
          go_wp2_with fail
          go_roundw
          case rel => exact ⟨i + 1, false, rfl, by go_num, HLT.out, Lib.hid (HST.out false (by simp [HX0'.out])), BW⟩
          case measure => have := HLT.out; simp [intOf]; omega
    · have hbb : bb = l.any fun x => decide (x < 0) := by
        have h8 := HBB.out
        rwa [List.take_of_length_le (by rw [← HQ.out]; omega)] at h8
      have HBD := Lib.hid hbb
      have O7 := Lib.hid (O6.out.later BW.out); have HX7 := Lib.hid (below_at' BW.out HX6.out)
      clear hbb HBB BW O6 HX6 hin
      go_wp2_with fail
      clear hlt
      refine (ckey_any 3 _).mono ?_
      rintro e w8 ⟨rfl, hb⟩
      have O8 := Lib.hid (O7.out.later hb); have HX8 := Lib.hid (below_at' hb HX7.out)
      clear hb O7 HX7
      go_wp2_with fail
      obtain ⟨F8, h8⟩ := O8.out.get
      refine (row_any (Look.of_st h8) HF3.out.f (ckey 3)).mono ?_
      rw [HALL.out.2.2.2.1]
      obtain ⟨lr, hlr⟩ : ∃ lr, lr = (if ∃ x ∈ l, x < 0 then [] else l) := ⟨_, rfl⟩
      rw [← hlr]
      have HLR := Lib.hid hlr
      clear hlr
      rintro e w9 ⟨vr, rfl, hro, hb⟩
      have hrr : Rd w9 intE 1 vr lr := hro.rd fun _ => rfl
      obtain ⟨adr, capr, e2, c2, c2'⟩ := hrr.shape
      subst e2
      have HRR := Lib.hid hrr; have O9 := Lib.hid (O8.out.later hb); have HX9 := Lib.hid (below_at' hb HX8.out)
      clear hro hrr hb h8 F8 O8 HX8
      obtain ⟨p, hp⟩ : ∃ p, p = lr.length := ⟨_, rfl⟩
      rw [← hp]
      rw [← hp] at c2
      have HRp : Hid (Rd w9 intE 1 (.slice adr p capr) lr) := Lib.hid (by rw [hp]; exact HRR.out)
      clear HRR
      have HRR := HRp
      clear HRp
      have HP := Lib.hid hp
      have hbe : (∃ x ∈ l, x < 0) ↔ bb = true := by rw [HBD.out, List.any_eq_true]; simp only [decide_eq_true_eq]
      have HBE := Lib.hid hbe
      have HK4 := Lib.hid (ckey_ne (n := 4) (by decide) (by decide))
      clear hp hbe
      have n0 : ¬ 0 < n := by have := HN9.out; omega
      have HN0 := Lib.hid n0
      have n1 : n ≤ 0 := by omega
      have n3 : max n 0 = 0 := by omega
      by_cases m0 : m = 0
      · have HM0 := Lib.hid m0
        clear m0
        by_cases l0 : l = []
        · have q0 : ¬ 0 < q := by rw [HQ.out, l0]; decide
          have hl : lr = [] := by rw [HLR.out, l0]; simp
          have hp0 : p = 0 := by rw [HP.out, hl]; rfl
          have HLC := Lib.hid l0
          subst hp0
          clear l0 hl
          have hlen : s3.t.length = 0 := by rw [HALL.out.1, if_neg (show ¬ 0 < n by have := HN0.out; omega), if_pos HM0.out, if_pos (.inl HLC.out)]
          have HLEN := Lib.hid hlen
          clear hlen
          have q1 := Try.eqUn HU.out UIs.zero
          rw [decide_eq_true HM0.out] at q1
          go_wp2_with (refine wpList_load_row rfl 30 _ rfl X rfl 30 _ _ _ HX9.out Try.underlying30 rfl Try.sizeU ?_)
          have OD := Lib.hid (O9.out.later (Below.drew (Below.refl w9.heap.size w9)))
          have RR := Lib.hid (HRR.out.later (Below.drew (Below.refl w9.heap.size w9)))
          have hS : w9.drew.heap[X]? = some (.cells #[.int .u64 a, .int .u64 b, .int .u64 c, .int .u64 d] 30 (0, 0)) := HX9.out
          clear O9 HRR HX9
          refine wp_region_till (fun w' => w'.heap[X]? = some (.cells #[.int .u64 a, .int .u64 b, .int .u64 c, .int .u64 d] 30 (0, 0))) 43 43 (by kernel_rfl) rfl ?_
          refine till_take 0 (some 64) rfl rfl (by kernel_rfl) (by kernel_rfl) (by kernel_rfl) (by kernel_rfl) (by kernel_rfl) (by kernel_rfl) (fun _ _ _ h => h) (.inl ⟨by rfl, fun w' _ => (by go_simp; rfl)⟩) hS ?_
          go_frame
          refine till_take 2 (some 66) rfl rfl (by kernel_rfl) (by kernel_rfl) (by kernel_rfl) (by kernel_rfl) (by kernel_rfl) (by kernel_rfl) (fun _ _ _ h => h) (.inl ⟨by rfl, fun w' _ => (by go_simp; rfl)⟩) hS ?_
          go_frame
          refine till_one 1 rfl (by kernel_rfl) fun K hK => ?_
          simp only [List.getElem_toArray, List.getElem_cons_succ, List.getElem_cons_zero]
          rw [if_pos (by rfl)]
          go_simp
          obtain ⟨Fq, hst⟩ := OD.out.get
          refine (slen_any hst).mono ?_
          rw [HLEN.out]
          rintro e wx ⟨rfl, rfl⟩
          clear hst
          refine hK _ _ (fun _ _ => hS) ?_
          clear hK
          refine till_take 3 (some 67) rfl rfl (by kernel_rfl) (by kernel_rfl) (by kernel_rfl) (by kernel_rfl) (by kernel_rfl) (by kernel_rfl) (fun _ _ _ h => h) (.inl ⟨by rfl, fun w' _ => (by go_simp; rfl)⟩) hS ?_
          go_frame
          refine till_take 4 (some 68) rfl rfl (by kernel_rfl) (by kernel_rfl) (by kernel_rfl) (by kernel_rfl) (by kernel_rfl) (by kernel_rfl) (fun _ _ _ h => h) (.inl ⟨by rfl, fun w' _ => (by go_simp; rfl)⟩) hS ?_
          go_frame
          refine till_take 5 (some 69) rfl rfl (by kernel_rfl) (by kernel_rfl) (by kernel_rfl) (by kernel_rfl) (by kernel_rfl) (by kernel_rfl) (fun _ _ _ h => h) (.inl ⟨by rfl, fun w' _ => (by go_simp; rfl)⟩) hS ?_
          go_frame
          refine till_take 8 (some 72) rfl rfl (by kernel_rfl) (by kernel_rfl) (by kernel_rfl) (by kernel_rfl) (by kernel_rfl) (by kernel_rfl) (fun _ _ _ h => h) (.inl ⟨by rfl, fun w' _ => (by go_simp; rfl)⟩) hS ?_
          go_frame
          refine till_take 9 (some 73) rfl rfl (by kernel_rfl) (by kernel_rfl) (by kernel_rfl) (by kernel_rfl) (by kernel_rfl) (by kernel_rfl) (fun _ _ _ h => h) (.inl ⟨by rfl, fun w' _ => (by go_simp; rfl)⟩) hS ?_
          go_frame
          refine till_one 6 rfl (by kernel_rfl) fun K hK => ?_
          simp only [List.getElem_toArray, List.getElem_cons_succ, List.getElem_cons_zero]
          rw [if_pos (by rfl)]
          go_simp
          refine (ckey_any 1 _).mono ?_
          rintro e wa ⟨rfl, hb⟩
          have hS2 := below_at' hb hS
          have ODn := Lib.hid (OD.out.later hb); have RRn := Lib.hid (RR.out.later hb)
          refine hK _ _ (fun _ _ => hS2) ?_
          clear hK hS hb OD RR
          have hS := hS2
          have OD := ODn
          have RR := RRn
          clear hS2 ODn RRn
          refine till_one 7 rfl (by kernel_rfl) fun K hK => ?_
          simp only [List.getElem_toArray, List.getElem_cons_succ, List.getElem_cons_zero]
          rw [if_pos (by rfl)]
          go_simp
          obtain ⟨Fq, hst⟩ := OD.out.get
          refine (int_any (Look.of_st hst) HF3.out.f (ckey 1)).mono ?_
          rw [HALL.out.2.1, if_neg (show ¬ 0 < n by have := HN0.out; omega)]
          rintro e wb ⟨rfl, hb⟩
          have hS2 := below_at' hb hS
          have ODn := Lib.hid (OD.out.later hb); have RRn := Lib.hid (RR.out.later hb)
          clear hst
          refine hK _ _ (fun _ _ => hS2) ?_
          clear hK hS hb OD RR
          have hS := hS2
          have OD := ODn
          have RR := RRn
          clear hS2 ODn RRn
          refine till_take 10 (some 74) rfl rfl (by kernel_rfl) (by kernel_rfl) (by kernel_rfl) (by kernel_rfl) (by kernel_rfl) (by kernel_rfl) (fun _ _ _ h => h) (.inl ⟨by rfl, fun w' _ => (by go_simp; rfl)⟩) hS ?_
          go_frame
          refine till_take 11 (some 75) rfl rfl (by kernel_rfl) (by kernel_rfl) (by kernel_rfl) (by kernel_rfl) (by kernel_rfl) (by kernel_rfl) (fun _ _ _ h => h) (.inl ⟨by rfl, fun w' _ => (by go_simp; rfl)⟩) hS ?_
          go_frame
          refine till_take 12 (some 76) rfl rfl (by kernel_rfl) (by kernel_rfl) (by kernel_rfl) (by kernel_rfl) (by kernel_rfl) (by kernel_rfl) (fun _ _ _ h => h) (.inl ⟨by rfl, fun w' _ => (by go_simp; rfl)⟩) hS ?_
          go_frame
          refine till_take 13 (some 77) rfl rfl (by kernel_rfl) (by kernel_rfl) (by kernel_rfl) (by kernel_rfl) (by kernel_rfl) (by kernel_rfl) (fun _ _ _ h => h) (.inl ⟨by rfl, fun w' _ => (by go_simp; rfl)⟩) hS ?_
          go_frame
          refine till_take 16 (some 80) rfl rfl (by kernel_rfl) (by kernel_rfl) (by kernel_rfl) (by kernel_rfl) (by kernel_rfl) (by kernel_rfl) (fun _ _ _ h => h) (yields_load (by rfl) 30 _ rfl (.pointer (some ⟨X, 0, none⟩)) rfl (.agg #[.int .u64 a, .int .u64 b, .int .u64 c, .int .u64 d]) (fun w' hS' => load_heap hS' Try.underlying30 rfl Try.sizeU)) hS ?_
          go_frame
          refine till_one 14 rfl (by kernel_rfl) fun K hK => ?_
          simp only [List.getElem_toArray, List.getElem_cons_succ, List.getElem_cons_zero]
          rw [if_pos (by rfl)]
          go_simp
          refine (ckey_any 2 _).mono ?_
          rintro e wc ⟨rfl, hb⟩
          have hS2 := below_at' hb hS
          have ODn := Lib.hid (OD.out.later hb); have RRn := Lib.hid (RR.out.later hb)
          refine hK _ _ (fun _ _ => hS2) ?_
          clear hK hS hb OD RR
          have hS := hS2
          have OD := ODn
          have RR := RRn
          clear hS2 ODn RRn
          refine till_one 15 rfl (by kernel_rfl) fun K hK => ?_
          simp only [List.getElem_toArray, List.getElem_cons_succ, List.getElem_cons_zero]
          rw [if_pos (by rfl)]
          go_simp
          obtain ⟨Fq, hst⟩ := OD.out.get
          refine (camount_any (Look.of_st hst) HF3.out.f (ckey 2)).mono ?_
          rw [HALL.out.2.2.1]
          rintro e wd ⟨xa, xb, xc, xd, hu1, rfl, hb⟩
          have hS2 := below_at' hb hS
          have ODn := Lib.hid (OD.out.later hb); have RRn := Lib.hid (RR.out.later hb)
          have q2 := Try.eqUn hu1 HU.out
          rw [decide_eq_true rfl] at q2
          clear hu1
          clear hst
          refine hK _ _ (fun _ _ => hS2) ?_
          clear hK hS hb OD RR
          have hS := hS2
          have OD := ODn
          have RR := RRn
          clear hS2 ODn RRn
          refine till_take 17 (some 81) rfl rfl (by kernel_rfl) (by kernel_rfl) (by kernel_rfl) (by kernel_rfl) (by kernel_rfl) (by kernel_rfl) (fun _ _ _ h => h) (.inl ⟨by rfl, fun w' _ => (by go_simp; rfl)⟩) hS ?_
          go_frame
          refine till_take 18 (some 82) rfl rfl (by kernel_rfl) (by kernel_rfl) (by kernel_rfl) (by kernel_rfl) (by kernel_rfl) (by kernel_rfl) (fun _ _ _ h => h) (.inl ⟨by rfl, fun w' _ => (by go_simp; rfl)⟩) hS ?_
          go_frame
          refine till_take 19 (some 83) rfl rfl (by kernel_rfl) (by kernel_rfl) (by kernel_rfl) (by kernel_rfl) (by kernel_rfl) (by kernel_rfl) (fun _ _ _ h => h) (.inl ⟨by rfl, fun w' _ => (by go_simp; rfl)⟩) hS ?_
          go_frame
          refine till_take 20 (some 84) rfl rfl (by kernel_rfl) (by kernel_rfl) (by kernel_rfl) (by kernel_rfl) (by kernel_rfl) (by kernel_rfl) (fun _ _ _ h => h) (.inl ⟨by rfl, fun w' _ => (by go_simp; rfl)⟩) hS ?_
          go_frame
          refine till_take 21 (some 85) rfl rfl (by kernel_rfl) (by kernel_rfl) (by kernel_rfl) (by kernel_rfl) (by kernel_rfl) (by kernel_rfl) (fun _ _ _ h => h) (.inl ⟨by rfl, fun w' _ => (by go_simp; rfl)⟩) hS ?_
          go_frame
          refine till_take 22 (some 86) rfl rfl (by kernel_rfl) (by kernel_rfl) (by kernel_rfl) (by kernel_rfl) (by kernel_rfl) (by kernel_rfl) (fun _ _ _ h => h) (.inl ⟨by rfl, fun w' _ => (by go_simp; rfl)⟩) hS ?_
          go_frame
          refine till_take 23 (some 87) rfl rfl (by kernel_rfl) (by kernel_rfl) (by kernel_rfl) (by kernel_rfl) (by kernel_rfl) (by kernel_rfl) (fun _ _ _ h => h) (.inl ⟨by rfl, fun w' _ => (by go_simp; rfl)⟩) hS ?_
          go_frame
          refine till_take 24 (some 88) rfl rfl (by kernel_rfl) (by kernel_rfl) (by kernel_rfl) (by kernel_rfl) (by kernel_rfl) (by kernel_rfl) (fun _ _ _ h => h) (.inr ⟨by rfl, rfl⟩) hS ?_
          go_frame
          refine till_take 25 (some 89) rfl rfl (by kernel_rfl) (by kernel_rfl) (by kernel_rfl) (by kernel_rfl) (by kernel_rfl) (by kernel_rfl) (fun _ _ _ h => h) (.inr ⟨by rfl, rfl⟩) hS ?_
          go_frame
          refine till_take 26 (some 90) rfl rfl (by kernel_rfl) (by kernel_rfl) (by kernel_rfl) (by kernel_rfl) (by kernel_rfl) (by kernel_rfl) (fun _ _ _ h => h) (.inr ⟨by rfl, rfl⟩) hS ?_
          go_frame
          refine till_take 27 (some 91) rfl rfl (by kernel_rfl) (by kernel_rfl) (by kernel_rfl) (by kernel_rfl) (by kernel_rfl) (by kernel_rfl) (fun _ _ _ h => h) (.inr ⟨by rfl, rfl⟩) hS ?_
          go_frame
          refine till_take 28 (some 92) rfl rfl (by kernel_rfl) (by kernel_rfl) (by kernel_rfl) (by kernel_rfl) (by kernel_rfl) (by kernel_rfl) (fun _ _ _ h => h) (.inl ⟨by rfl, fun w' _ => (by go_simp; rfl)⟩) hS ?_
          go_frame
          refine till_take 29 (some 93) rfl rfl (by kernel_rfl) (by kernel_rfl) (by kernel_rfl) (by kernel_rfl) (by kernel_rfl) (by kernel_rfl) (fun _ _ _ h => h) (.inl ⟨by rfl, fun w' _ => (by go_simp; rfl)⟩) hS ?_
          go_frame
          refine till_take 30 (some 94) rfl rfl (by kernel_rfl) (by kernel_rfl) (by kernel_rfl) (by kernel_rfl) (by kernel_rfl) (by kernel_rfl) (fun _ _ _ h => h) (.inl ⟨by rfl, fun w' _ => (by go_simp; rfl)⟩) hS ?_
          go_frame
          refine till_take 31 (some 95) rfl rfl (by kernel_rfl) (by kernel_rfl) (by kernel_rfl) (by kernel_rfl) (by kernel_rfl) (by kernel_rfl) (fun _ _ _ h => h) (.inl ⟨by rfl, fun w' _ => (by go_simp; rfl)⟩) hS ?_
          go_frame
          refine till_take 32 (some 96) rfl rfl (by kernel_rfl) (by kernel_rfl) (by kernel_rfl) (by kernel_rfl) (by kernel_rfl) (by kernel_rfl) (fun _ _ _ h => h) (.inl ⟨by rfl, fun w' _ => (by go_simp; rfl)⟩) hS ?_
          go_frame
          refine till_take 33 (some 97) rfl rfl (by kernel_rfl) (by kernel_rfl) (by kernel_rfl) (by kernel_rfl) (by kernel_rfl) (by kernel_rfl) (fun _ _ _ h => h) (.inl ⟨by rfl, fun w' _ => (by go_simp; rfl)⟩) hS ?_
          go_frame
          refine till_take 34 (some 98) rfl rfl (by kernel_rfl) (by kernel_rfl) (by kernel_rfl) (by kernel_rfl) (by kernel_rfl) (by kernel_rfl) (fun _ _ _ h => h) (.inl ⟨by rfl, fun w' _ => (by go_simp; rfl)⟩) hS ?_
          go_frame
          refine till_take 35 (some 99) rfl rfl (by kernel_rfl) (by kernel_rfl) (by kernel_rfl) (by kernel_rfl) (by kernel_rfl) (by kernel_rfl) (fun _ _ _ h => h) (.inl ⟨by rfl, fun w' _ => (by go_simp; rfl)⟩) hS ?_
          go_frame
          refine till_take 36 (some 100) rfl rfl (by kernel_rfl) (by kernel_rfl) (by kernel_rfl) (by kernel_rfl) (by kernel_rfl) (by kernel_rfl) (fun _ _ _ h => h) (.inl ⟨by rfl, fun w' _ => (by go_simp; rfl)⟩) hS ?_
          go_frame
          refine till_take 37 (some 101) rfl rfl (by kernel_rfl) (by kernel_rfl) (by kernel_rfl) (by kernel_rfl) (by kernel_rfl) (by kernel_rfl) (fun _ _ _ h => h) (.inl ⟨by rfl, fun w' _ => (by go_simp; rfl)⟩) hS ?_
          go_frame
          refine till_take 38 (some 102) rfl rfl (by kernel_rfl) (by kernel_rfl) (by kernel_rfl) (by kernel_rfl) (by kernel_rfl) (by kernel_rfl) (fun _ _ _ h => h) (.inr ⟨by rfl, rfl⟩) hS ?_
          go_frame
          refine till_take 39 (some 103) rfl rfl (by kernel_rfl) (by kernel_rfl) (by kernel_rfl) (by kernel_rfl) (by kernel_rfl) (by kernel_rfl) (fun _ _ _ h => h) (.inr ⟨by rfl, rfl⟩) hS ?_
          go_frame
          refine till_take 40 (some 104) rfl rfl (by kernel_rfl) (by kernel_rfl) (by kernel_rfl) (by kernel_rfl) (by kernel_rfl) (by kernel_rfl) (fun _ _ _ h => h) (.inl ⟨by rfl, fun w' _ => (by go_simp; rfl)⟩) hS ?_
          go_frame
          refine till_take 41 (some 105) rfl rfl (by kernel_rfl) (by kernel_rfl) (by kernel_rfl) (by kernel_rfl) (by kernel_rfl) (by kernel_rfl) (fun _ _ _ h => h) (.inl ⟨by rfl, fun w' _ => (by go_simp; rfl)⟩) hS ?_
          go_frame
          refine till_take 42 (some 106) rfl rfl (by kernel_rfl) (by kernel_rfl) (by kernel_rfl) (by kernel_rfl) (by kernel_rfl) (by kernel_rfl) (fun _ _ _ h => h) (.inl ⟨by rfl, fun w' _ => (by go_simp; rfl)⟩) hS ?_
          go_frame
          refine till_done (by kernel_rfl) ?_ _
          clear q1 q2
          clear RR
          have HXa := Lib.hid hS
          clear hS
          by_cases hh : m < uHalf
          · have hadd := back_add HU.out.lt HALL.out.2.2.2.2 HK4.out hh
            have HADD := Lib.hid hadd
            clear hadd hh
            go_wp2_with fail
            have ODx := Lib.hid (OD.out.later (Below.drew (Below.refl wd.heap.size wd)))
            have hS : wd.drew.heap[X]? = some (.cells #[.int .u64 a, .int .u64 b, .int .u64 c, .int .u64 d] 30 (0, 0)) := HXa.out
            clear OD HXa
            have OD := ODx
            clear ODx
            refine wp_region_till (fun w' => w'.heap[X]? = some (.cells #[.int .u64 a, .int .u64 b, .int .u64 c, .int .u64 d] 30 (0, 0))) 5 5 (by kernel_rfl) rfl ?_
            refine till_take 0 (some 107) rfl rfl (by kernel_rfl) (by kernel_rfl) (by kernel_rfl) (by kernel_rfl) (by kernel_rfl) (by kernel_rfl) (fun _ _ _ h => h) (.inl ⟨by rfl, fun w' _ => (by go_simp; rfl)⟩) hS ?_
            go_frame
            refine till_take 2 (some 109) rfl rfl (by kernel_rfl) (by kernel_rfl) (by kernel_rfl) (by kernel_rfl) (by kernel_rfl) (by kernel_rfl) (fun _ _ _ h => h) (yields_load (by rfl) 30 _ rfl (.pointer (some ⟨X, 0, none⟩)) rfl (.agg #[.int .u64 a, .int .u64 b, .int .u64 c, .int .u64 d]) (fun w' hS' => load_heap hS' Try.underlying30 rfl Try.sizeU)) hS ?_
            go_frame
            refine till_one 1 rfl (by kernel_rfl) fun K hK => ?_
            simp only [List.getElem_toArray, List.getElem_cons_succ, List.getElem_cons_zero]
            rw [if_pos (by rfl)]
            go_simp
            refine (ckey_any 4 _).mono ?_
            rintro e wf ⟨rfl, hb⟩
            have hS2 := below_at' hb hS
            have ODn := Lib.hid (OD.out.later hb)
            refine hK _ _ (fun _ _ => hS2) ?_
            clear hK hS hb OD
            have hS := hS2
            have OD := ODn
            clear hS2 ODn
            refine till_one 3 rfl (by kernel_rfl) fun K hK => ?_
            simp only [List.getElem_toArray, List.getElem_cons_succ, List.getElem_cons_zero]
            rw [if_pos (by rfl)]
            go_simp
            refine (OD.out.st fun F hs => cadd_any hs (by have := HZ.out.2.2; omega) HF3.out (ckey 4) HU.out).mono ?_
            rw [HADD.out.1]
            rintro e wg ⟨rfl, o, hoth⟩
            have hS2 := hoth.2 X _ hS rfl rfl
            have ODn := Lib.hid o
            refine hK _ _ (fun _ _ => hS2) ?_
            clear hK hS hoth OD o
            have hS := hS2
            have OD := ODn
            clear hS2 ODn
            refine till_take 4 (some 13) rfl rfl (by kernel_rfl) (by kernel_rfl) (by kernel_rfl) (by kernel_rfl) (by kernel_rfl) (by kernel_rfl) (fun _ _ _ h => h) (.inl ⟨by rfl, fun w' _ => (by go_simp; rfl)⟩) hS ?_
            go_frame
            refine till_done (by kernel_rfl) ?_ _
            have HXb := Lib.hid hS
            clear hS
            go_wp2_with fail
            have ODx := Lib.hid (OD.out.later (Below.drew (Below.refl wg.heap.size wg)))
            have hS : wg.drew.heap[X]? = some (.cells #[.int .u64 a, .int .u64 b, .int .u64 c, .int .u64 d] 30 (0, 0)) := HXb.out
            clear OD HXb
            have OD := ODx
            clear ODx
            refine wp_region_till (fun w' => w'.heap[X]? = some (.cells #[.int .u64 a, .int .u64 b, .int .u64 c, .int .u64 d] 30 (0, 0))) 23 23 (by kernel_rfl) rfl ?_
            refine till_take 0 (some 111) rfl rfl (by kernel_rfl) (by kernel_rfl) (by kernel_rfl) (by kernel_rfl) (by kernel_rfl) (by kernel_rfl) (fun _ _ _ h => h) (.inl ⟨by rfl, fun w' _ => (by go_simp; rfl)⟩) hS ?_
            go_frame
            refine till_take 1 (some 112) rfl rfl (by kernel_rfl) (by kernel_rfl) (by kernel_rfl) (by kernel_rfl) (by kernel_rfl) (by kernel_rfl) (fun _ _ _ h => h) (.inl ⟨by rfl, fun w' _ => (by go_simp; rfl)⟩) hS ?_
            go_frame
            refine till_take 2 (some 113) rfl rfl (by kernel_rfl) (by kernel_rfl) (by kernel_rfl) (by kernel_rfl) (by kernel_rfl) (by kernel_rfl) (fun _ _ _ h => h) (.inl ⟨by rfl, fun w' _ => (by go_simp; rfl)⟩) hS ?_
            go_frame
            refine till_take 3 (some 114) rfl rfl (by kernel_rfl) (by kernel_rfl) (by kernel_rfl) (by kernel_rfl) (by kernel_rfl) (by kernel_rfl) (fun _ _ _ h => h) (.inl ⟨by rfl, fun w' _ => (by go_simp; rfl)⟩) hS ?_
            go_frame
            refine till_take 6 (some 117) rfl rfl (by kernel_rfl) (by kernel_rfl) (by kernel_rfl) (by kernel_rfl) (by kernel_rfl) (by kernel_rfl) (fun _ _ _ h => h) (yields_load (by rfl) 30 _ rfl (.pointer (some ⟨X, 0, none⟩)) rfl (.agg #[.int .u64 a, .int .u64 b, .int .u64 c, .int .u64 d]) (fun w' hS' => load_heap hS' Try.underlying30 rfl Try.sizeU)) hS ?_
            go_frame
            refine till_one 4 rfl (by kernel_rfl) fun K hK => ?_
            simp only [List.getElem_toArray, List.getElem_cons_succ, List.getElem_cons_zero]
            rw [if_pos (by rfl)]
            go_simp
            refine (ckey_any 4 _).mono ?_
            rintro e wh ⟨rfl, hb⟩
            have hS2 := below_at' hb hS
            have ODn := Lib.hid (OD.out.later hb)
            refine hK _ _ (fun _ _ => hS2) ?_
            clear hK hS hb OD
            have hS := hS2
            have OD := ODn
            clear hS2 ODn
            refine till_one 5 rfl (by kernel_rfl) fun K hK => ?_
            simp only [List.getElem_toArray, List.getElem_cons_succ, List.getElem_cons_zero]
            rw [if_pos (by rfl)]
            go_simp
            obtain ⟨Fq, hst⟩ := OD.out.get
            refine (camount_any (Look.of_st hst) (HF3.out.addA _ _).f (ckey 4)).mono ?_
            rw [HADD.out.2.1]
            rintro e wi ⟨xa, xb, xc, xd, hu1, rfl, hb⟩
            have hS2 := below_at' hb hS
            have ODn := Lib.hid (OD.out.later hb)
            have q2 := Try.eqUn hu1 HU.out
            rw [decide_eq_true rfl] at q2
            clear hu1 hst
            refine hK _ _ (fun _ _ => hS2) ?_
            clear hK hS hb OD
            have hS := hS2
            have OD := ODn
            clear hS2 ODn
            refine till_take 7 (some 118) rfl rfl (by kernel_rfl) (by kernel_rfl) (by kernel_rfl) (by kernel_rfl) (by kernel_rfl) (by kernel_rfl) (fun _ _ _ h => h) (.inl ⟨by rfl, fun w' _ => (by go_simp; rfl)⟩) hS ?_
            go_frame
            refine till_take 8 (some 119) rfl rfl (by kernel_rfl) (by kernel_rfl) (by kernel_rfl) (by kernel_rfl) (by kernel_rfl) (by kernel_rfl) (fun _ _ _ h => h) (.inl ⟨by rfl, fun w' _ => (by go_simp; rfl)⟩) hS ?_
            go_frame
            refine till_take 9 (some 120) rfl rfl (by kernel_rfl) (by kernel_rfl) (by kernel_rfl) (by kernel_rfl) (by kernel_rfl) (by kernel_rfl) (fun _ _ _ h => h) (.inl ⟨by rfl, fun w' _ => (by go_simp; rfl)⟩) hS ?_
            go_frame
            refine till_take 11 (some 122) rfl rfl (by kernel_rfl) (by kernel_rfl) (by kernel_rfl) (by kernel_rfl) (by kernel_rfl) (by kernel_rfl) (fun _ _ _ h => h) (yields_load (by rfl) 30 _ rfl (.pointer (some ⟨X, 0, none⟩)) rfl (.agg #[.int .u64 a, .int .u64 b, .int .u64 c, .int .u64 d]) (fun w' hS' => load_heap hS' Try.underlying30 rfl Try.sizeU)) hS ?_
            go_frame
            refine till_one 10 rfl (by kernel_rfl) fun K hK => ?_
            simp only [List.getElem_toArray, List.getElem_cons_succ, List.getElem_cons_zero]
            rw [if_pos (by rfl)]
            go_simp
            refine (ckey_any 4 _).mono ?_
            rintro e wj ⟨rfl, hb⟩
            have hS2 := below_at' hb hS
            have ODn := Lib.hid (OD.out.later hb)
            refine hK _ _ (fun _ _ => hS2) ?_
            clear hK hS hb OD
            have hS := hS2
            have OD := ODn
            clear hS2 ODn
            refine till_one 12 rfl (by kernel_rfl) fun K hK => ?_
            simp only [List.getElem_toArray, List.getElem_cons_succ, List.getElem_cons_zero]
            rw [if_pos (by rfl)]
            go_simp
            refine (OD.out.st fun F hs => csub_any hs (by have := HZ.out.2.2; have := sz_addA s3 (ckey 4) m; omega) (HF3.out.addA _ _) (ckey 4) HU.out).mono ?_
            rw [HADD.out.2.2.1]
            rintro e wk ⟨rfl, o, hoth⟩
            have hS2 := hoth.2 X _ hS rfl rfl
            have ODn := Lib.hid o
            refine hK _ _ (fun _ _ => hS2) ?_
            clear hK hS hoth OD o
            have hS := hS2
            have OD := ODn
            clear hS2 ODn
            refine till_take 13 (some 124) rfl rfl (by kernel_rfl) (by kernel_rfl) (by kernel_rfl) (by kernel_rfl) (by kernel_rfl) (by kernel_rfl) (fun _ _ _ h => h) (.inl ⟨by rfl, fun w' _ => (by go_simp; rfl)⟩) hS ?_
            go_frame
            refine till_take 14 (some 125) rfl rfl (by kernel_rfl) (by kernel_rfl) (by kernel_rfl) (by kernel_rfl) (by kernel_rfl) (by kernel_rfl) (fun _ _ _ h => h) (.inl ⟨by rfl, fun w' _ => (by go_simp; rfl)⟩) hS ?_
            go_frame
            refine till_take 15 (some 126) rfl rfl (by kernel_rfl) (by kernel_rfl) (by kernel_rfl) (by kernel_rfl) (by kernel_rfl) (by kernel_rfl) (fun _ _ _ h => h) (.inl ⟨by rfl, fun w' _ => (by go_simp; rfl)⟩) hS ?_
            go_frame
            refine till_take 16 (some 127) rfl rfl (by kernel_rfl) (by kernel_rfl) (by kernel_rfl) (by kernel_rfl) (by kernel_rfl) (by kernel_rfl) (fun _ _ _ h => h) (.inl ⟨by rfl, fun w' _ => (by go_simp; rfl)⟩) hS ?_
            go_frame
            refine till_take 19 (some 130) rfl rfl (by kernel_rfl) (by kernel_rfl) (by kernel_rfl) (by kernel_rfl) (by kernel_rfl) (by kernel_rfl) (fun _ _ _ h => h) (.inl ⟨by rfl, fun w' _ => (by go_simp; rfl)⟩) hS ?_
            go_frame
            refine till_one 17 rfl (by kernel_rfl) fun K hK => ?_
            simp only [List.getElem_toArray, List.getElem_cons_succ, List.getElem_cons_zero]
            rw [if_pos (by rfl)]
            go_simp
            refine (ckey_any 4 _).mono ?_
            rintro e wl ⟨rfl, hb⟩
            have hS2 := below_at' hb hS
            have ODn := Lib.hid (OD.out.later hb)
            refine hK _ _ (fun _ _ => hS2) ?_
            clear hK hS hb OD
            have hS := hS2
            have OD := ODn
            clear hS2 ODn
            refine till_one 18 rfl (by kernel_rfl) fun K hK => ?_
            simp only [List.getElem_toArray, List.getElem_cons_succ, List.getElem_cons_zero]
            rw [if_pos (by rfl)]
            go_simp
            obtain ⟨Fq, hst⟩ := OD.out.get
            refine (camount_any (Look.of_st hst) ((HF3.out.addA _ _).subA _ _).f (ckey 4)).mono ?_
            rw [HADD.out.2.2.2]
            rintro e wm ⟨ya, yb, yc, yd, hu1, rfl, hb⟩
            have hS2 := below_at' hb hS
            have ODn := Lib.hid (OD.out.later hb)
            have q3 := Try.eqUn hu1 UIs.zero
            rw [decide_eq_true rfl] at q3
            clear hu1 hst
            refine hK _ _ (fun _ _ => hS2) ?_
            clear hK hS hb OD
            have hS := hS2
            have OD := ODn
            clear hS2 ODn
            refine till_take 20 (some 131) rfl rfl (by kernel_rfl) (by kernel_rfl) (by kernel_rfl) (by kernel_rfl) (by kernel_rfl) (by kernel_rfl) (fun _ _ _ h => h) (.inl ⟨by rfl, fun w' _ => (by go_simp; rfl)⟩) hS ?_
            go_frame
            refine till_take 21 (some 132) rfl rfl (by kernel_rfl) (by kernel_rfl) (by kernel_rfl) (by kernel_rfl) (by kernel_rfl) (by kernel_rfl) (fun _ _ _ h => h) (.inl ⟨by rfl, fun w' _ => (by go_simp; rfl)⟩) hS ?_
            go_frame
            refine till_take 22 (some 133) rfl rfl (by kernel_rfl) (by kernel_rfl) (by kernel_rfl) (by kernel_rfl) (by kernel_rfl) (by kernel_rfl) (fun _ _ _ h => h) (.inl ⟨by rfl, fun w' _ => (by go_simp; rfl)⟩) hS ?_
            go_frame
            refine till_done (by kernel_rfl) ?_ _
            clear hS
            go_wp2_with fail
            refine (lives10_any _).mono ?_
            rintro e wz ⟨rfl, hb⟩
            have HBF := Lib.hid (OD.out.below.trans (hb.mono OD.out.below.size))
            clear hb
            go_wp2_with fail
            go_ret
            exact ⟨rfl, HBF.out⟩
          · have hadd := back_no HALL.out.2.2.2.2 HK4.out hh
            have HADD := Lib.hid hadd
            clear hadd hh
            go_wp2_with fail
            have ODx := Lib.hid (OD.out.later (Below.drew (Below.refl wd.heap.size wd)))
            have hS : wd.drew.heap[X]? = some (.cells #[.int .u64 a, .int .u64 b, .int .u64 c, .int .u64 d] 30 (0, 0)) := HXa.out
            clear OD HXa
            have OD := ODx
            clear ODx
            refine wp_region_till (fun w' => w'.heap[X]? = some (.cells #[.int .u64 a, .int .u64 b, .int .u64 c, .int .u64 d] 30 (0, 0))) 5 5 (by kernel_rfl) rfl ?_
            refine till_take 0 (some 107) rfl rfl (by kernel_rfl) (by kernel_rfl) (by kernel_rfl) (by kernel_rfl) (by kernel_rfl) (by kernel_rfl) (fun _ _ _ h => h) (.inl ⟨by rfl, fun w' _ => (by go_simp; rfl)⟩) hS ?_
            go_frame
            refine till_take 2 (some 109) rfl rfl (by kernel_rfl) (by kernel_rfl) (by kernel_rfl) (by kernel_rfl) (by kernel_rfl) (by kernel_rfl) (fun _ _ _ h => h) (yields_load (by rfl) 30 _ rfl (.pointer (some ⟨X, 0, none⟩)) rfl (.agg #[.int .u64 a, .int .u64 b, .int .u64 c, .int .u64 d]) (fun w' hS' => load_heap hS' Try.underlying30 rfl Try.sizeU)) hS ?_
            go_frame
            refine till_one 1 rfl (by kernel_rfl) fun K hK => ?_
            simp only [List.getElem_toArray, List.getElem_cons_succ, List.getElem_cons_zero]
            rw [if_pos (by rfl)]
            go_simp
            refine (ckey_any 4 _).mono ?_
            rintro e wf ⟨rfl, hb⟩
            have hS2 := below_at' hb hS
            have ODn := Lib.hid (OD.out.later hb)
            refine hK _ _ (fun _ _ => hS2) ?_
            clear hK hS hb OD
            have hS := hS2
            have OD := ODn
            clear hS2 ODn
            refine till_one 3 rfl (by kernel_rfl) fun K hK => ?_
            simp only [List.getElem_toArray, List.getElem_cons_succ, List.getElem_cons_zero]
            rw [if_pos (by rfl)]
            go_simp
            refine (OD.out.st fun F hs => cadd_any hs (by have := HZ.out.2.2; omega) HF3.out (ckey 4) HU.out).mono ?_
            rw [HADD.out]
            rintro e wg ⟨rfl, o, hoth⟩
            have hS2 := hoth.2 X _ hS rfl rfl
            have ODn := Lib.hid o
            refine hK _ _ (fun _ _ => hS2) ?_
            clear hK hS hoth OD o
            have hS := hS2
            have OD := ODn
            clear hS2 ODn
            refine till_take 4 (some 13) rfl rfl (by kernel_rfl) (by kernel_rfl) (by kernel_rfl) (by kernel_rfl) (by kernel_rfl) (by kernel_rfl) (fun _ _ _ h => h) (.inl ⟨by rfl, fun w' _ => (by go_simp; rfl)⟩) hS ?_
            go_frame
            refine till_done (by kernel_rfl) ?_ _
            have HXb := Lib.hid hS
            clear hS
            go_wp2_with fail
            have ODx := Lib.hid (OD.out.later (Below.drew (Below.refl wg.heap.size wg)))
            have hS : wg.drew.heap[X]? = some (.cells #[.int .u64 a, .int .u64 b, .int .u64 c, .int .u64 d] 30 (0, 0)) := HXb.out
            clear OD HXb
            have OD := ODx
            clear ODx
            refine wp_region_till (fun w' => w'.heap[X]? = some (.cells #[.int .u64 a, .int .u64 b, .int .u64 c, .int .u64 d] 30 (0, 0))) 23 23 (by kernel_rfl) rfl ?_
            refine till_take 0 (some 111) rfl rfl (by kernel_rfl) (by kernel_rfl) (by kernel_rfl) (by kernel_rfl) (by kernel_rfl) (by kernel_rfl) (fun _ _ _ h => h) (.inl ⟨by rfl, fun w' _ => (by go_simp; rfl)⟩) hS ?_
            go_frame
            refine till_take 1 (some 112) rfl rfl (by kernel_rfl) (by kernel_rfl) (by kernel_rfl) (by kernel_rfl) (by kernel_rfl) (by kernel_rfl) (fun _ _ _ h => h) (.inl ⟨by rfl, fun w' _ => (by go_simp; rfl)⟩) hS ?_
            go_frame
            refine till_take 2 (some 113) rfl rfl (by kernel_rfl) (by kernel_rfl) (by kernel_rfl) (by kernel_rfl) (by kernel_rfl) (by kernel_rfl) (fun _ _ _ h => h) (.inl ⟨by rfl, fun w' _ => (by go_simp; rfl)⟩) hS ?_
            go_frame
            refine till_take 3 (some 114) rfl rfl (by kernel_rfl) (by kernel_rfl) (by kernel_rfl) (by kernel_rfl) (by kernel_rfl) (by kernel_rfl) (fun _ _ _ h => h) (.inr ⟨by rfl, rfl⟩) hS ?_
            go_frame
            refine till_take 4 (some 115) rfl rfl (by kernel_rfl) (by kernel_rfl) (by kernel_rfl) (by kernel_rfl) (by kernel_rfl) (by kernel_rfl) (fun _ _ _ h => h) (.inr ⟨by rfl, rfl⟩) hS ?_
            go_frame
            refine till_take 5 (some 116) rfl rfl (by kernel_rfl) (by kernel_rfl) (by kernel_rfl) (by kernel_rfl) (by kernel_rfl) (by kernel_rfl) (fun _ _ _ h => h) (.inr ⟨by rfl, rfl⟩) hS ?_
            go_frame
            refine till_take 6 (some 117) rfl rfl (by kernel_rfl) (by kernel_rfl) (by kernel_rfl) (by kernel_rfl) (by kernel_rfl) (by kernel_rfl) (fun _ _ _ h => h) (.inr ⟨by rfl, rfl⟩) hS ?_
            go_frame
            refine till_take 7 (some 118) rfl rfl (by kernel_rfl) (by kernel_rfl) (by kernel_rfl) (by kernel_rfl) (by kernel_rfl) (by kernel_rfl) (fun _ _ _ h => h) (.inr ⟨by rfl, rfl⟩) hS ?_
            go_frame
            refine till_take 8 (some 119) rfl rfl (by kernel_rfl) (by kernel_rfl) (by kernel_rfl) (by kernel_rfl) (by kernel_rfl) (by kernel_rfl) (fun _ _ _ h => h) (.inr ⟨by rfl, rfl⟩) hS ?_
            go_frame
            refine till_take 9 (some 120) rfl rfl (by kernel_rfl) (by kernel_rfl) (by kernel_rfl) (by kernel_rfl) (by kernel_rfl) (by kernel_rfl) (fun _ _ _ h => h) (.inr ⟨by rfl, rfl⟩) hS ?_
            go_frame
            refine till_take 10 (some 121) rfl rfl (by kernel_rfl) (by kernel_rfl) (by kernel_rfl) (by kernel_rfl) (by kernel_rfl) (by kernel_rfl) (fun _ _ _ h => h) (.inr ⟨by rfl, rfl⟩) hS ?_
            go_frame
            refine till_take 11 (some 122) rfl rfl (by kernel_rfl) (by kernel_rfl) (by kernel_rfl) (by kernel_rfl) (by kernel_rfl) (by kernel_rfl) (fun _ _ _ h => h) (.inr ⟨by rfl, rfl⟩) hS ?_
            go_frame
            refine till_take 12 (some 123) rfl rfl (by kernel_rfl) (by kernel_rfl) (by kernel_rfl) (by kernel_rfl) (by kernel_rfl) (by kernel_rfl) (fun _ _ _ h => h) (.inr ⟨by rfl, rfl⟩) hS ?_
            go_frame
            refine till_take 13 (some 124) rfl rfl (by kernel_rfl) (by kernel_rfl) (by kernel_rfl) (by kernel_rfl) (by kernel_rfl) (by kernel_rfl) (fun _ _ _ h => h) (.inr ⟨by rfl, rfl⟩) hS ?_
            go_frame
            refine till_take 14 (some 125) rfl rfl (by kernel_rfl) (by kernel_rfl) (by kernel_rfl) (by kernel_rfl) (by kernel_rfl) (by kernel_rfl) (fun _ _ _ h => h) (.inr ⟨by rfl, rfl⟩) hS ?_
            go_frame
            refine till_take 15 (some 126) rfl rfl (by kernel_rfl) (by kernel_rfl) (by kernel_rfl) (by kernel_rfl) (by kernel_rfl) (by kernel_rfl) (fun _ _ _ h => h) (.inr ⟨by rfl, rfl⟩) hS ?_
            go_frame
            refine till_take 16 (some 127) rfl rfl (by kernel_rfl) (by kernel_rfl) (by kernel_rfl) (by kernel_rfl) (by kernel_rfl) (by kernel_rfl) (fun _ _ _ h => h) (.inr ⟨by rfl, rfl⟩) hS ?_
            go_frame
            refine till_take 17 (some 128) rfl rfl (by kernel_rfl) (by kernel_rfl) (by kernel_rfl) (by kernel_rfl) (by kernel_rfl) (by kernel_rfl) (fun _ _ _ h => h) (.inr ⟨by rfl, rfl⟩) hS ?_
            go_frame
            refine till_take 18 (some 129) rfl rfl (by kernel_rfl) (by kernel_rfl) (by kernel_rfl) (by kernel_rfl) (by kernel_rfl) (by kernel_rfl) (fun _ _ _ h => h) (.inr ⟨by rfl, rfl⟩) hS ?_
            go_frame
            refine till_take 19 (some 130) rfl rfl (by kernel_rfl) (by kernel_rfl) (by kernel_rfl) (by kernel_rfl) (by kernel_rfl) (by kernel_rfl) (fun _ _ _ h => h) (.inr ⟨by rfl, rfl⟩) hS ?_
            go_frame
            refine till_take 20 (some 131) rfl rfl (by kernel_rfl) (by kernel_rfl) (by kernel_rfl) (by kernel_rfl) (by kernel_rfl) (by kernel_rfl) (fun _ _ _ h => h) (.inr ⟨by rfl, rfl⟩) hS ?_
            go_frame
            refine till_take 21 (some 132) rfl rfl (by kernel_rfl) (by kernel_rfl) (by kernel_rfl) (by kernel_rfl) (by kernel_rfl) (by kernel_rfl) (fun _ _ _ h => h) (.inr ⟨by rfl, rfl⟩) hS ?_
            go_frame
            refine till_take 22 (some 133) rfl rfl (by kernel_rfl) (by kernel_rfl) (by kernel_rfl) (by kernel_rfl) (by kernel_rfl) (by kernel_rfl) (fun _ _ _ h => h) (.inl ⟨by rfl, fun w' _ => (by go_simp; rfl)⟩) hS ?_
            go_frame
            refine till_done (by kernel_rfl) ?_ _
            clear hS
            go_wp2_with fail
            refine (lives10_any _).mono ?_
            rintro e wz ⟨rfl, hb⟩
            have HBF := Lib.hid (OD.out.below.trans (hb.mono OD.out.below.size))
            clear hb
            go_wp2_with fail
            go_ret
            exact ⟨rfl, HBF.out⟩
        have q0 : 0 < q := by rw [HQ.out]; exact List.length_pos_iff.2 l0
        have HLC := Lib.hid l0
        clear l0
        cases bb with
        | true =>
          have HBT : Hid (true = true) := Lib.hid rfl
          have hl : lr = [] := by rw [HLR.out, if_pos (HBE.out.2 rfl)]
          have hp0 : p = 0 := by rw [HP.out, hl]; rfl
          subst hp0
          clear hl
          have hlen : s3.t.length = 0 := by rw [HALL.out.1, if_neg (show ¬ 0 < n by have := HN0.out; omega), if_pos HM0.out, if_pos (.inr (HBE.out.2 rfl))]
          have HLEN := Lib.hid hlen
          clear hlen
          have q1 := Try.eqUn HU.out UIs.zero
          rw [decide_eq_true HM0.out] at q1
          go_wp2_with (refine wpList_load_row rfl 30 _ rfl X rfl 30 _ _ _ HX9.out Try.underlying30 rfl Try.sizeU ?_)
          have OD := Lib.hid (O9.out.later (Below.drew (Below.refl w9.heap.size w9)))
          have RR := Lib.hid (HRR.out.later (Below.drew (Below.refl w9.heap.size w9)))
          have hS : w9.drew.heap[X]? = some (.cells #[.int .u64 a, .int .u64 b, .int .u64 c, .int .u64 d] 30 (0, 0)) := HX9.out
          clear O9 HRR HX9
          refine wp_region_till (fun w' => w'.heap[X]? = some (.cells #[.int .u64 a, .int .u64 b, .int .u64 c, .int .u64 d] 30 (0, 0))) 43 43 (by kernel_rfl) rfl ?_
          refine till_take 0 (some 64) rfl rfl (by kernel_rfl) (by kernel_rfl) (by kernel_rfl) (by kernel_rfl) (by kernel_rfl) (by kernel_rfl) (fun _ _ _ h => h) (.inl ⟨by rfl, fun w' _ => (by go_simp; rfl)⟩) hS ?_
          go_frame
          refine till_take 2 (some 66) rfl rfl (by kernel_rfl) (by kernel_rfl) (by kernel_rfl) (by kernel_rfl) (by kernel_rfl) (by kernel_rfl) (fun _ _ _ h => h) (.inl ⟨by rfl, fun w' _ => (by go_simp; rfl)⟩) hS ?_
          go_frame
          refine till_one 1 rfl (by kernel_rfl) fun K hK => ?_
          simp only [List.getElem_toArray, List.getElem_cons_succ, List.getElem_cons_zero]
          rw [if_pos (by rfl)]
          go_simp
          obtain ⟨Fq, hst⟩ := OD.out.get
          refine (slen_any hst).mono ?_
          rw [HLEN.out]
          rintro e wx ⟨rfl, rfl⟩
          clear hst
          refine hK _ _ (fun _ _ => hS) ?_
          clear hK
          refine till_take 3 (some 67) rfl rfl (by kernel_rfl) (by kernel_rfl) (by kernel_rfl) (by kernel_rfl) (by kernel_rfl) (by kernel_rfl) (fun _ _ _ h => h) (.inl ⟨by rfl, fun w' _ => (by go_simp; rfl)⟩) hS ?_
          go_frame
          refine till_take 4 (some 68) rfl rfl (by kernel_rfl) (by kernel_rfl) (by kernel_rfl) (by kernel_rfl) (by kernel_rfl) (by kernel_rfl) (fun _ _ _ h => h) (.inl ⟨by rfl, fun w' _ => (by go_simp; rfl)⟩) hS ?_
          go_frame
          refine till_take 5 (some 69) rfl rfl (by kernel_rfl) (by kernel_rfl) (by kernel_rfl) (by kernel_rfl) (by kernel_rfl) (by kernel_rfl) (fun _ _ _ h => h) (.inl ⟨by rfl, fun w' _ => (by go_simp; rfl)⟩) hS ?_
          go_frame
          refine till_take 8 (some 72) rfl rfl (by kernel_rfl) (by kernel_rfl) (by kernel_rfl) (by kernel_rfl) (by kernel_rfl) (by kernel_rfl) (fun _ _ _ h => h) (.inl ⟨by rfl, fun w' _ => (by go_simp; rfl)⟩) hS ?_
          go_frame
          refine till_take 9 (some 73) rfl rfl (by kernel_rfl) (by kernel_rfl) (by kernel_rfl) (by kernel_rfl) (by kernel_rfl) (by kernel_rfl) (fun _ _ _ h => h) (.inl ⟨by rfl, fun w' _ => (by go_simp; rfl)⟩) hS ?_
          go_frame
          refine till_one 6 rfl (by kernel_rfl) fun K hK => ?_
          simp only [List.getElem_toArray, List.getElem_cons_succ, List.getElem_cons_zero]
          rw [if_pos (by rfl)]
          go_simp
          refine (ckey_any 1 _).mono ?_
          rintro e wa ⟨rfl, hb⟩
          have hS2 := below_at' hb hS
          have ODn := Lib.hid (OD.out.later hb); have RRn := Lib.hid (RR.out.later hb)
          refine hK _ _ (fun _ _ => hS2) ?_
          clear hK hS hb OD RR
          have hS := hS2
          have OD := ODn
          have RR := RRn
          clear hS2 ODn RRn
          refine till_one 7 rfl (by kernel_rfl) fun K hK => ?_
          simp only [List.getElem_toArray, List.getElem_cons_succ, List.getElem_cons_zero]
          rw [if_pos (by rfl)]
          go_simp
          obtain ⟨Fq, hst⟩ := OD.out.get
          refine (int_any (Look.of_st hst) HF3.out.f (ckey 1)).mono ?_
          rw [HALL.out.2.1, if_neg (show ¬ 0 < n by have := HN0.out; omega)]
          rintro e wb ⟨rfl, hb⟩
          have hS2 := below_at' hb hS
          have ODn := Lib.hid (OD.out.later hb); have RRn := Lib.hid (RR.out.later hb)
          clear hst
          refine hK _ _ (fun _ _ => hS2) ?_
          clear hK hS hb OD RR
          have hS := hS2
          have OD := ODn
          have RR := RRn
          clear hS2 ODn RRn
          refine till_take 10 (some 74) rfl rfl (by kernel_rfl) (by kernel_rfl) (by kernel_rfl) (by kernel_rfl) (by kernel_rfl) (by kernel_rfl) (fun _ _ _ h => h) (.inl ⟨by rfl, fun w' _ => (by go_simp; rfl)⟩) hS ?_
          go_frame
          refine till_take 11 (some 75) rfl rfl (by kernel_rfl) (by kernel_rfl) (by kernel_rfl) (by kernel_rfl) (by kernel_rfl) (by kernel_rfl) (fun _ _ _ h => h) (.inl ⟨by rfl, fun w' _ => (by go_simp; rfl)⟩) hS ?_
          go_frame
          refine till_take 12 (some 76) rfl rfl (by kernel_rfl) (by kernel_rfl) (by kernel_rfl) (by kernel_rfl) (by kernel_rfl) (by kernel_rfl) (fun _ _ _ h => h) (.inl ⟨by rfl, fun w' _ => (by go_simp; rfl)⟩) hS ?_
          go_frame
          refine till_take 13 (some 77) rfl rfl (by kernel_rfl) (by kernel_rfl) (by kernel_rfl) (by kernel_rfl) (by kernel_rfl) (by kernel_rfl) (fun _ _ _ h => h) (.inl ⟨by rfl, fun w' _ => (by go_simp; rfl)⟩) hS ?_
          go_frame
          refine till_take 16 (some 80) rfl rfl (by kernel_rfl) (by kernel_rfl) (by kernel_rfl) (by kernel_rfl) (by kernel_rfl) (by kernel_rfl) (fun _ _ _ h => h) (yields_load (by rfl) 30 _ rfl (.pointer (some ⟨X, 0, none⟩)) rfl (.agg #[.int .u64 a, .int .u64 b, .int .u64 c, .int .u64 d]) (fun w' hS' => load_heap hS' Try.underlying30 rfl Try.sizeU)) hS ?_
          go_frame
          refine till_one 14 rfl (by kernel_rfl) fun K hK => ?_
          simp only [List.getElem_toArray, List.getElem_cons_succ, List.getElem_cons_zero]
          rw [if_pos (by rfl)]
          go_simp
          refine (ckey_any 2 _).mono ?_
          rintro e wc ⟨rfl, hb⟩
          have hS2 := below_at' hb hS
          have ODn := Lib.hid (OD.out.later hb); have RRn := Lib.hid (RR.out.later hb)
          refine hK _ _ (fun _ _ => hS2) ?_
          clear hK hS hb OD RR
          have hS := hS2
          have OD := ODn
          have RR := RRn
          clear hS2 ODn RRn
          refine till_one 15 rfl (by kernel_rfl) fun K hK => ?_
          simp only [List.getElem_toArray, List.getElem_cons_succ, List.getElem_cons_zero]
          rw [if_pos (by rfl)]
          go_simp
          obtain ⟨Fq, hst⟩ := OD.out.get
          refine (camount_any (Look.of_st hst) HF3.out.f (ckey 2)).mono ?_
          rw [HALL.out.2.2.1]
          rintro e wd ⟨xa, xb, xc, xd, hu1, rfl, hb⟩
          have hS2 := below_at' hb hS
          have ODn := Lib.hid (OD.out.later hb); have RRn := Lib.hid (RR.out.later hb)
          have q2 := Try.eqUn hu1 HU.out
          rw [decide_eq_true rfl] at q2
          clear hu1
          clear hst
          refine hK _ _ (fun _ _ => hS2) ?_
          clear hK hS hb OD RR
          have hS := hS2
          have OD := ODn
          have RR := RRn
          clear hS2 ODn RRn
          refine till_take 17 (some 81) rfl rfl (by kernel_rfl) (by kernel_rfl) (by kernel_rfl) (by kernel_rfl) (by kernel_rfl) (by kernel_rfl) (fun _ _ _ h => h) (.inl ⟨by rfl, fun w' _ => (by go_simp; rfl)⟩) hS ?_
          go_frame
          refine till_take 18 (some 82) rfl rfl (by kernel_rfl) (by kernel_rfl) (by kernel_rfl) (by kernel_rfl) (by kernel_rfl) (by kernel_rfl) (fun _ _ _ h => h) (.inl ⟨by rfl, fun w' _ => (by go_simp; rfl)⟩) hS ?_
          go_frame
          refine till_take 19 (some 83) rfl rfl (by kernel_rfl) (by kernel_rfl) (by kernel_rfl) (by kernel_rfl) (by kernel_rfl) (by kernel_rfl) (fun _ _ _ h => h) (.inl ⟨by rfl, fun w' _ => (by go_simp; rfl)⟩) hS ?_
          go_frame
          refine till_take 20 (some 84) rfl rfl (by kernel_rfl) (by kernel_rfl) (by kernel_rfl) (by kernel_rfl) (by kernel_rfl) (by kernel_rfl) (fun _ _ _ h => h) (.inl ⟨by rfl, fun w' _ => (by go_simp; rfl)⟩) hS ?_
          go_frame
          refine till_take 21 (some 85) rfl rfl (by kernel_rfl) (by kernel_rfl) (by kernel_rfl) (by kernel_rfl) (by kernel_rfl) (by kernel_rfl) (fun _ _ _ h => h) (.inl ⟨by rfl, fun w' _ => (by go_simp; rfl)⟩) hS ?_
          go_frame
          refine till_take 22 (some 86) rfl rfl (by kernel_rfl) (by kernel_rfl) (by kernel_rfl) (by kernel_rfl) (by kernel_rfl) (by kernel_rfl) (fun _ _ _ h => h) (.inl ⟨by rfl, fun w' _ => (by go_simp; rfl)⟩) hS ?_
          go_frame
          refine till_take 23 (some 87) rfl rfl (by kernel_rfl) (by kernel_rfl) (by kernel_rfl) (by kernel_rfl) (by kernel_rfl) (by kernel_rfl) (fun _ _ _ h => h) (.inl ⟨by rfl, fun w' _ => (by go_simp; rfl)⟩) hS ?_
          go_frame
          refine till_take 24 (some 88) rfl rfl (by kernel_rfl) (by kernel_rfl) (by kernel_rfl) (by kernel_rfl) (by kernel_rfl) (by kernel_rfl) (fun _ _ _ h => h) (.inr ⟨by rfl, rfl⟩) hS ?_
          go_frame
          refine till_take 25 (some 89) rfl rfl (by kernel_rfl) (by kernel_rfl) (by kernel_rfl) (by kernel_rfl) (by kernel_rfl) (by kernel_rfl) (fun _ _ _ h => h) (.inr ⟨by rfl, rfl⟩) hS ?_
          go_frame
          refine till_take 26 (some 90) rfl rfl (by kernel_rfl) (by kernel_rfl) (by kernel_rfl) (by kernel_rfl) (by kernel_rfl) (by kernel_rfl) (fun _ _ _ h => h) (.inr ⟨by rfl, rfl⟩) hS ?_
          go_frame
          refine till_take 27 (some 91) rfl rfl (by kernel_rfl) (by kernel_rfl) (by kernel_rfl) (by kernel_rfl) (by kernel_rfl) (by kernel_rfl) (fun _ _ _ h => h) (.inr ⟨by rfl, rfl⟩) hS ?_
          go_frame
          refine till_take 28 (some 92) rfl rfl (by kernel_rfl) (by kernel_rfl) (by kernel_rfl) (by kernel_rfl) (by kernel_rfl) (by kernel_rfl) (fun _ _ _ h => h) (.inl ⟨by rfl, fun w' _ => (by go_simp; rfl)⟩) hS ?_
          go_frame
          refine till_take 29 (some 93) rfl rfl (by kernel_rfl) (by kernel_rfl) (by kernel_rfl) (by kernel_rfl) (by kernel_rfl) (by kernel_rfl) (fun _ _ _ h => h) (.inl ⟨by rfl, fun w' _ => (by go_simp; rfl)⟩) hS ?_
          go_frame
          refine till_take 30 (some 94) rfl rfl (by kernel_rfl) (by kernel_rfl) (by kernel_rfl) (by kernel_rfl) (by kernel_rfl) (by kernel_rfl) (fun _ _ _ h => h) (.inl ⟨by rfl, fun w' _ => (by go_simp; rfl)⟩) hS ?_
          go_frame
          refine till_take 31 (some 95) rfl rfl (by kernel_rfl) (by kernel_rfl) (by kernel_rfl) (by kernel_rfl) (by kernel_rfl) (by kernel_rfl) (fun _ _ _ h => h) (.inl ⟨by rfl, fun w' _ => (by go_simp; rfl)⟩) hS ?_
          go_frame
          refine till_take 32 (some 96) rfl rfl (by kernel_rfl) (by kernel_rfl) (by kernel_rfl) (by kernel_rfl) (by kernel_rfl) (by kernel_rfl) (fun _ _ _ h => h) (.inl ⟨by rfl, fun w' _ => (by go_simp; rfl)⟩) hS ?_
          go_frame
          refine till_take 33 (some 97) rfl rfl (by kernel_rfl) (by kernel_rfl) (by kernel_rfl) (by kernel_rfl) (by kernel_rfl) (by kernel_rfl) (fun _ _ _ h => h) (.inl ⟨by rfl, fun w' _ => (by go_simp; rfl)⟩) hS ?_
          go_frame
          refine till_take 34 (some 98) rfl rfl (by kernel_rfl) (by kernel_rfl) (by kernel_rfl) (by kernel_rfl) (by kernel_rfl) (by kernel_rfl) (fun _ _ _ h => h) (.inl ⟨by rfl, fun w' _ => (by go_simp; rfl)⟩) hS ?_
          go_frame
          refine till_take 35 (some 99) rfl rfl (by kernel_rfl) (by kernel_rfl) (by kernel_rfl) (by kernel_rfl) (by kernel_rfl) (by kernel_rfl) (fun _ _ _ h => h) (.inl ⟨by rfl, fun w' _ => (by go_simp; rfl)⟩) hS ?_
          go_frame
          refine till_take 36 (some 100) rfl rfl (by kernel_rfl) (by kernel_rfl) (by kernel_rfl) (by kernel_rfl) (by kernel_rfl) (by kernel_rfl) (fun _ _ _ h => h) (.inl ⟨by rfl, fun w' _ => (by go_simp; rfl)⟩) hS ?_
          go_frame
          refine till_take 37 (some 101) rfl rfl (by kernel_rfl) (by kernel_rfl) (by kernel_rfl) (by kernel_rfl) (by kernel_rfl) (by kernel_rfl) (fun _ _ _ h => h) (.inl ⟨by rfl, fun w' _ => (by go_simp; rfl)⟩) hS ?_
          go_frame
          refine till_take 38 (some 102) rfl rfl (by kernel_rfl) (by kernel_rfl) (by kernel_rfl) (by kernel_rfl) (by kernel_rfl) (by kernel_rfl) (fun _ _ _ h => h) (.inl ⟨by rfl, fun w' _ => (by go_simp; rfl)⟩) hS ?_
          go_frame
          refine till_take 39 (some 103) rfl rfl (by kernel_rfl) (by kernel_rfl) (by kernel_rfl) (by kernel_rfl) (by kernel_rfl) (by kernel_rfl) (fun _ _ _ h => h) (.inl ⟨by rfl, fun w' _ => (by go_simp; rfl)⟩) hS ?_
          go_frame
          refine till_take 40 (some 104) rfl rfl (by kernel_rfl) (by kernel_rfl) (by kernel_rfl) (by kernel_rfl) (by kernel_rfl) (by kernel_rfl) (fun _ _ _ h => h) (.inl ⟨by rfl, fun w' _ => (by go_simp; rfl)⟩) hS ?_
          go_frame
          refine till_take 41 (some 105) rfl rfl (by kernel_rfl) (by kernel_rfl) (by kernel_rfl) (by kernel_rfl) (by kernel_rfl) (by kernel_rfl) (fun _ _ _ h => h) (.inl ⟨by rfl, fun w' _ => (by go_simp; rfl)⟩) hS ?_
          go_frame
          refine till_take 42 (some 106) rfl rfl (by kernel_rfl) (by kernel_rfl) (by kernel_rfl) (by kernel_rfl) (by kernel_rfl) (by kernel_rfl) (fun _ _ _ h => h) (.inl ⟨by rfl, fun w' _ => (by go_simp; rfl)⟩) hS ?_
          go_frame
          refine till_done (by kernel_rfl) ?_ _
          clear q1 q2
          clear RR
          have HXa := Lib.hid hS
          clear hS
          by_cases hh : m < uHalf
          · have hadd := back_add HU.out.lt HALL.out.2.2.2.2 HK4.out hh
            have HADD := Lib.hid hadd
            clear hadd hh
            go_wp2_with fail
            have ODx := Lib.hid (OD.out.later (Below.drew (Below.refl wd.heap.size wd)))
            have hS : wd.drew.heap[X]? = some (.cells #[.int .u64 a, .int .u64 b, .int .u64 c, .int .u64 d] 30 (0, 0)) := HXa.out
            clear OD HXa
            have OD := ODx
            clear ODx
            refine wp_region_till (fun w' => w'.heap[X]? = some (.cells #[.int .u64 a, .int .u64 b, .int .u64 c, .int .u64 d] 30 (0, 0))) 5 5 (by kernel_rfl) rfl ?_
            refine till_take 0 (some 107) rfl rfl (by kernel_rfl) (by kernel_rfl) (by kernel_rfl) (by kernel_rfl) (by kernel_rfl) (by kernel_rfl) (fun _ _ _ h => h) (.inl ⟨by rfl, fun w' _ => (by go_simp; rfl)⟩) hS ?_
            go_frame
            refine till_take 2 (some 109) rfl rfl (by kernel_rfl) (by kernel_rfl) (by kernel_rfl) (by kernel_rfl) (by kernel_rfl) (by kernel_rfl) (fun _ _ _ h => h) (yields_load (by rfl) 30 _ rfl (.pointer (some ⟨X, 0, none⟩)) rfl (.agg #[.int .u64 a, .int .u64 b, .int .u64 c, .int .u64 d]) (fun w' hS' => load_heap hS' Try.underlying30 rfl Try.sizeU)) hS ?_
            go_frame
            refine till_one 1 rfl (by kernel_rfl) fun K hK => ?_
            simp only [List.getElem_toArray, List.getElem_cons_succ, List.getElem_cons_zero]
            rw [if_pos (by rfl)]
            go_simp
            refine (ckey_any 4 _).mono ?_
            rintro e wf ⟨rfl, hb⟩
            have hS2 := below_at' hb hS
            have ODn := Lib.hid (OD.out.later hb)
            refine hK _ _ (fun _ _ => hS2) ?_
            clear hK hS hb OD
            have hS := hS2
            have OD := ODn
            clear hS2 ODn
            refine till_one 3 rfl (by kernel_rfl) fun K hK => ?_
            simp only [List.getElem_toArray, List.getElem_cons_succ, List.getElem_cons_zero]
            rw [if_pos (by rfl)]
            go_simp
            refine (OD.out.st fun F hs => cadd_any hs (by have := HZ.out.2.2; omega) HF3.out (ckey 4) HU.out).mono ?_
            rw [HADD.out.1]
            rintro e wg ⟨rfl, o, hoth⟩
            have hS2 := hoth.2 X _ hS rfl rfl
            have ODn := Lib.hid o
            refine hK _ _ (fun _ _ => hS2) ?_
            clear hK hS hoth OD o
            have hS := hS2
            have OD := ODn
            clear hS2 ODn
            refine till_take 4 (some 13) rfl rfl (by kernel_rfl) (by kernel_rfl) (by kernel_rfl) (by kernel_rfl) (by kernel_rfl) (by kernel_rfl) (fun _ _ _ h => h) (.inl ⟨by rfl, fun w' _ => (by go_simp; rfl)⟩) hS ?_
            go_frame
            refine till_done (by kernel_rfl) ?_ _
            have HXb := Lib.hid hS
            clear hS
            go_wp2_with fail
            have ODx := Lib.hid (OD.out.later (Below.drew (Below.refl wg.heap.size wg)))
            have hS : wg.drew.heap[X]? = some (.cells #[.int .u64 a, .int .u64 b, .int .u64 c, .int .u64 d] 30 (0, 0)) := HXb.out
            clear OD HXb
            have OD := ODx
            clear ODx
            refine wp_region_till (fun w' => w'.heap[X]? = some (.cells #[.int .u64 a, .int .u64 b, .int .u64 c, .int .u64 d] 30 (0, 0))) 23 23 (by kernel_rfl) rfl ?_
            refine till_take 0 (some 111) rfl rfl (by kernel_rfl) (by kernel_rfl) (by kernel_rfl) (by kernel_rfl) (by kernel_rfl) (by kernel_rfl) (fun _ _ _ h => h) (.inl ⟨by rfl, fun w' _ => (by go_simp; rfl)⟩) hS ?_
            go_frame
            refine till_take 1 (some 112) rfl rfl (by kernel_rfl) (by kernel_rfl) (by kernel_rfl) (by kernel_rfl) (by kernel_rfl) (by kernel_rfl) (fun _ _ _ h => h) (.inl ⟨by rfl, fun w' _ => (by go_simp; rfl)⟩) hS ?_
            go_frame
            refine till_take 2 (some 113) rfl rfl (by kernel_rfl) (by kernel_rfl) (by kernel_rfl) (by kernel_rfl) (by kernel_rfl) (by kernel_rfl) (fun _ _ _ h => h) (.inl ⟨by rfl, fun w' _ => (by go_simp; rfl)⟩) hS ?_
            go_frame
            refine till_take 3 (some 114) rfl rfl (by kernel_rfl) (by kernel_rfl) (by kernel_rfl) (by kernel_rfl) (by kernel_rfl) (by kernel_rfl) (fun _ _ _ h => h) (.inl ⟨by rfl, fun w' _ => (by go_simp; rfl)⟩) hS ?_
            go_frame
            refine till_take 6 (some 117) rfl rfl (by kernel_rfl) (by kernel_rfl) (by kernel_rfl) (by kernel_rfl) (by kernel_rfl) (by kernel_rfl) (fun _ _ _ h => h) (yields_load (by rfl) 30 _ rfl (.pointer (some ⟨X, 0, none⟩)) rfl (.agg #[.int .u64 a, .int .u64 b, .int .u64 c, .int .u64 d]) (fun w' hS' => load_heap hS' Try.underlying30 rfl Try.sizeU)) hS ?_
            go_frame
            refine till_one 4 rfl (by kernel_rfl) fun K hK => ?_
            simp only [List.getElem_toArray, List.getElem_cons_succ, List.getElem_cons_zero]
            rw [if_pos (by rfl)]
            go_simp
            refine (ckey_any 4 _).mono ?_
            rintro e wh ⟨rfl, hb⟩
            have hS2 := below_at' hb hS
            have ODn := Lib.hid (OD.out.later hb)
            refine hK _ _ (fun _ _ => hS2) ?_
            clear hK hS hb OD
            have hS := hS2
            have OD := ODn
            clear hS2 ODn
            refine till_one 5 rfl (by kernel_rfl) fun K hK => ?_
            simp only [List.getElem_toArray, List.getElem_cons_succ, List.getElem_cons_zero]
            rw [if_pos (by rfl)]
            go_simp
            obtain ⟨Fq, hst⟩ := OD.out.get
            refine (camount_any (Look.of_st hst) (HF3.out.addA _ _).f (ckey 4)).mono ?_
            rw [HADD.out.2.1]
            rintro e wi ⟨xa, xb, xc, xd, hu1, rfl, hb⟩
            have hS2 := below_at' hb hS
            have ODn := Lib.hid (OD.out.later hb)
            have q2 := Try.eqUn hu1 HU.out
            rw [decide_eq_true rfl] at q2
            clear hu1 hst
            refine hK _ _ (fun _ _ => hS2) ?_
            clear hK hS hb OD
            have hS := hS2
            have OD := ODn
            clear hS2 ODn
            refine till_take 7 (some 118) rfl rfl (by kernel_rfl) (by kernel_rfl) (by kernel_rfl) (by kernel_rfl) (by kernel_rfl) (by kernel_rfl) (fun _ _ _ h => h) (.inl ⟨by rfl, fun w' _ => (by go_simp; rfl)⟩) hS ?_
            go_frame
            refine till_take 8 (some 119) rfl rfl (by kernel_rfl) (by kernel_rfl) (by kernel_rfl) (by kernel_rfl) (by kernel_rfl) (by kernel_rfl) (fun _ _ _ h => h) (.inl ⟨by rfl, fun w' _ => (by go_simp; rfl)⟩) hS ?_
            go_frame
            refine till_take 9 (some 120) rfl rfl (by kernel_rfl) (by kernel_rfl) (by kernel_rfl) (by kernel_rfl) (by kernel_rfl) (by kernel_rfl) (fun _ _ _ h => h) (.inl ⟨by rfl, fun w' _ => (by go_simp; rfl)⟩) hS ?_
            go_frame
            refine till_take 11 (some 122) rfl rfl (by kernel_rfl) (by kernel_rfl) (by kernel_rfl) (by kernel_rfl) (by kernel_rfl) (by kernel_rfl) (fun _ _ _ h => h) (yields_load (by rfl) 30 _ rfl (.pointer (some ⟨X, 0, none⟩)) rfl (.agg #[.int .u64 a, .int .u64 b, .int .u64 c, .int .u64 d]) (fun w' hS' => load_heap hS' Try.underlying30 rfl Try.sizeU)) hS ?_
            go_frame
            refine till_one 10 rfl (by kernel_rfl) fun K hK => ?_
            simp only [List.getElem_toArray, List.getElem_cons_succ, List.getElem_cons_zero]
            rw [if_pos (by rfl)]
            go_simp
            refine (ckey_any 4 _).mono ?_
            rintro e wj ⟨rfl, hb⟩
            have hS2 := below_at' hb hS
            have ODn := Lib.hid (OD.out.later hb)
            refine hK _ _ (fun _ _ => hS2) ?_
            clear hK hS hb OD
            have hS := hS2
            have OD := ODn
            clear hS2 ODn
            refine till_one 12 rfl (by kernel_rfl) fun K hK => ?_
            simp only [List.getElem_toArray, List.getElem_cons_succ, List.getElem_cons_zero]
            rw [if_pos (by rfl)]
            go_simp
            refine (OD.out.st fun F hs => csub_any hs (by have := HZ.out.2.2; have := sz_addA s3 (ckey 4) m; omega) (HF3.out.addA _ _) (ckey 4) HU.out).mono ?_
            rw [HADD.out.2.2.1]
            rintro e wk ⟨rfl, o, hoth⟩
            have hS2 := hoth.2 X _ hS rfl rfl
            have ODn := Lib.hid o
            refine hK _ _ (fun _ _ => hS2) ?_
            clear hK hS hoth OD o
            have hS := hS2
            have OD := ODn
            clear hS2 ODn
            refine till_take 13 (some 124) rfl rfl (by kernel_rfl) (by kernel_rfl) (by kernel_rfl) (by kernel_rfl) (by kernel_rfl) (by kernel_rfl) (fun _ _ _ h => h) (.inl ⟨by rfl, fun w' _ => (by go_simp; rfl)⟩) hS ?_
            go_frame
            refine till_take 14 (some 125) rfl rfl (by kernel_rfl) (by kernel_rfl) (by kernel_rfl) (by kernel_rfl) (by kernel_rfl) (by kernel_rfl) (fun _ _ _ h => h) (.inl ⟨by rfl, fun w' _ => (by go_simp; rfl)⟩) hS ?_
            go_frame
            refine till_take 15 (some 126) rfl rfl (by kernel_rfl) (by kernel_rfl) (by kernel_rfl) (by kernel_rfl) (by kernel_rfl) (by kernel_rfl) (fun _ _ _ h => h) (.inl ⟨by rfl, fun w' _ => (by go_simp; rfl)⟩) hS ?_
            go_frame
            refine till_take 16 (some 127) rfl rfl (by kernel_rfl) (by kernel_rfl) (by kernel_rfl) (by kernel_rfl) (by kernel_rfl) (by kernel_rfl) (fun _ _ _ h => h) (.inl ⟨by rfl, fun w' _ => (by go_simp; rfl)⟩) hS ?_
            go_frame
            refine till_take 19 (some 130) rfl rfl (by kernel_rfl) (by kernel_rfl) (by kernel_rfl) (by kernel_rfl) (by kernel_rfl) (by kernel_rfl) (fun _ _ _ h => h) (.inl ⟨by rfl, fun w' _ => (by go_simp; rfl)⟩) hS ?_
            go_frame
            refine till_one 17 rfl (by kernel_rfl) fun K hK => ?_
            simp only [List.getElem_toArray, List.getElem_cons_succ, List.getElem_cons_zero]
            rw [if_pos (by rfl)]
            go_simp
            refine (ckey_any 4 _).mono ?_
            rintro e wl ⟨rfl, hb⟩
            have hS2 := below_at' hb hS
            have ODn := Lib.hid (OD.out.later hb)
            refine hK _ _ (fun _ _ => hS2) ?_
            clear hK hS hb OD
            have hS := hS2
            have OD := ODn
            clear hS2 ODn
            refine till_one 18 rfl (by kernel_rfl) fun K hK => ?_
            simp only [List.getElem_toArray, List.getElem_cons_succ, List.getElem_cons_zero]
            rw [if_pos (by rfl)]
            go_simp
            obtain ⟨Fq, hst⟩ := OD.out.get
            refine (camount_any (Look.of_st hst) ((HF3.out.addA _ _).subA _ _).f (ckey 4)).mono ?_
            rw [HADD.out.2.2.2]
            rintro e wm ⟨ya, yb, yc, yd, hu1, rfl, hb⟩
            have hS2 := below_at' hb hS
            have ODn := Lib.hid (OD.out.later hb)
            have q3 := Try.eqUn hu1 UIs.zero
            rw [decide_eq_true rfl] at q3
            clear hu1 hst
            refine hK _ _ (fun _ _ => hS2) ?_
            clear hK hS hb OD
            have hS := hS2
            have OD := ODn
            clear hS2 ODn
            refine till_take 20 (some 131) rfl rfl (by kernel_rfl) (by kernel_rfl) (by kernel_rfl) (by kernel_rfl) (by kernel_rfl) (by kernel_rfl) (fun _ _ _ h => h) (.inl ⟨by rfl, fun w' _ => (by go_simp; rfl)⟩) hS ?_
            go_frame
            refine till_take 21 (some 132) rfl rfl (by kernel_rfl) (by kernel_rfl) (by kernel_rfl) (by kernel_rfl) (by kernel_rfl) (by kernel_rfl) (fun _ _ _ h => h) (.inl ⟨by rfl, fun w' _ => (by go_simp; rfl)⟩) hS ?_
            go_frame
            refine till_take 22 (some 133) rfl rfl (by kernel_rfl) (by kernel_rfl) (by kernel_rfl) (by kernel_rfl) (by kernel_rfl) (by kernel_rfl) (fun _ _ _ h => h) (.inl ⟨by rfl, fun w' _ => (by go_simp; rfl)⟩) hS ?_
            go_frame
            refine till_done (by kernel_rfl) ?_ _
            clear hS
            go_wp2_with fail
            refine (lives10_any _).mono ?_
            rintro e wz ⟨rfl, hb⟩
            have HBF := Lib.hid (OD.out.below.trans (hb.mono OD.out.below.size))
            clear hb
            go_wp2_with fail
            go_ret
            exact ⟨rfl, HBF.out⟩
          · have hadd := back_no HALL.out.2.2.2.2 HK4.out hh
            have HADD := Lib.hid hadd
            clear hadd hh
            go_wp2_with fail
            have ODx := Lib.hid (OD.out.later (Below.drew (Below.refl wd.heap.size wd)))
            have hS : wd.drew.heap[X]? = some (.cells #[.int .u64 a, .int .u64 b, .int .u64 c, .int .u64 d] 30 (0, 0)) := HXa.out
            clear OD HXa
            have OD := ODx
            clear ODx
            refine wp_region_till (fun w' => w'.heap[X]? = some (.cells #[.int .u64 a, .int .u64 b, .int .u64 c, .int .u64 d] 30 (0, 0))) 5 5 (by kernel_rfl) rfl ?_
            refine till_take 0 (some 107) rfl rfl (by kernel_rfl) (by kernel_rfl) (by kernel_rfl) (by kernel_rfl) (by kernel_rfl) (by kernel_rfl) (fun _ _ _ h => h) (.inl ⟨by rfl, fun w' _ => (by go_simp; rfl)⟩) hS ?_
            go_frame
            refine till_take 2 (some 109) rfl rfl (by kernel_rfl) (by kernel_rfl) (by kernel_rfl) (by kernel_rfl) (by kernel_rfl) (by kernel_rfl) (fun _ _ _ h => h) (yields_load (by rfl) 30 _ rfl (.pointer (some ⟨X, 0, none⟩)) rfl (.agg #[.int .u64 a, .int .u64 b, .int .u64 c, .int .u64 d]) (fun w' hS' => load_heap hS' Try.underlying30 rfl Try.sizeU)) hS ?_
            go_frame
            refine till_one 1 rfl (by kernel_rfl) fun K hK => ?_
            simp only [List.getElem_toArray, List.getElem_cons_succ, List.getElem_cons_zero]
            rw [if_pos (by rfl)]
            go_simp
            refine (ckey_any 4 _).mono ?_
            rintro e wf ⟨rfl, hb⟩
            have hS2 := below_at' hb hS
            have ODn := Lib.hid (OD.out.later hb)
            refine hK _ _ (fun _ _ => hS2) ?_
            clear hK hS hb OD
            have hS := hS2
            have OD := ODn
            clear hS2 ODn
            refine till_one 3 rfl (by kernel_rfl) fun K hK => ?_
            simp only [List.getElem_toArray, List.getElem_cons_succ, List.getElem_cons_zero]
            rw [if_pos (by rfl)]
            go_simp
            refine (OD.out.st fun F hs => cadd_any hs (by have := HZ.out.2.2; omega) HF3.out (ckey 4) HU.out).mono ?_
            rw [HADD.out]
            rintro e wg ⟨rfl, o, hoth⟩
            have hS2 := hoth.2 X _ hS rfl rfl
            have ODn := Lib.hid o
            refine hK _ _ (fun _ _ => hS2) ?_
            clear hK hS hoth OD o
            have hS := hS2
            have OD := ODn
            clear hS2 ODn
            refine till_take 4 (some 13) rfl rfl (by kernel_rfl) (by kernel_rfl) (by kernel_rfl) (by kernel_rfl) (by kernel_rfl) (by kernel_rfl) (fun _ _ _ h => h) (.inl ⟨by rfl, fun w' _ => (by go_simp; rfl)⟩) hS ?_
            go_frame
            refine till_done (by kernel_rfl) ?_ _
            have HXb := Lib.hid hS
            clear hS
            go_wp2_with fail
            have ODx := Lib.hid (OD.out.later (Below.drew (Below.refl wg.heap.size wg)))
            have hS : wg.drew.heap[X]? = some (.cells #[.int .u64 a, .int .u64 b, .int .u64 c, .int .u64 d] 30 (0, 0)) := HXb.out
            clear OD HXb
            have OD := ODx
            clear ODx
            refine wp_region_till (fun w' => w'.heap[X]? = some (.cells #[.int .u64 a, .int .u64 b, .int .u64 c, .int .u64 d] 30 (0, 0))) 23 23 (by kernel_rfl) rfl ?_
            refine till_take 0 (some 111) rfl rfl (by kernel_rfl) (by kernel_rfl) (by kernel_rfl) (by kernel_rfl) (by kernel_rfl) (by kernel_rfl) (fun _ _ _ h => h) (.inl ⟨by rfl, fun w' _ => (by go_simp; rfl)⟩) hS ?_
            go_frame
            refine till_take 1 (some 112) rfl rfl (by kernel_rfl) (by kernel_rfl) (by kernel_rfl) (by kernel_rfl) (by kernel_rfl) (by kernel_rfl) (fun _ _ _ h => h) (.inl ⟨by rfl, fun w' _ => (by go_simp; rfl)⟩) hS ?_
            go_frame
            refine till_take 2 (some 113) rfl rfl (by kernel_rfl) (by kernel_rfl) (by kernel_rfl) (by kernel_rfl) (by kernel_rfl) (by kernel_rfl) (fun _ _ _ h => h) (.inl ⟨by rfl, fun w' _ => (by go_simp; rfl)⟩) hS ?_
            go_frame
            refine till_take 3 (some 114) rfl rfl (by kernel_rfl) (by kernel_rfl) (by kernel_rfl) (by kernel_rfl) (by kernel_rfl) (by kernel_rfl) (fun _ _ _ h => h) (.inr ⟨by rfl, rfl⟩) hS ?_
            go_frame
            refine till_take 4 (some 115) rfl rfl (by kernel_rfl) (by kernel_rfl) (by kernel_rfl) (by kernel_rfl) (by kernel_rfl) (by kernel_rfl) (fun _ _ _ h => h) (.inr ⟨by rfl, rfl⟩) hS ?_
            go_frame
            refine till_take 5 (some 116) rfl rfl (by kernel_rfl) (by kernel_rfl) (by kernel_rfl) (by kernel_rfl) (by kernel_rfl) (by kernel_rfl) (fun _ _ _ h => h) (.inr ⟨by rfl, rfl⟩) hS ?_
            go_frame
            refine till_take 6 (some 117) rfl rfl (by kernel_rfl) (by kernel_rfl) (by kernel_rfl) (by kernel_rfl) (by kernel_rfl) (by kernel_rfl) (fun _ _ _ h => h) (.inr ⟨by rfl, rfl⟩) hS ?_
            go_frame
            refine till_take 7 (some 118) rfl rfl (by kernel_rfl) (by kernel_rfl) (by kernel_rfl) (by kernel_rfl) (by kernel_rfl) (by kernel_rfl) (fun _ _ _ h => h) (.inr ⟨by rfl, rfl⟩) hS ?_
            go_frame
            refine till_take 8 (some 119) rfl rfl (by kernel_rfl) (by kernel_rfl) (by kernel_rfl) (by kernel_rfl) (by kernel_rfl) (by kernel_rfl) (fun _ _ _ h => h) (.inr ⟨by rfl, rfl⟩) hS ?_
            go_frame
            refine till_take 9 (some 120) rfl rfl (by kernel_rfl) (by kernel_rfl) (by kernel_rfl) (by kernel_rfl) (by kernel_rfl) (by kernel_rfl) (fun _ _ _ h => h) (.inr ⟨by rfl, rfl⟩) hS ?_
            go_frame
            refine till_take 10 (some 121) rfl rfl (by kernel_rfl) (by kernel_rfl) (by kernel_rfl) (by kernel_rfl) (by kernel_rfl) (by kernel_rfl) (fun _ _ _ h => h) (.inr ⟨by rfl, rfl⟩) hS ?_
            go_frame
            refine till_take 11 (some 122) rfl rfl (by kernel_rfl) (by kernel_rfl) (by kernel_rfl) (by kernel_rfl) (by kernel_rfl) (by kernel_rfl) (fun _ _ _ h => h) (.inr ⟨by rfl, rfl⟩) hS ?_
            go_frame
            refine till_take 12 (some 123) rfl rfl (by kernel_rfl) (by kernel_rfl) (by kernel_rfl) (by kernel_rfl) (by kernel_rfl) (by kernel_rfl) (fun _ _ _ h => h) (.inr ⟨by rfl, rfl⟩) hS ?_
            go_frame
            refine till_take 13 (some 124) rfl rfl (by kernel_rfl) (by kernel_rfl) (by kernel_rfl) (by kernel_rfl) (by kernel_rfl) (by kernel_rfl) (fun _ _ _ h => h) (.inr ⟨by rfl, rfl⟩) hS ?_
            go_frame
            refine till_take 14 (some 125) rfl rfl (by kernel_rfl) (by kernel_rfl) (by kernel_rfl) (by kernel_rfl) (by kernel_rfl) (by kernel_rfl) (fun _ _ _ h => h) (.inr ⟨by rfl, rfl⟩) hS ?_
            go_frame
            refine till_take 15 (some 126) rfl rfl (by kernel_rfl) (by kernel_rfl) (by kernel_rfl) (by kernel_rfl) (by kernel_rfl) (by kernel_rfl) (fun _ _ _ h => h) (.inr ⟨by rfl, rfl⟩) hS ?_
            go_frame
            refine till_take 16 (some 127) rfl rfl (by kernel_rfl) (by kernel_rfl) (by kernel_rfl) (by kernel_rfl) (by kernel_rfl) (by kernel_rfl) (fun _ _ _ h => h) (.inr ⟨by rfl, rfl⟩) hS ?_
            go_frame
            refine till_take 17 (some 128) rfl rfl (by kernel_rfl) (by kernel_rfl) (by kernel_rfl) (by kernel_rfl) (by kernel_rfl) (by kernel_rfl) (fun _ _ _ h => h) (.inr ⟨by rfl, rfl⟩) hS ?_
            go_frame
            refine till_take 18 (some 129) rfl rfl (by kernel_rfl) (by kernel_rfl) (by kernel_rfl) (by kernel_rfl) (by kernel_rfl) (by kernel_rfl) (fun _ _ _ h => h) (.inr ⟨by rfl, rfl⟩) hS ?_
            go_frame
            refine till_take 19 (some 130) rfl rfl (by kernel_rfl) (by kernel_rfl) (by kernel_rfl) (by kernel_rfl) (by kernel_rfl) (by kernel_rfl) (fun _ _ _ h => h) (.inr ⟨by rfl, rfl⟩) hS ?_
            go_frame
            refine till_take 20 (some 131) rfl rfl (by kernel_rfl) (by kernel_rfl) (by kernel_rfl) (by kernel_rfl) (by kernel_rfl) (by kernel_rfl) (fun _ _ _ h => h) (.inr ⟨by rfl, rfl⟩) hS ?_
            go_frame
            refine till_take 21 (some 132) rfl rfl (by kernel_rfl) (by kernel_rfl) (by kernel_rfl) (by kernel_rfl) (by kernel_rfl) (by kernel_rfl) (fun _ _ _ h => h) (.inr ⟨by rfl, rfl⟩) hS ?_
            go_frame
            refine till_take 22 (some 133) rfl rfl (by kernel_rfl) (by kernel_rfl) (by kernel_rfl) (by kernel_rfl) (by kernel_rfl) (by kernel_rfl) (fun _ _ _ h => h) (.inl ⟨by rfl, fun w' _ => (by go_simp; rfl)⟩) hS ?_
            go_frame
            refine till_done (by kernel_rfl) ?_ _
            clear hS
            go_wp2_with fail
            refine (lives10_any _).mono ?_
            rintro e wz ⟨rfl, hb⟩
            have HBF := Lib.hid (OD.out.below.trans (hb.mono OD.out.below.size))
            clear hb
            go_wp2_with fail
            go_ret
            exact ⟨rfl, HBF.out⟩
        | false =>
          have HBT : Hid (false = false) := Lib.hid rfl
          have hl : lr = l := by rw [HLR.out, if_neg (fun e => by have := HBE.out.1 e; cases this)]
          have HLL := Lib.hid hl
          have hp0 : p = q := by rw [HP.out, hl, HQ.out]
          subst hp0
          clear hl
          have hlen : s3.t.length = 1 := by rw [HALL.out.1, if_neg (show ¬ 0 < n by have := HN0.out; omega), if_pos HM0.out, if_neg (fun e => e.elim HLC.out (fun e2 => by have := HBE.out.1 e2; cases this))]
          have HLEN := Lib.hid hlen
          clear hlen
          have q1 := Try.eqUn HU.out UIs.zero
          rw [decide_eq_true HM0.out] at q1
          go_wp2_with (refine wpList_load_row rfl 30 _ rfl X rfl 30 _ _ _ HX9.out Try.underlying30 rfl Try.sizeU ?_)
          have OD := Lib.hid (O9.out.later (Below.drew (Below.refl w9.heap.size w9)))
          have RR := Lib.hid (HRR.out.later (Below.drew (Below.refl w9.heap.size w9)))
          have hS : w9.drew.heap[X]? = some (.cells #[.int .u64 a, .int .u64 b, .int .u64 c, .int .u64 d] 30 (0, 0)) := HX9.out
          clear O9 HRR HX9
          refine wp_region_till (fun w' => w'.heap[X]? = some (.cells #[.int .u64 a, .int .u64 b, .int .u64 c, .int .u64 d] 30 (0, 0))) 43 43 (by kernel_rfl) rfl ?_
          refine till_take 0 (some 64) rfl rfl (by kernel_rfl) (by kernel_rfl) (by kernel_rfl) (by kernel_rfl) (by kernel_rfl) (by kernel_rfl) (fun _ _ _ h => h) (.inl ⟨by rfl, fun w' _ => (by go_simp; rfl)⟩) hS ?_
          go_frame
          refine till_take 2 (some 66) rfl rfl (by kernel_rfl) (by kernel_rfl) (by kernel_rfl) (by kernel_rfl) (by kernel_rfl) (by kernel_rfl) (fun _ _ _ h => h) (.inl ⟨by rfl, fun w' _ => (by go_simp; rfl)⟩) hS ?_
          go_frame
          refine till_one 1 rfl (by kernel_rfl) fun K hK => ?_
          simp only [List.getElem_toArray, List.getElem_cons_succ, List.getElem_cons_zero]
          rw [if_pos (by rfl)]
          go_simp
          obtain ⟨Fq, hst⟩ := OD.out.get
          refine (slen_any hst).mono ?_
          rw [HLEN.out]
          rintro e wx ⟨rfl, rfl⟩
          clear hst
          refine hK _ _ (fun _ _ => hS) ?_
          clear hK
          refine till_take 3 (some 67) rfl rfl (by kernel_rfl) (by kernel_rfl) (by kernel_rfl) (by kernel_rfl) (by kernel_rfl) (by kernel_rfl) (fun _ _ _ h => h) (.inl ⟨by rfl, fun w' _ => (by go_simp; rfl)⟩) hS ?_
          go_frame
          refine till_take 4 (some 68) rfl rfl (by kernel_rfl) (by kernel_rfl) (by kernel_rfl) (by kernel_rfl) (by kernel_rfl) (by kernel_rfl) (fun _ _ _ h => h) (.inl ⟨by rfl, fun w' _ => (by go_simp; rfl)⟩) hS ?_
          go_frame
          refine till_take 5 (some 69) rfl rfl (by kernel_rfl) (by kernel_rfl) (by kernel_rfl) (by kernel_rfl) (by kernel_rfl) (by kernel_rfl) (fun _ _ _ h => h) (.inl ⟨by rfl, fun w' _ => (by go_simp; rfl)⟩) hS ?_
          go_frame
          refine till_take 8 (some 72) rfl rfl (by kernel_rfl) (by kernel_rfl) (by kernel_rfl) (by kernel_rfl) (by kernel_rfl) (by kernel_rfl) (fun _ _ _ h => h) (.inl ⟨by rfl, fun w' _ => (by go_simp; rfl)⟩) hS ?_
          go_frame
          refine till_take 9 (some 73) rfl rfl (by kernel_rfl) (by kernel_rfl) (by kernel_rfl) (by kernel_rfl) (by kernel_rfl) (by kernel_rfl) (fun _ _ _ h => h) (.inl ⟨by rfl, fun w' _ => (by go_simp; rfl)⟩) hS ?_
          go_frame
          refine till_one 6 rfl (by kernel_rfl) fun K hK => ?_
          simp only [List.getElem_toArray, List.getElem_cons_succ, List.getElem_cons_zero]
          rw [if_pos (by rfl)]
          go_simp
          refine (ckey_any 1 _).mono ?_
          rintro e wa ⟨rfl, hb⟩
          have hS2 := below_at' hb hS
          have ODn := Lib.hid (OD.out.later hb); have RRn := Lib.hid (RR.out.later hb)
          refine hK _ _ (fun _ _ => hS2) ?_
          clear hK hS hb OD RR
          have hS := hS2
          have OD := ODn
          have RR := RRn
          clear hS2 ODn RRn
          refine till_one 7 rfl (by kernel_rfl) fun K hK => ?_
          simp only [List.getElem_toArray, List.getElem_cons_succ, List.getElem_cons_zero]
          rw [if_pos (by rfl)]
          go_simp
          obtain ⟨Fq, hst⟩ := OD.out.get
          refine (int_any (Look.of_st hst) HF3.out.f (ckey 1)).mono ?_
          rw [HALL.out.2.1, if_neg (show ¬ 0 < n by have := HN0.out; omega)]
          rintro e wb ⟨rfl, hb⟩
          have hS2 := below_at' hb hS
          have ODn := Lib.hid (OD.out.later hb); have RRn := Lib.hid (RR.out.later hb)
          clear hst
          refine hK _ _ (fun _ _ => hS2) ?_
          clear hK hS hb OD RR
          have hS := hS2
          have OD := ODn
          have RR := RRn
          clear hS2 ODn RRn
          refine till_take 10 (some 74) rfl rfl (by kernel_rfl) (by kernel_rfl) (by kernel_rfl) (by kernel_rfl) (by kernel_rfl) (by kernel_rfl) (fun _ _ _ h => h) (.inl ⟨by rfl, fun w' _ => (by go_simp; rfl)⟩) hS ?_
          go_frame
          refine till_take 11 (some 75) rfl rfl (by kernel_rfl) (by kernel_rfl) (by kernel_rfl) (by kernel_rfl) (by kernel_rfl) (by kernel_rfl) (fun _ _ _ h => h) (.inl ⟨by rfl, fun w' _ => (by go_simp; rfl)⟩) hS ?_
          go_frame
          refine till_take 12 (some 76) rfl rfl (by kernel_rfl) (by kernel_rfl) (by kernel_rfl) (by kernel_rfl) (by kernel_rfl) (by kernel_rfl) (fun _ _ _ h => h) (.inl ⟨by rfl, fun w' _ => (by go_simp; rfl)⟩) hS ?_
          go_frame
          refine till_take 13 (some 77) rfl rfl (by kernel_rfl) (by kernel_rfl) (by kernel_rfl) (by kernel_rfl) (by kernel_rfl) (by kernel_rfl) (fun _ _ _ h => h) (.inl ⟨by rfl, fun w' _ => (by go_simp; rfl)⟩) hS ?_
          go_frame
          refine till_take 16 (some 80) rfl rfl (by kernel_rfl) (by kernel_rfl) (by kernel_rfl) (by kernel_rfl) (by kernel_rfl) (by kernel_rfl) (fun _ _ _ h => h) (yields_load (by rfl) 30 _ rfl (.pointer (some ⟨X, 0, none⟩)) rfl (.agg #[.int .u64 a, .int .u64 b, .int .u64 c, .int .u64 d]) (fun w' hS' => load_heap hS' Try.underlying30 rfl Try.sizeU)) hS ?_
          go_frame
          refine till_one 14 rfl (by kernel_rfl) fun K hK => ?_
          simp only [List.getElem_toArray, List.getElem_cons_succ, List.getElem_cons_zero]
          rw [if_pos (by rfl)]
          go_simp
          refine (ckey_any 2 _).mono ?_
          rintro e wc ⟨rfl, hb⟩
          have hS2 := below_at' hb hS
          have ODn := Lib.hid (OD.out.later hb); have RRn := Lib.hid (RR.out.later hb)
          refine hK _ _ (fun _ _ => hS2) ?_
          clear hK hS hb OD RR
          have hS := hS2
          have OD := ODn
          have RR := RRn
          clear hS2 ODn RRn
          refine till_one 15 rfl (by kernel_rfl) fun K hK => ?_
          simp only [List.getElem_toArray, List.getElem_cons_succ, List.getElem_cons_zero]
          rw [if_pos (by rfl)]
          go_simp
          obtain ⟨Fq, hst⟩ := OD.out.get
          refine (camount_any (Look.of_st hst) HF3.out.f (ckey 2)).mono ?_
          rw [HALL.out.2.2.1]
          rintro e wd ⟨xa, xb, xc, xd, hu1, rfl, hb⟩
          have hS2 := below_at' hb hS
          have ODn := Lib.hid (OD.out.later hb); have RRn := Lib.hid (RR.out.later hb)
          have q2 := Try.eqUn hu1 HU.out
          rw [decide_eq_true rfl] at q2
          clear hu1
          clear hst
          refine hK _ _ (fun _ _ => hS2) ?_
          clear hK hS hb OD RR
          have hS := hS2
          have OD := ODn
          have RR := RRn
          clear hS2 ODn RRn
          refine till_take 17 (some 81) rfl rfl (by kernel_rfl) (by kernel_rfl) (by kernel_rfl) (by kernel_rfl) (by kernel_rfl) (by kernel_rfl) (fun _ _ _ h => h) (.inl ⟨by rfl, fun w' _ => (by go_simp; rfl)⟩) hS ?_
          go_frame
          refine till_take 18 (some 82) rfl rfl (by kernel_rfl) (by kernel_rfl) (by kernel_rfl) (by kernel_rfl) (by kernel_rfl) (by kernel_rfl) (fun _ _ _ h => h) (.inl ⟨by rfl, fun w' _ => (by go_simp; rfl)⟩) hS ?_
          go_frame
          refine till_take 19 (some 83) rfl rfl (by kernel_rfl) (by kernel_rfl) (by kernel_rfl) (by kernel_rfl) (by kernel_rfl) (by kernel_rfl) (fun _ _ _ h => h) (.inl ⟨by rfl, fun w' _ => (by go_simp; rfl)⟩) hS ?_
          go_frame
          refine till_take 20 (some 84) rfl rfl (by kernel_rfl) (by kernel_rfl) (by kernel_rfl) (by kernel_rfl) (by kernel_rfl) (by kernel_rfl) (fun _ _ _ h => h) (.inl ⟨by rfl, fun w' _ => (by go_simp; rfl)⟩) hS ?_
          go_frame
          refine till_take 21 (some 85) rfl rfl (by kernel_rfl) (by kernel_rfl) (by kernel_rfl) (by kernel_rfl) (by kernel_rfl) (by kernel_rfl) (fun _ _ _ h => h) (.inl ⟨by rfl, fun w' _ => (by go_simp; rfl)⟩) hS ?_
          go_frame
          refine till_take 22 (some 86) rfl rfl (by kernel_rfl) (by kernel_rfl) (by kernel_rfl) (by kernel_rfl) (by kernel_rfl) (by kernel_rfl) (fun _ _ _ h => h) (.inl ⟨by rfl, fun w' _ => (by go_simp; rfl)⟩) hS ?_
          go_frame
          refine till_take 23 (some 87) rfl rfl (by kernel_rfl) (by kernel_rfl) (by kernel_rfl) (by kernel_rfl) (by kernel_rfl) (by kernel_rfl) (fun _ _ _ h => h) (.inl ⟨by rfl, fun w' _ => (by go_simp; rfl)⟩) hS ?_
          go_frame
          refine till_take 24 (some 88) rfl rfl (by kernel_rfl) (by kernel_rfl) (by kernel_rfl) (by kernel_rfl) (by kernel_rfl) (by kernel_rfl) (fun _ _ _ h => h) (.inl ⟨by rfl, fun w' _ => (by go_simp; rfl)⟩) hS ?_
          go_frame
          refine till_take 25 (some 89) rfl rfl (by kernel_rfl) (by kernel_rfl) (by kernel_rfl) (by kernel_rfl) (by kernel_rfl) (by kernel_rfl) (fun _ _ _ h => h) (.inl ⟨by rfl, fun w' _ => (by go_simp; rfl)⟩) hS ?_
          go_frame
          refine till_one 26 rfl (by kernel_rfl) fun K hK => ?_
          simp only [List.getElem_toArray, List.getElem_cons_succ, List.getElem_cons_zero]
          rw [if_pos (by rfl)]
          go_simp
          refine (ints_any lr l _ _ _ RR.out (H.out.later OD.out.below)).mono ?_
          rw [decide_eq_true HLL.out]
          rintro e we ⟨rfl, hb⟩
          have hS2 := below_at' hb hS
          have ODn := Lib.hid (OD.out.later hb); have RRn := Lib.hid (RR.out.later hb)
          refine hK _ _ (fun _ _ => hS2) ?_
          clear hK hS hb OD RR
          have hS := hS2
          have OD := ODn
          have RR := RRn
          clear hS2 ODn RRn
          refine till_take 27 (some 91) rfl rfl (by kernel_rfl) (by kernel_rfl) (by kernel_rfl) (by kernel_rfl) (by kernel_rfl) (by kernel_rfl) (fun _ _ _ h => h) (.inl ⟨by rfl, fun w' _ => (by go_simp; rfl)⟩) hS ?_
          go_frame
          refine till_take 28 (some 92) rfl rfl (by kernel_rfl) (by kernel_rfl) (by kernel_rfl) (by kernel_rfl) (by kernel_rfl) (by kernel_rfl) (fun _ _ _ h => h) (.inl ⟨by rfl, fun w' _ => (by go_simp; rfl)⟩) hS ?_
          go_frame
          refine till_take 29 (some 93) rfl rfl (by kernel_rfl) (by kernel_rfl) (by kernel_rfl) (by kernel_rfl) (by kernel_rfl) (by kernel_rfl) (fun _ _ _ h => h) (.inl ⟨by rfl, fun w' _ => (by go_simp; rfl)⟩) hS ?_
          go_frame
          refine till_take 30 (some 94) rfl rfl (by kernel_rfl) (by kernel_rfl) (by kernel_rfl) (by kernel_rfl) (by kernel_rfl) (by kernel_rfl) (fun _ _ _ h => h) (.inl ⟨by rfl, fun w' _ => (by go_simp; rfl)⟩) hS ?_
          go_frame
          refine till_take 31 (some 95) rfl rfl (by kernel_rfl) (by kernel_rfl) (by kernel_rfl) (by kernel_rfl) (by kernel_rfl) (by kernel_rfl) (fun _ _ _ h => h) (.inl ⟨by rfl, fun w' _ => (by go_simp; rfl)⟩) hS ?_
          go_frame
          refine till_take 32 (some 96) rfl rfl (by kernel_rfl) (by kernel_rfl) (by kernel_rfl) (by kernel_rfl) (by kernel_rfl) (by kernel_rfl) (fun _ _ _ h => h) (.inl ⟨by rfl, fun w' _ => (by go_simp; rfl)⟩) hS ?_
          go_frame
          refine till_take 33 (some 97) rfl rfl (by kernel_rfl) (by kernel_rfl) (by kernel_rfl) (by kernel_rfl) (by kernel_rfl) (by kernel_rfl) (fun _ _ _ h => h) (.inl ⟨by rfl, fun w' _ => (by go_simp; rfl)⟩) hS ?_
          go_frame
          refine till_take 34 (some 98) rfl rfl (by kernel_rfl) (by kernel_rfl) (by kernel_rfl) (by kernel_rfl) (by kernel_rfl) (by kernel_rfl) (fun _ _ _ h => h) (.inl ⟨by rfl, fun w' _ => (by go_simp; rfl)⟩) hS ?_
          go_frame
          refine till_take 35 (some 99) rfl rfl (by kernel_rfl) (by kernel_rfl) (by kernel_rfl) (by kernel_rfl) (by kernel_rfl) (by kernel_rfl) (fun _ _ _ h => h) (.inl ⟨by rfl, fun w' _ => (by go_simp; rfl)⟩) hS ?_
          go_frame
          refine till_take 36 (some 100) rfl rfl (by kernel_rfl) (by kernel_rfl) (by kernel_rfl) (by kernel_rfl) (by kernel_rfl) (by kernel_rfl) (fun _ _ _ h => h) (.inl ⟨by rfl, fun w' _ => (by go_simp; rfl)⟩) hS ?_
          go_frame
          refine till_take 37 (some 101) rfl rfl (by kernel_rfl) (by kernel_rfl) (by kernel_rfl) (by kernel_rfl) (by kernel_rfl) (by kernel_rfl) (fun _ _ _ h => h) (.inl ⟨by rfl, fun w' _ => (by go_simp; rfl)⟩) hS ?_
          go_frame
          refine till_take 38 (some 102) rfl rfl (by kernel_rfl) (by kernel_rfl) (by kernel_rfl) (by kernel_rfl) (by kernel_rfl) (by kernel_rfl) (fun _ _ _ h => h) (.inl ⟨by rfl, fun w' _ => (by go_simp; rfl)⟩) hS ?_
          go_frame
          refine till_take 39 (some 103) rfl rfl (by kernel_rfl) (by kernel_rfl) (by kernel_rfl) (by kernel_rfl) (by kernel_rfl) (by kernel_rfl) (fun _ _ _ h => h) (.inl ⟨by rfl, fun w' _ => (by go_simp; rfl)⟩) hS ?_
          go_frame
          refine till_take 40 (some 104) rfl rfl (by kernel_rfl) (by kernel_rfl) (by kernel_rfl) (by kernel_rfl) (by kernel_rfl) (by kernel_rfl) (fun _ _ _ h => h) (.inl ⟨by rfl, fun w' _ => (by go_simp; rfl)⟩) hS ?_
          go_frame
          refine till_take 41 (some 105) rfl rfl (by kernel_rfl) (by kernel_rfl) (by kernel_rfl) (by kernel_rfl) (by kernel_rfl) (by kernel_rfl) (fun _ _ _ h => h) (.inl ⟨by rfl, fun w' _ => (by go_simp; rfl)⟩) hS ?_
          go_frame
          refine till_take 42 (some 106) rfl rfl (by kernel_rfl) (by kernel_rfl) (by kernel_rfl) (by kernel_rfl) (by kernel_rfl) (by kernel_rfl) (fun _ _ _ h => h) (.inl ⟨by rfl, fun w' _ => (by go_simp; rfl)⟩) hS ?_
          go_frame
          refine till_done (by kernel_rfl) ?_ _
          clear q1 q2
          clear RR
          have HXa := Lib.hid hS
          clear hS
          by_cases hh : m < uHalf
          · have hadd := back_add HU.out.lt HALL.out.2.2.2.2 HK4.out hh
            have HADD := Lib.hid hadd
            clear hadd hh
            go_wp2_with fail
            have ODx := Lib.hid (OD.out.later (Below.drew (Below.refl we.heap.size we)))
            have hS : we.drew.heap[X]? = some (.cells #[.int .u64 a, .int .u64 b, .int .u64 c, .int .u64 d] 30 (0, 0)) := HXa.out
            clear OD HXa
            have OD := ODx
            clear ODx
            refine wp_region_till (fun w' => w'.heap[X]? = some (.cells #[.int .u64 a, .int .u64 b, .int .u64 c, .int .u64 d] 30 (0, 0))) 5 5 (by kernel_rfl) rfl ?_
            refine till_take 0 (some 107) rfl rfl (by kernel_rfl) (by kernel_rfl) (by kernel_rfl) (by kernel_rfl) (by kernel_rfl) (by kernel_rfl) (fun _ _ _ h => h) (.inl ⟨by rfl, fun w' _ => (by go_simp; rfl)⟩) hS ?_
            go_frame
            refine till_take 2 (some 109) rfl rfl (by kernel_rfl) (by kernel_rfl) (by kernel_rfl) (by kernel_rfl) (by kernel_rfl) (by kernel_rfl) (fun _ _ _ h => h) (yields_load (by rfl) 30 _ rfl (.pointer (some ⟨X, 0, none⟩)) rfl (.agg #[.int .u64 a, .int .u64 b, .int .u64 c, .int .u64 d]) (fun w' hS' => load_heap hS' Try.underlying30 rfl Try.sizeU)) hS ?_
            go_frame
            refine till_one 1 rfl (by kernel_rfl) fun K hK => ?_
            simp only [List.getElem_toArray, List.getElem_cons_succ, List.getElem_cons_zero]
            rw [if_pos (by rfl)]
            go_simp
            refine (ckey_any 4 _).mono ?_
            rintro e wf ⟨rfl, hb⟩
            have hS2 := below_at' hb hS
            have ODn := Lib.hid (OD.out.later hb)
            refine hK _ _ (fun _ _ => hS2) ?_
            clear hK hS hb OD
            have hS := hS2
            have OD := ODn
            clear hS2 ODn
            refine till_one 3 rfl (by kernel_rfl) fun K hK => ?_
            simp only [List.getElem_toArray, List.getElem_cons_succ, List.getElem_cons_zero]
            rw [if_pos (by rfl)]
            go_simp
            refine (OD.out.st fun F hs => cadd_any hs (by have := HZ.out.2.2; omega) HF3.out (ckey 4) HU.out).mono ?_
            rw [HADD.out.1]
            rintro e wg ⟨rfl, o, hoth⟩
            have hS2 := hoth.2 X _ hS rfl rfl
            have ODn := Lib.hid o
            refine hK _ _ (fun _ _ => hS2) ?_
            clear hK hS hoth OD o
            have hS := hS2
            have OD := ODn
            clear hS2 ODn
            refine till_take 4 (some 13) rfl rfl (by kernel_rfl) (by kernel_rfl) (by kernel_rfl) (by kernel_rfl) (by kernel_rfl) (by kernel_rfl) (fun _ _ _ h => h) (.inl ⟨by rfl, fun w' _ => (by go_simp; rfl)⟩) hS ?_
            go_frame
            refine till_done (by kernel_rfl) ?_ _
            have HXb := Lib.hid hS
            clear hS
            go_wp2_with fail
            have ODx := Lib.hid (OD.out.later (Below.drew (Below.refl wg.heap.size wg)))
            have hS : wg.drew.heap[X]? = some (.cells #[.int .u64 a, .int .u64 b, .int .u64 c, .int .u64 d] 30 (0, 0)) := HXb.out
            clear OD HXb
            have OD := ODx
            clear ODx
            refine wp_region_till (fun w' => w'.heap[X]? = some (.cells #[.int .u64 a, .int .u64 b, .int .u64 c, .int .u64 d] 30 (0, 0))) 23 23 (by kernel_rfl) rfl ?_
            refine till_take 0 (some 111) rfl rfl (by kernel_rfl) (by kernel_rfl) (by kernel_rfl) (by kernel_rfl) (by kernel_rfl) (by kernel_rfl) (fun _ _ _ h => h) (.inl ⟨by rfl, fun w' _ => (by go_simp; rfl)⟩) hS ?_
            go_frame
            refine till_take 1 (some 112) rfl rfl (by kernel_rfl) (by kernel_rfl) (by kernel_rfl) (by kernel_rfl) (by kernel_rfl) (by kernel_rfl) (fun _ _ _ h => h) (.inl ⟨by rfl, fun w' _ => (by go_simp; rfl)⟩) hS ?_
            go_frame
            refine till_take 2 (some 113) rfl rfl (by kernel_rfl) (by kernel_rfl) (by kernel_rfl) (by kernel_rfl) (by kernel_rfl) (by kernel_rfl) (fun _ _ _ h => h) (.inl ⟨by rfl, fun w' _ => (by go_simp; rfl)⟩) hS ?_
            go_frame
            refine till_take 3 (some 114) rfl rfl (by kernel_rfl) (by kernel_rfl) (by kernel_rfl) (by kernel_rfl) (by kernel_rfl) (by kernel_rfl) (fun _ _ _ h => h) (.inl ⟨by rfl, fun w' _ => (by go_simp; rfl)⟩) hS ?_
            go_frame
            refine till_take 6 (some 117) rfl rfl (by kernel_rfl) (by kernel_rfl) (by kernel_rfl) (by kernel_rfl) (by kernel_rfl) (by kernel_rfl) (fun _ _ _ h => h) (yields_load (by rfl) 30 _ rfl (.pointer (some ⟨X, 0, none⟩)) rfl (.agg #[.int .u64 a, .int .u64 b, .int .u64 c, .int .u64 d]) (fun w' hS' => load_heap hS' Try.underlying30 rfl Try.sizeU)) hS ?_
            go_frame
            refine till_one 4 rfl (by kernel_rfl) fun K hK => ?_
            simp only [List.getElem_toArray, List.getElem_cons_succ, List.getElem_cons_zero]
            rw [if_pos (by rfl)]
            go_simp
            refine (ckey_any 4 _).mono ?_
            rintro e wh ⟨rfl, hb⟩
            have hS2 := below_at' hb hS
            have ODn := Lib.hid (OD.out.later hb)
            refine hK _ _ (fun _ _ => hS2) ?_
            clear hK hS hb OD
            have hS := hS2
            have OD := ODn
            clear hS2 ODn
            refine till_one 5 rfl (by kernel_rfl) fun K hK => ?_
            simp only [List.getElem_toArray, List.getElem_cons_succ, List.getElem_cons_zero]
            rw [if_pos (by rfl)]
            go_simp
            obtain ⟨Fq, hst⟩ := OD.out.get
            refine (camount_any (Look.of_st hst) (HF3.out.addA _ _).f (ckey 4)).mono ?_
            rw [HADD.out.2.1]
            rintro e wi ⟨xa, xb, xc, xd, hu1, rfl, hb⟩
            have hS2 := below_at' hb hS
            have ODn := Lib.hid (OD.out.later hb)
            have q2 := Try.eqUn hu1 HU.out
            rw [decide_eq_true rfl] at q2
            clear hu1 hst
            refine hK _ _ (fun _ _ => hS2) ?_
            clear hK hS hb OD
            have hS := hS2
            have OD := ODn
            clear hS2 ODn
            refine till_take 7 (some 118) rfl rfl (by kernel_rfl) (by kernel_rfl) (by kernel_rfl) (by kernel_rfl) (by kernel_rfl) (by kernel_rfl) (fun _ _ _ h => h) (.inl ⟨by rfl, fun w' _ => (by go_simp; rfl)⟩) hS ?_
            go_frame
            refine till_take 8 (some 119) rfl rfl (by kernel_rfl) (by kernel_rfl) (by kernel_rfl) (by kernel_rfl) (by kernel_rfl) (by kernel_rfl) (fun _ _ _ h => h) (.inl ⟨by rfl, fun w' _ => (by go_simp; rfl)⟩) hS ?_
            go_frame
            refine till_take 9 (some 120) rfl rfl (by kernel_rfl) (by kernel_rfl) (by kernel_rfl) (by kernel_rfl) (by kernel_rfl) (by kernel_rfl) (fun _ _ _ h => h) (.inl ⟨by rfl, fun w' _ => (by go_simp; rfl)⟩) hS ?_
            go_frame
            refine till_take 11 (some 122) rfl rfl (by kernel_rfl) (by kernel_rfl) (by kernel_rfl) (by kernel_rfl) (by kernel_rfl) (by kernel_rfl) (fun _ _ _ h => h) (yields_load (by rfl) 30 _ rfl (.pointer (some ⟨X, 0, none⟩)) rfl (.agg #[.int .u64 a, .int .u64 b, .int .u64 c, .int .u64 d]) (fun w' hS' => load_heap hS' Try.underlying30 rfl Try.sizeU)) hS ?_
            go_frame
            refine till_one 10 rfl (by kernel_rfl) fun K hK => ?_
            simp only [List.getElem_toArray, List.getElem_cons_succ, List.getElem_cons_zero]
            rw [if_pos (by rfl)]
            go_simp
            refine (ckey_any 4 _).mono ?_
            rintro e wj ⟨rfl, hb⟩
            have hS2 := below_at' hb hS
            have ODn := Lib.hid (OD.out.later hb)
            refine hK _ _ (fun _ _ => hS2) ?_
            clear hK hS hb OD
            have hS := hS2
            have OD := ODn
            clear hS2 ODn
            refine till_one 12 rfl (by kernel_rfl) fun K hK => ?_
            simp only [List.getElem_toArray, List.getElem_cons_succ, List.getElem_cons_zero]
            rw [if_pos (by rfl)]
            go_simp
            refine (OD.out.st fun F hs => csub_any hs (by have := HZ.out.2.2; have := sz_addA s3 (ckey 4) m; omega) (HF3.out.addA _ _) (ckey 4) HU.out).mono ?_
            rw [HADD.out.2.2.1]
            rintro e wk ⟨rfl, o, hoth⟩
            have hS2 := hoth.2 X _ hS rfl rfl
            have ODn := Lib.hid o
            refine hK _ _ (fun _ _ => hS2) ?_
            clear hK hS hoth OD o
            have hS := hS2
            have OD := ODn
            clear hS2 ODn
            refine till_take 13 (some 124) rfl rfl (by kernel_rfl) (by kernel_rfl) (by kernel_rfl) (by kernel_rfl) (by kernel_rfl) (by kernel_rfl) (fun _ _ _ h => h) (.inl ⟨by rfl, fun w' _ => (by go_simp; rfl)⟩) hS ?_
            go_frame
            refine till_take 14 (some 125) rfl rfl (by kernel_rfl) (by kernel_rfl) (by kernel_rfl) (by kernel_rfl) (by kernel_rfl) (by kernel_rfl) (fun _ _ _ h => h) (.inl ⟨by rfl, fun w' _ => (by go_simp; rfl)⟩) hS ?_
            go_frame
            refine till_take 15 (some 126) rfl rfl (by kernel_rfl) (by kernel_rfl) (by kernel_rfl) (by kernel_rfl) (by kernel_rfl) (by kernel_rfl) (fun _ _ _ h => h) (.inl ⟨by rfl, fun w' _ => (by go_simp; rfl)⟩) hS ?_
            go_frame
            refine till_take 16 (some 127) rfl rfl (by kernel_rfl) (by kernel_rfl) (by kernel_rfl) (by kernel_rfl) (by kernel_rfl) (by kernel_rfl) (fun _ _ _ h => h) (.inl ⟨by rfl, fun w' _ => (by go_simp; rfl)⟩) hS ?_
            go_frame
            refine till_take 19 (some 130) rfl rfl (by kernel_rfl) (by kernel_rfl) (by kernel_rfl) (by kernel_rfl) (by kernel_rfl) (by kernel_rfl) (fun _ _ _ h => h) (.inl ⟨by rfl, fun w' _ => (by go_simp; rfl)⟩) hS ?_
            go_frame
            refine till_one 17 rfl (by kernel_rfl) fun K hK => ?_
            simp only [List.getElem_toArray, List.getElem_cons_succ, List.getElem_cons_zero]
            rw [if_pos (by rfl)]
            go_simp
            refine (ckey_any 4 _).mono ?_
            rintro e wl ⟨rfl, hb⟩
            have hS2 := below_at' hb hS
            have ODn := Lib.hid (OD.out.later hb)
            refine hK _ _ (fun _ _ => hS2) ?_
            clear hK hS hb OD
            have hS := hS2
            have OD := ODn
            clear hS2 ODn
            refine till_one 18 rfl (by kernel_rfl) fun K hK => ?_
            simp only [List.getElem_toArray, List.getElem_cons_succ, List.getElem_cons_zero]
            rw [if_pos (by rfl)]
            go_simp
            obtain ⟨Fq, hst⟩ := OD.out.get
            refine (camount_any (Look.of_st hst) ((HF3.out.addA _ _).subA _ _).f (ckey 4)).mono ?_
            rw [HADD.out.2.2.2]
            rintro e wm ⟨ya, yb, yc, yd, hu1, rfl, hb⟩
            have hS2 := below_at' hb hS
            have ODn := Lib.hid (OD.out.later hb)
            have q3 := Try.eqUn hu1 UIs.zero
            rw [decide_eq_true rfl] at q3
            clear hu1 hst
            refine hK _ _ (fun _ _ => hS2) ?_
            clear hK hS hb OD
            have hS := hS2
            have OD := ODn
            clear hS2 ODn
            refine till_take 20 (some 131) rfl rfl (by kernel_rfl) (by kernel_rfl) (by kernel_rfl) (by kernel_rfl) (by kernel_rfl) (by kernel_rfl) (fun _ _ _ h => h) (.inl ⟨by rfl, fun w' _ => (by go_simp; rfl)⟩) hS ?_
            go_frame
            refine till_take 21 (some 132) rfl rfl (by kernel_rfl) (by kernel_rfl) (by kernel_rfl) (by kernel_rfl) (by kernel_rfl) (by kernel_rfl) (fun _ _ _ h => h) (.inl ⟨by rfl, fun w' _ => (by go_simp; rfl)⟩) hS ?_
            go_frame
            refine till_take 22 (some 133) rfl rfl (by kernel_rfl) (by kernel_rfl) (by kernel_rfl) (by kernel_rfl) (by kernel_rfl) (by kernel_rfl) (fun _ _ _ h => h) (.inl ⟨by rfl, fun w' _ => (by go_simp; rfl)⟩) hS ?_
            go_frame
            refine till_done (by kernel_rfl) ?_ _
            clear hS
            go_wp2_with fail
            refine (lives10_any _).mono ?_
            rintro e wz ⟨rfl, hb⟩
            have HBF := Lib.hid (OD.out.below.trans (hb.mono OD.out.below.size))
            clear hb
            go_wp2_with fail
            go_ret
            exact ⟨rfl, HBF.out⟩
          · have hadd := back_no HALL.out.2.2.2.2 HK4.out hh
            have HADD := Lib.hid hadd
            clear hadd hh
            go_wp2_with fail
            have ODx := Lib.hid (OD.out.later (Below.drew (Below.refl we.heap.size we)))
            have hS : we.drew.heap[X]? = some (.cells #[.int .u64 a, .int .u64 b, .int .u64 c, .int .u64 d] 30 (0, 0)) := HXa.out
            clear OD HXa
            have OD := ODx
            clear ODx
            refine wp_region_till (fun w' => w'.heap[X]? = some (.cells #[.int .u64 a, .int .u64 b, .int .u64 c, .int .u64 d] 30 (0, 0))) 5 5 (by kernel_rfl) rfl ?_
            refine till_take 0 (some 107) rfl rfl (by kernel_rfl) (by kernel_rfl) (by kernel_rfl) (by kernel_rfl) (by kernel_rfl) (by kernel_rfl) (fun _ _ _ h => h) (.inl ⟨by rfl, fun w' _ => (by go_simp; rfl)⟩) hS ?_
            go_frame
            refine till_take 2 (some 109) rfl rfl (by kernel_rfl) (by kernel_rfl) (by kernel_rfl) (by kernel_rfl) (by kernel_rfl) (by kernel_rfl) (fun _ _ _ h => h) (yields_load (by rfl) 30 _ rfl (.pointer (some ⟨X, 0, none⟩)) rfl (.agg #[.int .u64 a, .int .u64 b, .int .u64 c, .int .u64 d]) (fun w' hS' => load_heap hS' Try.underlying30 rfl Try.sizeU)) hS ?_
            go_frame
            refine till_one 1 rfl (by kernel_rfl) fun K hK => ?_
            simp only [List.getElem_toArray, List.getElem_cons_succ, List.getElem_cons_zero]
            rw [if_pos (by rfl)]
            go_simp
            refine (ckey_any 4 _).mono ?_
            rintro e wf ⟨rfl, hb⟩
            have hS2 := below_at' hb hS
            have ODn := Lib.hid (OD.out.later hb)
            refine hK _ _ (fun _ _ => hS2) ?_
            clear hK hS hb OD
            have hS := hS2
            have OD := ODn
            clear hS2 ODn
            refine till_one 3 rfl (by kernel_rfl) fun K hK => ?_
            simp only [List.getElem_toArray, List.getElem_cons_succ, List.getElem_cons_zero]
            rw [if_pos (by rfl)]
            go_simp
            refine (OD.out.st fun F hs => cadd_any hs (by have := HZ.out.2.2; omega) HF3.out (ckey 4) HU.out).mono ?_
            rw [HADD.out]
            rintro e wg ⟨rfl, o, hoth⟩
            have hS2 := hoth.2 X _ hS rfl rfl
            have ODn := Lib.hid o
            refine hK _ _ (fun _ _ => hS2) ?_
            clear hK hS hoth OD o
            have hS := hS2
            have OD := ODn
            clear hS2 ODn
            refine till_take 4 (some 13) rfl rfl (by kernel_rfl) (by kernel_rfl) (by kernel_rfl) (by kernel_rfl) (by kernel_rfl) (by kernel_rfl) (fun _ _ _ h => h) (.inl ⟨by rfl, fun w' _ => (by go_simp; rfl)⟩) hS ?_
            go_frame
            refine till_done (by kernel_rfl) ?_ _
            have HXb := Lib.hid hS
            clear hS
            go_wp2_with fail
            have ODx := Lib.hid (OD.out.later (Below.drew (Below.refl wg.heap.size wg)))
            have hS : wg.drew.heap[X]? = some (.cells #[.int .u64 a, .int .u64 b, .int .u64 c, .int .u64 d] 30 (0, 0)) := HXb.out
            clear OD HXb
            have OD := ODx
            clear ODx
            refine wp_region_till (fun w' => w'.heap[X]? = some (.cells #[.int .u64 a, .int .u64 b, .int .u64 c, .int .u64 d] 30 (0, 0))) 23 23 (by kernel_rfl) rfl ?_
            refine till_take 0 (some 111) rfl rfl (by kernel_rfl) (by kernel_rfl) (by kernel_rfl) (by kernel_rfl) (by kernel_rfl) (by kernel_rfl) (fun _ _ _ h => h) (.inl ⟨by rfl, fun w' _ => (by go_simp; rfl)⟩) hS ?_
            go_frame
            refine till_take 1 (some 112) rfl rfl (by kernel_rfl) (by kernel_rfl) (by kernel_rfl) (by kernel_rfl) (by kernel_rfl) (by kernel_rfl) (fun _ _ _ h => h) (.inl ⟨by rfl, fun w' _ => (by go_simp; rfl)⟩) hS ?_
            go_frame
            refine till_take 2 (some 113) rfl rfl (by kernel_rfl) (by kernel_rfl) (by kernel_rfl) (by kernel_rfl) (by kernel_rfl) (by kernel_rfl) (fun _ _ _ h => h) (.inl ⟨by rfl, fun w' _ => (by go_simp; rfl)⟩) hS ?_
            go_frame
            refine till_take 3 (some 114) rfl rfl (by kernel_rfl) (by kernel_rfl) (by kernel_rfl) (by kernel_rfl) (by kernel_rfl) (by kernel_rfl) (fun _ _ _ h => h) (.inr ⟨by rfl, rfl⟩) hS ?_
            go_frame
            refine till_take 4 (some 115) rfl rfl (by kernel_rfl) (by kernel_rfl) (by kernel_rfl) (by kernel_rfl) (by kernel_rfl) (by kernel_rfl) (fun _ _ _ h => h) (.inr ⟨by rfl, rfl⟩) hS ?_
            go_frame
            refine till_take 5 (some 116) rfl rfl (by kernel_rfl) (by kernel_rfl) (by kernel_rfl) (by kernel_rfl) (by kernel_rfl) (by kernel_rfl) (fun _ _ _ h => h) (.inr ⟨by rfl, rfl⟩) hS ?_
            go_frame
            refine till_take 6 (some 117) rfl rfl (by kernel_rfl) (by kernel_rfl) (by kernel_rfl) (by kernel_rfl) (by kernel_rfl) (by kernel_rfl) (fun _ _ _ h => h) (.inr ⟨by rfl, rfl⟩) hS ?_
            go_frame
            refine till_take 7 (some 118) rfl rfl (by kernel_rfl) (by kernel_rfl) (by kernel_rfl) (by kernel_rfl) (by kernel_rfl) (by kernel_rfl) (fun _ _ _ h => h) (.inr ⟨by rfl, rfl⟩) hS ?_
            go_frame
            refine till_take 8 (some 119) rfl rfl (by kernel_rfl) (by kernel_rfl) (by kernel_rfl) (by kernel_rfl) (by kernel_rfl) (by kernel_rfl) (fun _ _ _ h => h) (.inr ⟨by rfl, rfl⟩) hS ?_
            go_frame
            refine till_take 9 (some 120) rfl rfl (by kernel_rfl) (by kernel_rfl) (by kernel_rfl) (by kernel_rfl) (by kernel_rfl) (by kernel_rfl) (fun _ _ _ h => h) (.inr ⟨by rfl, rfl⟩) hS ?_
            go_frame
            refine till_take 10 (some 121) rfl rfl (by kernel_rfl) (by kernel_rfl) (by kernel_rfl) (by kernel_rfl) (by kernel_rfl) (by kernel_rfl) (fun _ _ _ h => h) (.inr ⟨by rfl, rfl⟩) hS ?_
            go_frame
            refine till_take 11 (some 122) rfl rfl (by kernel_rfl) (by kernel_rfl) (by kernel_rfl) (by kernel_rfl) (by kernel_rfl) (by kernel_rfl) (fun _ _ _ h => h) (.inr ⟨by rfl, rfl⟩) hS ?_
            go_frame
            refine till_take 12 (some 123) rfl rfl (by kernel_rfl) (by kernel_rfl) (by kernel_rfl) (by kernel_rfl) (by kernel_rfl) (by kernel_rfl) (fun _ _ _ h => h) (.inr ⟨by rfl, rfl⟩) hS ?_
            go_frame
            refine till_take 13 (some 124) rfl rfl (by kernel_rfl) (by kernel_rfl) (by kernel_rfl) (by kernel_rfl) (by kernel_rfl) (by kernel_rfl) (fun _ _ _ h => h) (.inr ⟨by rfl, rfl⟩) hS ?_
            go_frame
            refine till_take 14 (some 125) rfl rfl (by kernel_rfl) (by kernel_rfl) (by kernel_rfl) (by kernel_rfl) (by kernel_rfl) (by kernel_rfl) (fun _ _ _ h => h) (.inr ⟨by rfl, rfl⟩) hS ?_
            go_frame
            refine till_take 15 (some 126) rfl rfl (by kernel_rfl) (by kernel_rfl) (by kernel_rfl) (by kernel_rfl) (by kernel_rfl) (by kernel_rfl) (fun _ _ _ h => h) (.inr ⟨by rfl, rfl⟩) hS ?_
            go_frame
            refine till_take 16 (some 127) rfl rfl (by kernel_rfl) (by kernel_rfl) (by kernel_rfl) (by kernel_rfl) (by kernel_rfl) (by kernel_rfl) (fun _ _ _ h => h) (.inr ⟨by rfl, rfl⟩) hS ?_
            go_frame
            refine till_take 17 (some 128) rfl rfl (by kernel_rfl) (by kernel_rfl) (by kernel_rfl) (by kernel_rfl) (by kernel_rfl) (by kernel_rfl) (fun _ _ _ h => h) (.inr ⟨by rfl, rfl⟩) hS ?_
            go_frame
            refine till_take 18 (some 129) rfl rfl (by kernel_rfl) (by kernel_rfl) (by kernel_rfl) (by kernel_rfl) (by kernel_rfl) (by kernel_rfl) (fun _ _ _ h => h) (.inr ⟨by rfl, rfl⟩) hS ?_
            go_frame
            refine till_take 19 (some 130) rfl rfl (by kernel_rfl) (by kernel_rfl) (by kernel_rfl) (by kernel_rfl) (by kernel_rfl) (by kernel_rfl) (fun _ _ _ h => h) (.inr ⟨by rfl, rfl⟩) hS ?_
            go_frame
            refine till_take 20 (some 131) rfl rfl (by kernel_rfl) (by kernel_rfl) (by kernel_rfl) (by kernel_rfl) (by kernel_rfl) (by kernel_rfl) (fun _ _ _ h => h) (.inr ⟨by rfl, rfl⟩) hS ?_
            go_frame
            refine till_take 21 (some 132) rfl rfl (by kernel_rfl) (by kernel_rfl) (by kernel_rfl) (by kernel_rfl) (by kernel_rfl) (by kernel_rfl) (fun _ _ _ h => h) (.inr ⟨by rfl, rfl⟩) hS ?_
            go_frame
            refine till_take 22 (some 133) rfl rfl (by kernel_rfl) (by kernel_rfl) (by kernel_rfl) (by kernel_rfl) (by kernel_rfl) (by kernel_rfl) (fun _ _ _ h => h) (.inl ⟨by rfl, fun w' _ => (by go_simp; rfl)⟩) hS ?_
            go_frame
            refine till_done (by kernel_rfl) ?_ _
            clear hS
            go_wp2_with fail
            refine (lives10_any _).mono ?_
            rintro e wz ⟨rfl, hb⟩
            have HBF := Lib.hid (OD.out.below.trans (hb.mono OD.out.below.size))
            clear hb
            go_wp2_with fail
            go_ret
            exact ⟨rfl, HBF.out⟩
      · have HM0 := Lib.hid m0
        clear m0
        by_cases l0 : l = []
        · have q0 : ¬ 0 < q := by rw [HQ.out, l0]; decide
          have hl : lr = [] := by rw [HLR.out, l0]; simp
          have hp0 : p = 0 := by rw [HP.out, hl]; rfl
          have HLC := Lib.hid l0
          subst hp0
          clear l0 hl
          have hlen : s3.t.length = 1 := by rw [HALL.out.1, if_neg (show ¬ 0 < n by have := HN0.out; omega), if_neg HM0.out, if_pos (.inl HLC.out)]
          have HLEN := Lib.hid hlen
          clear hlen
          have q1 := Try.eqUn HU.out UIs.zero
          rw [decide_eq_false HM0.out] at q1
          go_wp2_with (refine wpList_load_row rfl 30 _ rfl X rfl 30 _ _ _ HX9.out Try.underlying30 rfl Try.sizeU ?_)
          have OD := Lib.hid (O9.out.later (Below.drew (Below.refl w9.heap.size w9)))
          have RR := Lib.hid (HRR.out.later (Below.drew (Below.refl w9.heap.size w9)))
          have hS : w9.drew.heap[X]? = some (.cells #[.int .u64 a, .int .u64 b, .int .u64 c, .int .u64 d] 30 (0, 0)) := HX9.out
          clear O9 HRR HX9
          refine wp_region_till (fun w' => w'.heap[X]? = some (.cells #[.int .u64 a, .int .u64 b, .int .u64 c, .int .u64 d] 30 (0, 0))) 43 43 (by kernel_rfl) rfl ?_
          refine till_take 0 (some 64) rfl rfl (by kernel_rfl) (by kernel_rfl) (by kernel_rfl) (by kernel_rfl) (by kernel_rfl) (by kernel_rfl) (fun _ _ _ h => h) (.inl ⟨by rfl, fun w' _ => (by go_simp; rfl)⟩) hS ?_
          go_frame
          refine till_take 2 (some 66) rfl rfl (by kernel_rfl) (by kernel_rfl) (by kernel_rfl) (by kernel_rfl) (by kernel_rfl) (by kernel_rfl) (fun _ _ _ h => h) (.inl ⟨by rfl, fun w' _ => (by go_simp; rfl)⟩) hS ?_
          go_frame
          refine till_one 1 rfl (by kernel_rfl) fun K hK => ?_
          simp only [List.getElem_toArray, List.getElem_cons_succ, List.getElem_cons_zero]
          rw [if_pos (by rfl)]
          go_simp
          obtain ⟨Fq, hst⟩ := OD.out.get
          refine (slen_any hst).mono ?_
          rw [HLEN.out]
          rintro e wx ⟨rfl, rfl⟩
          clear hst
          refine hK _ _ (fun _ _ => hS) ?_
          clear hK
          refine till_take 3 (some 67) rfl rfl (by kernel_rfl) (by kernel_rfl) (by kernel_rfl) (by kernel_rfl) (by kernel_rfl) (by kernel_rfl) (fun _ _ _ h => h) (.inl ⟨by rfl, fun w' _ => (by go_simp; rfl)⟩) hS ?_
          go_frame
          refine till_take 4 (some 68) rfl rfl (by kernel_rfl) (by kernel_rfl) (by kernel_rfl) (by kernel_rfl) (by kernel_rfl) (by kernel_rfl) (fun _ _ _ h => h) (.inl ⟨by rfl, fun w' _ => (by go_simp; rfl)⟩) hS ?_
          go_frame
          refine till_take 5 (some 69) rfl rfl (by kernel_rfl) (by kernel_rfl) (by kernel_rfl) (by kernel_rfl) (by kernel_rfl) (by kernel_rfl) (fun _ _ _ h => h) (.inl ⟨by rfl, fun w' _ => (by go_simp; rfl)⟩) hS ?_
          go_frame
          refine till_take 8 (some 72) rfl rfl (by kernel_rfl) (by kernel_rfl) (by kernel_rfl) (by kernel_rfl) (by kernel_rfl) (by kernel_rfl) (fun _ _ _ h => h) (.inl ⟨by rfl, fun w' _ => (by go_simp; rfl)⟩) hS ?_
          go_frame
          refine till_take 9 (some 73) rfl rfl (by kernel_rfl) (by kernel_rfl) (by kernel_rfl) (by kernel_rfl) (by kernel_rfl) (by kernel_rfl) (fun _ _ _ h => h) (.inl ⟨by rfl, fun w' _ => (by go_simp; rfl)⟩) hS ?_
          go_frame
          refine till_one 6 rfl (by kernel_rfl) fun K hK => ?_
          simp only [List.getElem_toArray, List.getElem_cons_succ, List.getElem_cons_zero]
          rw [if_pos (by rfl)]
          go_simp
          refine (ckey_any 1 _).mono ?_
          rintro e wa ⟨rfl, hb⟩
          have hS2 := below_at' hb hS
          have ODn := Lib.hid (OD.out.later hb); have RRn := Lib.hid (RR.out.later hb)
          refine hK _ _ (fun _ _ => hS2) ?_
          clear hK hS hb OD RR
          have hS := hS2
          have OD := ODn
          have RR := RRn
          clear hS2 ODn RRn
          refine till_one 7 rfl (by kernel_rfl) fun K hK => ?_
          simp only [List.getElem_toArray, List.getElem_cons_succ, List.getElem_cons_zero]
          rw [if_pos (by rfl)]
          go_simp
          obtain ⟨Fq, hst⟩ := OD.out.get
          refine (int_any (Look.of_st hst) HF3.out.f (ckey 1)).mono ?_
          rw [HALL.out.2.1, if_neg (show ¬ 0 < n by have := HN0.out; omega)]
          rintro e wb ⟨rfl, hb⟩
          have hS2 := below_at' hb hS
          have ODn := Lib.hid (OD.out.later hb); have RRn := Lib.hid (RR.out.later hb)
          clear hst
          refine hK _ _ (fun _ _ => hS2) ?_
          clear hK hS hb OD RR
          have hS := hS2
          have OD := ODn
          have RR := RRn
          clear hS2 ODn RRn
          refine till_take 10 (some 74) rfl rfl (by kernel_rfl) (by kernel_rfl) (by kernel_rfl) (by kernel_rfl) (by kernel_rfl) (by kernel_rfl) (fun _ _ _ h => h) (.inl ⟨by rfl, fun w' _ => (by go_simp; rfl)⟩) hS ?_
          go_frame
          refine till_take 11 (some 75) rfl rfl (by kernel_rfl) (by kernel_rfl) (by kernel_rfl) (by kernel_rfl) (by kernel_rfl) (by kernel_rfl) (fun _ _ _ h => h) (.inl ⟨by rfl, fun w' _ => (by go_simp; rfl)⟩) hS ?_
          go_frame
          refine till_take 12 (some 76) rfl rfl (by kernel_rfl) (by kernel_rfl) (by kernel_rfl) (by kernel_rfl) (by kernel_rfl) (by kernel_rfl) (fun _ _ _ h => h) (.inl ⟨by rfl, fun w' _ => (by go_simp; rfl)⟩) hS ?_
          go_frame
          refine till_take 13 (some 77) rfl rfl (by kernel_rfl) (by kernel_rfl) (by kernel_rfl) (by kernel_rfl) (by kernel_rfl) (by kernel_rfl) (fun _ _ _ h => h) (.inl ⟨by rfl, fun w' _ => (by go_simp; rfl)⟩) hS ?_
          go_frame
          refine till_take 16 (some 80) rfl rfl (by kernel_rfl) (by kernel_rfl) (by kernel_rfl) (by kernel_rfl) (by kernel_rfl) (by kernel_rfl) (fun _ _ _ h => h) (yields_load (by rfl) 30 _ rfl (.pointer (some ⟨X, 0, none⟩)) rfl (.agg #[.int .u64 a, .int .u64 b, .int .u64 c, .int .u64 d]) (fun w' hS' => load_heap hS' Try.underlying30 rfl Try.sizeU)) hS ?_
          go_frame
          refine till_one 14 rfl (by kernel_rfl) fun K hK => ?_
          simp only [List.getElem_toArray, List.getElem_cons_succ, List.getElem_cons_zero]
          rw [if_pos (by rfl)]
          go_simp
          refine (ckey_any 2 _).mono ?_
          rintro e wc ⟨rfl, hb⟩
          have hS2 := below_at' hb hS
          have ODn := Lib.hid (OD.out.later hb); have RRn := Lib.hid (RR.out.later hb)
          refine hK _ _ (fun _ _ => hS2) ?_
          clear hK hS hb OD RR
          have hS := hS2
          have OD := ODn
          have RR := RRn
          clear hS2 ODn RRn
          refine till_one 15 rfl (by kernel_rfl) fun K hK => ?_
          simp only [List.getElem_toArray, List.getElem_cons_succ, List.getElem_cons_zero]
          rw [if_pos (by rfl)]
          go_simp
          obtain ⟨Fq, hst⟩ := OD.out.get
          refine (camount_any (Look.of_st hst) HF3.out.f (ckey 2)).mono ?_
          rw [HALL.out.2.2.1]
          rintro e wd ⟨xa, xb, xc, xd, hu1, rfl, hb⟩
          have hS2 := below_at' hb hS
          have ODn := Lib.hid (OD.out.later hb); have RRn := Lib.hid (RR.out.later hb)
          have q2 := Try.eqUn hu1 HU.out
          rw [decide_eq_true rfl] at q2
          clear hu1
          clear hst
          refine hK _ _ (fun _ _ => hS2) ?_
          clear hK hS hb OD RR
          have hS := hS2
          have OD := ODn
          have RR := RRn
          clear hS2 ODn RRn
          refine till_take 17 (some 81) rfl rfl (by kernel_rfl) (by kernel_rfl) (by kernel_rfl) (by kernel_rfl) (by kernel_rfl) (by kernel_rfl) (fun _ _ _ h => h) (.inl ⟨by rfl, fun w' _ => (by go_simp; rfl)⟩) hS ?_
          go_frame
          refine till_take 18 (some 82) rfl rfl (by kernel_rfl) (by kernel_rfl) (by kernel_rfl) (by kernel_rfl) (by kernel_rfl) (by kernel_rfl) (fun _ _ _ h => h) (.inl ⟨by rfl, fun w' _ => (by go_simp; rfl)⟩) hS ?_
          go_frame
          refine till_take 19 (some 83) rfl rfl (by kernel_rfl) (by kernel_rfl) (by kernel_rfl) (by kernel_rfl) (by kernel_rfl) (by kernel_rfl) (fun _ _ _ h => h) (.inl ⟨by rfl, fun w' _ => (by go_simp; rfl)⟩) hS ?_
          go_frame
          refine till_take 20 (some 84) rfl rfl (by kernel_rfl) (by kernel_rfl) (by kernel_rfl) (by kernel_rfl) (by kernel_rfl) (by kernel_rfl) (fun _ _ _ h => h) (.inl ⟨by rfl, fun w' _ => (by go_simp; rfl)⟩) hS ?_
          go_frame
          refine till_take 21 (some 85) rfl rfl (by kernel_rfl) (by kernel_rfl) (by kernel_rfl) (by kernel_rfl) (by kernel_rfl) (by kernel_rfl) (fun _ _ _ h => h) (.inl ⟨by rfl, fun w' _ => (by go_simp; rfl)⟩) hS ?_
          go_frame
          refine till_take 22 (some 86) rfl rfl (by kernel_rfl) (by kernel_rfl) (by kernel_rfl) (by kernel_rfl) (by kernel_rfl) (by kernel_rfl) (fun _ _ _ h => h) (.inl ⟨by rfl, fun w' _ => (by go_simp; rfl)⟩) hS ?_
          go_frame
          refine till_take 23 (some 87) rfl rfl (by kernel_rfl) (by kernel_rfl) (by kernel_rfl) (by kernel_rfl) (by kernel_rfl) (by kernel_rfl) (fun _ _ _ h => h) (.inl ⟨by rfl, fun w' _ => (by go_simp; rfl)⟩) hS ?_
          go_frame
          refine till_take 24 (some 88) rfl rfl (by kernel_rfl) (by kernel_rfl) (by kernel_rfl) (by kernel_rfl) (by kernel_rfl) (by kernel_rfl) (fun _ _ _ h => h) (.inr ⟨by rfl, rfl⟩) hS ?_
          go_frame
          refine till_take 25 (some 89) rfl rfl (by kernel_rfl) (by kernel_rfl) (by kernel_rfl) (by kernel_rfl) (by kernel_rfl) (by kernel_rfl) (fun _ _ _ h => h) (.inr ⟨by rfl, rfl⟩) hS ?_
          go_frame
          refine till_take 26 (some 90) rfl rfl (by kernel_rfl) (by kernel_rfl) (by kernel_rfl) (by kernel_rfl) (by kernel_rfl) (by kernel_rfl) (fun _ _ _ h => h) (.inr ⟨by rfl, rfl⟩) hS ?_
          go_frame
          refine till_take 27 (some 91) rfl rfl (by kernel_rfl) (by kernel_rfl) (by kernel_rfl) (by kernel_rfl) (by kernel_rfl) (by kernel_rfl) (fun _ _ _ h => h) (.inr ⟨by rfl, rfl⟩) hS ?_
          go_frame
          refine till_take 28 (some 92) rfl rfl (by kernel_rfl) (by kernel_rfl) (by kernel_rfl) (by kernel_rfl) (by kernel_rfl) (by kernel_rfl) (fun _ _ _ h => h) (.inl ⟨by rfl, fun w' _ => (by go_simp; rfl)⟩) hS ?_
          go_frame
          refine till_take 29 (some 93) rfl rfl (by kernel_rfl) (by kernel_rfl) (by kernel_rfl) (by kernel_rfl) (by kernel_rfl) (by kernel_rfl) (fun _ _ _ h => h) (.inl ⟨by rfl, fun w' _ => (by go_simp; rfl)⟩) hS ?_
          go_frame
          refine till_take 30 (some 94) rfl rfl (by kernel_rfl) (by kernel_rfl) (by kernel_rfl) (by kernel_rfl) (by kernel_rfl) (by kernel_rfl) (fun _ _ _ h => h) (.inl ⟨by rfl, fun w' _ => (by go_simp; rfl)⟩) hS ?_
          go_frame
          refine till_take 31 (some 95) rfl rfl (by kernel_rfl) (by kernel_rfl) (by kernel_rfl) (by kernel_rfl) (by kernel_rfl) (by kernel_rfl) (fun _ _ _ h => h) (.inl ⟨by rfl, fun w' _ => (by go_simp; rfl)⟩) hS ?_
          go_frame
          refine till_take 32 (some 96) rfl rfl (by kernel_rfl) (by kernel_rfl) (by kernel_rfl) (by kernel_rfl) (by kernel_rfl) (by kernel_rfl) (fun _ _ _ h => h) (.inl ⟨by rfl, fun w' _ => (by go_simp; rfl)⟩) hS ?_
          go_frame
          refine till_take 33 (some 97) rfl rfl (by kernel_rfl) (by kernel_rfl) (by kernel_rfl) (by kernel_rfl) (by kernel_rfl) (by kernel_rfl) (fun _ _ _ h => h) (.inl ⟨by rfl, fun w' _ => (by go_simp; rfl)⟩) hS ?_
          go_frame
          refine till_take 34 (some 98) rfl rfl (by kernel_rfl) (by kernel_rfl) (by kernel_rfl) (by kernel_rfl) (by kernel_rfl) (by kernel_rfl) (fun _ _ _ h => h) (.inl ⟨by rfl, fun w' _ => (by go_simp; rfl)⟩) hS ?_
          go_frame
          refine till_take 35 (some 99) rfl rfl (by kernel_rfl) (by kernel_rfl) (by kernel_rfl) (by kernel_rfl) (by kernel_rfl) (by kernel_rfl) (fun _ _ _ h => h) (.inl ⟨by rfl, fun w' _ => (by go_simp; rfl)⟩) hS ?_
          go_frame
          refine till_take 36 (some 100) rfl rfl (by kernel_rfl) (by kernel_rfl) (by kernel_rfl) (by kernel_rfl) (by kernel_rfl) (by kernel_rfl) (fun _ _ _ h => h) (.inl ⟨by rfl, fun w' _ => (by go_simp; rfl)⟩) hS ?_
          go_frame
          refine till_take 37 (some 101) rfl rfl (by kernel_rfl) (by kernel_rfl) (by kernel_rfl) (by kernel_rfl) (by kernel_rfl) (by kernel_rfl) (fun _ _ _ h => h) (.inl ⟨by rfl, fun w' _ => (by go_simp; rfl)⟩) hS ?_
          go_frame
          refine till_take 38 (some 102) rfl rfl (by kernel_rfl) (by kernel_rfl) (by kernel_rfl) (by kernel_rfl) (by kernel_rfl) (by kernel_rfl) (fun _ _ _ h => h) (.inr ⟨by rfl, rfl⟩) hS ?_
          go_frame
          refine till_take 39 (some 103) rfl rfl (by kernel_rfl) (by kernel_rfl) (by kernel_rfl) (by kernel_rfl) (by kernel_rfl) (by kernel_rfl) (fun _ _ _ h => h) (.inr ⟨by rfl, rfl⟩) hS ?_
          go_frame
          refine till_take 40 (some 104) rfl rfl (by kernel_rfl) (by kernel_rfl) (by kernel_rfl) (by kernel_rfl) (by kernel_rfl) (by kernel_rfl) (fun _ _ _ h => h) (.inl ⟨by rfl, fun w' _ => (by go_simp; rfl)⟩) hS ?_
          go_frame
          refine till_take 41 (some 105) rfl rfl (by kernel_rfl) (by kernel_rfl) (by kernel_rfl) (by kernel_rfl) (by kernel_rfl) (by kernel_rfl) (fun _ _ _ h => h) (.inl ⟨by rfl, fun w' _ => (by go_simp; rfl)⟩) hS ?_
          go_frame
          refine till_take 42 (some 106) rfl rfl (by kernel_rfl) (by kernel_rfl) (by kernel_rfl) (by kernel_rfl) (by kernel_rfl) (by kernel_rfl) (fun _ _ _ h => h) (.inl ⟨by rfl, fun w' _ => (by go_simp; rfl)⟩) hS ?_
          go_frame
          refine till_done (by kernel_rfl) ?_ _
          clear q1 q2
          clear RR
          have HXa := Lib.hid hS
          clear hS
          by_cases hh : m < uHalf
          · have hadd := back_add HU.out.lt HALL.out.2.2.2.2 HK4.out hh
            have HADD := Lib.hid hadd
            clear hadd hh
            go_wp2_with fail
            have ODx := Lib.hid (OD.out.later (Below.drew (Below.refl wd.heap.size wd)))
            have hS : wd.drew.heap[X]? = some (.cells #[.int .u64 a, .int .u64 b, .int .u64 c, .int .u64 d] 30 (0, 0)) := HXa.out
            clear OD HXa
            have OD := ODx
            clear ODx
            refine wp_region_till (fun w' => w'.heap[X]? = some (.cells #[.int .u64 a, .int .u64 b, .int .u64 c, .int .u64 d] 30 (0, 0))) 5 5 (by kernel_rfl) rfl ?_
            refine till_take 0 (some 107) rfl rfl (by kernel_rfl) (by kernel_rfl) (by kernel_rfl) (by kernel_rfl) (by kernel_rfl) (by kernel_rfl) (fun _ _ _ h => h) (.inl ⟨by rfl, fun w' _ => (by go_simp; rfl)⟩) hS ?_
            go_frame
            refine till_take 2 (some 109) rfl rfl (by kernel_rfl) (by kernel_rfl) (by kernel_rfl) (by kernel_rfl) (by kernel_rfl) (by kernel_rfl) (fun _ _ _ h => h) (yields_load (by rfl) 30 _ rfl (.pointer (some ⟨X, 0, none⟩)) rfl (.agg #[.int .u64 a, .int .u64 b, .int .u64 c, .int .u64 d]) (fun w' hS' => load_heap hS' Try.underlying30 rfl Try.sizeU)) hS ?_
            go_frame
            refine till_one 1 rfl (by kernel_rfl) fun K hK => ?_
            simp only [List.getElem_toArray, List.getElem_cons_succ, List.getElem_cons_zero]
            rw [if_pos (by rfl)]
            go_simp
            refine (ckey_any 4 _).mono ?_
            rintro e wf ⟨rfl, hb⟩
            have hS2 := below_at' hb hS
            have ODn := Lib.hid (OD.out.later hb)
            refine hK _ _ (fun _ _ => hS2) ?_
            clear hK hS hb OD
            have hS := hS2
            have OD := ODn
            clear hS2 ODn
            refine till_one 3 rfl (by kernel_rfl) fun K hK => ?_
            simp only [List.getElem_toArray, List.getElem_cons_succ, List.getElem_cons_zero]
            rw [if_pos (by rfl)]
            go_simp
            refine (OD.out.st fun F hs => cadd_any hs (by have := HZ.out.2.2; omega) HF3.out (ckey 4) HU.out).mono ?_
            rw [HADD.out.1]
            rintro e wg ⟨rfl, o, hoth⟩
            have hS2 := hoth.2 X _ hS rfl rfl
            have ODn := Lib.hid o
            refine hK _ _ (fun _ _ => hS2) ?_
            clear hK hS hoth OD o
            have hS := hS2
            have OD := ODn
            clear hS2 ODn
            refine till_take 4 (some 13) rfl rfl (by kernel_rfl) (by kernel_rfl) (by kernel_rfl) (by kernel_rfl) (by kernel_rfl) (by kernel_rfl) (fun _ _ _ h => h) (.inl ⟨by rfl, fun w' _ => (by go_simp; rfl)⟩) hS ?_
            go_frame
            refine till_done (by kernel_rfl) ?_ _
            have HXb := Lib.hid hS
            clear hS
            go_wp2_with fail
            have ODx := Lib.hid (OD.out.later (Below.drew (Below.refl wg.heap.size wg)))
            have hS : wg.drew.heap[X]? = some (.cells #[.int .u64 a, .int .u64 b, .int .u64 c, .int .u64 d] 30 (0, 0)) := HXb.out
            clear OD HXb
            have OD := ODx
            clear ODx
            refine wp_region_till (fun w' => w'.heap[X]? = some (.cells #[.int .u64 a, .int .u64 b, .int .u64 c, .int .u64 d] 30 (0, 0))) 23 23 (by kernel_rfl) rfl ?_
            refine till_take 0 (some 111) rfl rfl (by kernel_rfl) (by kernel_rfl) (by kernel_rfl) (by kernel_rfl) (by kernel_rfl) (by kernel_rfl) (fun _ _ _ h => h) (.inl ⟨by rfl, fun w' _ => (by go_simp; rfl)⟩) hS ?_
            go_frame
            refine till_take 1 (some 112) rfl rfl (by kernel_rfl) (by kernel_rfl) (by kernel_rfl) (by kernel_rfl) (by kernel_rfl) (by kernel_rfl) (fun _ _ _ h => h) (.inl ⟨by rfl, fun w' _ => (by go_simp; rfl)⟩) hS ?_
            go_frame
            refine till_take 2 (some 113) rfl rfl (by kernel_rfl) (by kernel_rfl) (by kernel_rfl) (by kernel_rfl) (by kernel_rfl) (by kernel_rfl) (fun _ _ _ h => h) (.inl ⟨by rfl, fun w' _ => (by go_simp; rfl)⟩) hS ?_
            go_frame
            refine till_take 3 (some 114) rfl rfl (by kernel_rfl) (by kernel_rfl) (by kernel_rfl) (by kernel_rfl) (by kernel_rfl) (by kernel_rfl) (fun _ _ _ h => h) (.inl ⟨by rfl, fun w' _ => (by go_simp; rfl)⟩) hS ?_
            go_frame
            refine till_take 6 (some 117) rfl rfl (by kernel_rfl) (by kernel_rfl) (by kernel_rfl) (by kernel_rfl) (by kernel_rfl) (by kernel_rfl) (fun _ _ _ h => h) (yields_load (by rfl) 30 _ rfl (.pointer (some ⟨X, 0, none⟩)) rfl (.agg #[.int .u64 a, .int .u64 b, .int .u64 c, .int .u64 d]) (fun w' hS' => load_heap hS' Try.underlying30 rfl Try.sizeU)) hS ?_
            go_frame
            refine till_one 4 rfl (by kernel_rfl) fun K hK => ?_
            simp only [List.getElem_toArray, List.getElem_cons_succ, List.getElem_cons_zero]
            rw [if_pos (by rfl)]
            go_simp
            refine (ckey_any 4 _).mono ?_
            rintro e wh ⟨rfl, hb⟩
            have hS2 := below_at' hb hS
            have ODn := Lib.hid (OD.out.later hb)
            refine hK _ _ (fun _ _ => hS2) ?_
            clear hK hS hb OD
            have hS := hS2
            have OD := ODn
            clear hS2 ODn
            refine till_one 5 rfl (by kernel_rfl) fun K hK => ?_
            simp only [List.getElem_toArray, List.getElem_cons_succ, List.getElem_cons_zero]
            rw [if_pos (by rfl)]
            go_simp
            obtain ⟨Fq, hst⟩ := OD.out.get
            refine (camount_any (Look.of_st hst) (HF3.out.addA _ _).f (ckey 4)).mono ?_
            rw [HADD.out.2.1]
            rintro e wi ⟨xa, xb, xc, xd, hu1, rfl, hb⟩
            have hS2 := below_at' hb hS
            have ODn := Lib.hid (OD.out.later hb)
            have q2 := Try.eqUn hu1 HU.out
            rw [decide_eq_true rfl] at q2
            clear hu1 hst
            refine hK _ _ (fun _ _ => hS2) ?_
            clear hK hS hb OD
            have hS := hS2
            have OD := ODn
            clear hS2 ODn
            refine till_take 7 (some 118) rfl rfl (by kernel_rfl) (by kernel_rfl) (by kernel_rfl) (by kernel_rfl) (by kernel_rfl) (by kernel_rfl) (fun _ _ _ h => h) (.inl ⟨by rfl, fun w' _ => (by go_simp; rfl)⟩) hS ?_
            go_frame
            refine till_take 8 (some 119) rfl rfl (by kernel_rfl) (by kernel_rfl) (by kernel_rfl) (by kernel_rfl) (by kernel_rfl) (by kernel_rfl) (fun _ _ _ h => h) (.inl ⟨by rfl, fun w' _ => (by go_simp; rfl)⟩) hS ?_
            go_frame
            refine till_take 9 (some 120) rfl rfl (by kernel_rfl) (by kernel_rfl) (by kernel_rfl) (by kernel_rfl) (by kernel_rfl) (by kernel_rfl) (fun _ _ _ h => h) (.inl ⟨by rfl, fun w' _ => (by go_simp; rfl)⟩) hS ?_
            go_frame
            refine till_take 11 (some 122) rfl rfl (by kernel_rfl) (by kernel_rfl) (by kernel_rfl) (by kernel_rfl) (by kernel_rfl) (by kernel_rfl) (fun _ _ _ h => h) (yields_load (by rfl) 30 _ rfl (.pointer (some ⟨X, 0, none⟩)) rfl (.agg #[.int .u64 a, .int .u64 b, .int .u64 c, .int .u64 d]) (fun w' hS' => load_heap hS' Try.underlying30 rfl Try.sizeU)) hS ?_
            go_frame
            refine till_one 10 rfl (by kernel_rfl) fun K hK => ?_
            simp only [List.getElem_toArray, List.getElem_cons_succ, List.getElem_cons_zero]
            rw [if_pos (by rfl)]
            go_simp
            refine (ckey_any 4 _).mono ?_
            rintro e wj ⟨rfl, hb⟩
            have hS2 := below_at' hb hS
            have ODn := Lib.hid (OD.out.later hb)
            refine hK _ _ (fun _ _ => hS2) ?_
            clear hK hS hb OD
            have hS := hS2
            have OD := ODn
            clear hS2 ODn
            refine till_one 12 rfl (by kernel_rfl) fun K hK => ?_
            simp only [List.getElem_toArray, List.getElem_cons_succ, List.getElem_cons_zero]
            rw [if_pos (by rfl)]
            go_simp
            refine (OD.out.st fun F hs => csub_any hs (by have := HZ.out.2.2; have := sz_addA s3 (ckey 4) m; omega) (HF3.out.addA _ _) (ckey 4) HU.out).mono ?_
            rw [HADD.out.2.2.1]
            rintro e wk ⟨rfl, o, hoth⟩
            have hS2 := hoth.2 X _ hS rfl rfl
            have ODn := Lib.hid o
            refine hK _ _ (fun _ _ => hS2) ?_
            clear hK hS hoth OD o
            have hS := hS2
            have OD := ODn
            clear hS2 ODn
            refine till_take 13 (some 124) rfl rfl (by kernel_rfl) (by kernel_rfl) (by kernel_rfl) (by kernel_rfl) (by kernel_rfl) (by kernel_rfl) (fun _ _ _ h => h) (.inl ⟨by rfl, fun w' _ => (by go_simp; rfl)⟩) hS ?_
            go_frame
            refine till_take 14 (some 125) rfl rfl (by kernel_rfl) (by kernel_rfl) (by kernel_rfl) (by kernel_rfl) (by kernel_rfl) (by kernel_rfl) (fun _ _ _ h => h) (.inl ⟨by rfl, fun w' _ => (by go_simp; rfl)⟩) hS ?_
            go_frame
            refine till_take 15 (some 126) rfl rfl (by kernel_rfl) (by kernel_rfl) (by kernel_rfl) (by kernel_rfl) (by kernel_rfl) (by kernel_rfl) (fun _ _ _ h => h) (.inl ⟨by rfl, fun w' _ => (by go_simp; rfl)⟩) hS ?_
            go_frame
            refine till_take 16 (some 127) rfl rfl (by kernel_rfl) (by kernel_rfl) (by kernel_rfl) (by kernel_rfl) (by kernel_rfl) (by kernel_rfl) (fun _ _ _ h => h) (.inl ⟨by rfl, fun w' _ => (by go_simp; rfl)⟩) hS ?_
            go_frame
            refine till_take 19 (some 130) rfl rfl (by kernel_rfl) (by kernel_rfl) (by kernel_rfl) (by kernel_rfl) (by kernel_rfl) (by kernel_rfl) (fun _ _ _ h => h) (.inl ⟨by rfl, fun w' _ => (by go_simp; rfl)⟩) hS ?_
            go_frame
            refine till_one 17 rfl (by kernel_rfl) fun K hK => ?_
            simp only [List.getElem_toArray, List.getElem_cons_succ, List.getElem_cons_zero]
            rw [if_pos (by rfl)]
            go_simp
            refine (ckey_any 4 _).mono ?_
            rintro e wl ⟨rfl, hb⟩
            have hS2 := below_at' hb hS
            have ODn := Lib.hid (OD.out.later hb)
            refine hK _ _ (fun _ _ => hS2) ?_
            clear hK hS hb OD
            have hS := hS2
            have OD := ODn
            clear hS2 ODn
            refine till_one 18 rfl (by kernel_rfl) fun K hK => ?_
            simp only [List.getElem_toArray, List.getElem_cons_succ, List.getElem_cons_zero]
            rw [if_pos (by rfl)]
            go_simp
            obtain ⟨Fq, hst⟩ := OD.out.get
            refine (camount_any (Look.of_st hst) ((HF3.out.addA _ _).subA _ _).f (ckey 4)).mono ?_
            rw [HADD.out.2.2.2]
            rintro e wm ⟨ya, yb, yc, yd, hu1, rfl, hb⟩
            have hS2 := below_at' hb hS
            have ODn := Lib.hid (OD.out.later hb)
            have q3 := Try.eqUn hu1 UIs.zero
            rw [decide_eq_true rfl] at q3
            clear hu1 hst
            refine hK _ _ (fun _ _ => hS2) ?_
            clear hK hS hb OD
            have hS := hS2
            have OD := ODn
            clear hS2 ODn
            refine till_take 20 (some 131) rfl rfl (by kernel_rfl) (by kernel_rfl) (by kernel_rfl) (by kernel_rfl) (by kernel_rfl) (by kernel_rfl) (fun _ _ _ h => h) (.inl ⟨by rfl, fun w' _ => (by go_simp; rfl)⟩) hS ?_
            go_frame
            refine till_take 21 (some 132) rfl rfl (by kernel_rfl) (by kernel_rfl) (by kernel_rfl) (by kernel_rfl) (by kernel_rfl) (by kernel_rfl) (fun _ _ _ h => h) (.inl ⟨by rfl, fun w' _ => (by go_simp; rfl)⟩) hS ?_
            go_frame
            refine till_take 22 (some 133) rfl rfl (by kernel_rfl) (by kernel_rfl) (by kernel_rfl) (by kernel_rfl) (by kernel_rfl) (by kernel_rfl) (fun _ _ _ h => h) (.inl ⟨by rfl, fun w' _ => (by go_simp; rfl)⟩) hS ?_
            go_frame
            refine till_done (by kernel_rfl) ?_ _
            clear hS
            go_wp2_with fail
            refine (lives10_any _).mono ?_
            rintro e wz ⟨rfl, hb⟩
            have HBF := Lib.hid (OD.out.below.trans (hb.mono OD.out.below.size))
            clear hb
            go_wp2_with fail
            go_ret
            exact ⟨rfl, HBF.out⟩
          · have hadd := back_no HALL.out.2.2.2.2 HK4.out hh
            have HADD := Lib.hid hadd
            clear hadd hh
            go_wp2_with fail
            have ODx := Lib.hid (OD.out.later (Below.drew (Below.refl wd.heap.size wd)))
            have hS : wd.drew.heap[X]? = some (.cells #[.int .u64 a, .int .u64 b, .int .u64 c, .int .u64 d] 30 (0, 0)) := HXa.out
            clear OD HXa
            have OD := ODx
            clear ODx
            refine wp_region_till (fun w' => w'.heap[X]? = some (.cells #[.int .u64 a, .int .u64 b, .int .u64 c, .int .u64 d] 30 (0, 0))) 5 5 (by kernel_rfl) rfl ?_
            refine till_take 0 (some 107) rfl rfl (by kernel_rfl) (by kernel_rfl) (by kernel_rfl) (by kernel_rfl) (by kernel_rfl) (by kernel_rfl) (fun _ _ _ h => h) (.inl ⟨by rfl, fun w' _ => (by go_simp; rfl)⟩) hS ?_
            go_frame
            refine till_take 2 (some 109) rfl rfl (by kernel_rfl) (by kernel_rfl) (by kernel_rfl) (by kernel_rfl) (by kernel_rfl) (by kernel_rfl) (fun _ _ _ h => h) (yields_load (by rfl) 30 _ rfl (.pointer (some ⟨X, 0, none⟩)) rfl (.agg #[.int .u64 a, .int .u64 b, .int .u64 c, .int .u64 d]) (fun w' hS' => load_heap hS' Try.underlying30 rfl Try.sizeU)) hS ?_
            go_frame
            refine till_one 1 rfl (by kernel_rfl) fun K hK => ?_
            simp only [List.getElem_toArray, List.getElem_cons_succ, List.getElem_cons_zero]
            rw [if_pos (by rfl)]
            go_simp
            refine (ckey_any 4 _).mono ?_
            rintro e wf ⟨rfl, hb⟩
            have hS2 := below_at' hb hS
            have ODn := Lib.hid (OD.out.later hb)
            refine hK _ _ (fun _ _ => hS2) ?_
            clear hK hS hb OD
            have hS := hS2
            have OD := ODn
            clear hS2 ODn
            refine till_one 3 rfl (by kernel_rfl) fun K hK => ?_
            simp only [List.getElem_toArray, List.getElem_cons_succ, List.getElem_cons_zero]
            rw [if_pos (by rfl)]
            go_simp
            refine (OD.out.st fun F hs => cadd_any hs (by have := HZ.out.2.2; omega) HF3.out (ckey 4) HU.out).mono ?_
            rw [HADD.out]
            rintro e wg ⟨rfl, o, hoth⟩
            have hS2 := hoth.2 X _ hS rfl rfl
            have ODn := Lib.hid o
            refine hK _ _ (fun _ _ => hS2) ?_
            clear hK hS hoth OD o
            have hS := hS2
            have OD := ODn
            clear hS2 ODn
            refine till_take 4 (some 13) rfl rfl (by kernel_rfl) (by kernel_rfl) (by kernel_rfl) (by kernel_rfl) (by kernel_rfl) (by kernel_rfl) (fun _ _ _ h => h) (.inl ⟨by rfl, fun w' _ => (by go_simp; rfl)⟩) hS ?_
            go_frame
            refine till_done (by kernel_rfl) ?_ _
            have HXb := Lib.hid hS
            clear hS
            go_wp2_with fail
            have ODx := Lib.hid (OD.out.later (Below.drew (Below.refl wg.heap.size wg)))
            have hS : wg.drew.heap[X]? = some (.cells #[.int .u64 a, .int .u64 b, .int .u64 c, .int .u64 d] 30 (0, 0)) := HXb.out
            clear OD HXb
            have OD := ODx
            clear ODx
            refine wp_region_till (fun w' => w'.heap[X]? = some (.cells #[.int .u64 a, .int .u64 b, .int .u64 c, .int .u64 d] 30 (0, 0))) 23 23 (by kernel_rfl) rfl ?_
            refine till_take 0 (some 111) rfl rfl (by kernel_rfl) (by kernel_rfl) (by kernel_rfl) (by kernel_rfl) (by kernel_rfl) (by kernel_rfl) (fun _ _ _ h => h) (.inl ⟨by rfl, fun w' _ => (by go_simp; rfl)⟩) hS ?_
            go_frame
            refine till_take 1 (some 112) rfl rfl (by kernel_rfl) (by kernel_rfl) (by kernel_rfl) (by kernel_rfl) (by kernel_rfl) (by kernel_rfl) (fun _ _ _ h => h) (.inl ⟨by rfl, fun w' _ => (by go_simp; rfl)⟩) hS ?_
            go_frame
            refine till_take 2 (some 113) rfl rfl (by kernel_rfl) (by kernel_rfl) (by kernel_rfl) (by kernel_rfl) (by kernel_rfl) (by kernel_rfl) (fun _ _ _ h => h) (.inl ⟨by rfl, fun w' _ => (by go_simp; rfl)⟩) hS ?_
            go_frame
            refine till_take 3 (some 114) rfl rfl (by kernel_rfl) (by kernel_rfl) (by kernel_rfl) (by kernel_rfl) (by kernel_rfl) (by kernel_rfl) (fun _ _ _ h => h) (.inr ⟨by rfl, rfl⟩) hS ?_
            go_frame
            refine till_take 4 (some 115) rfl rfl (by kernel_rfl) (by kernel_rfl) (by kernel_rfl) (by kernel_rfl) (by kernel_rfl) (by kernel_rfl) (fun _ _ _ h => h) (.inr ⟨by rfl, rfl⟩) hS ?_
            go_frame
            refine till_take 5 (some 116) rfl rfl (by kernel_rfl) (by kernel_rfl) (by kernel_rfl) (by kernel_rfl) (by kernel_rfl) (by kernel_rfl) (fun _ _ _ h => h) (.inr ⟨by rfl, rfl⟩) hS ?_
            go_frame
            refine till_take 6 (some 117) rfl rfl (by kernel_rfl) (by kernel_rfl) (by kernel_rfl) (by kernel_rfl) (by kernel_rfl) (by kernel_rfl) (fun _ _ _ h => h) (.inr ⟨by rfl, rfl⟩) hS ?_
            go_frame
            refine till_take 7 (some 118) rfl rfl (by kernel_rfl) (by kernel_rfl) (by kernel_rfl) (by kernel_rfl) (by kernel_rfl) (by kernel_rfl) (fun _ _ _ h => h) (.inr ⟨by rfl, rfl⟩) hS ?_
            go_frame
            refine till_take 8 (some 119) rfl rfl (by kernel_rfl) (by kernel_rfl) (by kernel_rfl) (by kernel_rfl) (by kernel_rfl) (by kernel_rfl) (fun _ _ _ h => h) (.inr ⟨by rfl, rfl⟩) hS ?_
            go_frame
            refine till_take 9 (some 120) rfl rfl (by kernel_rfl) (by kernel_rfl) (by kernel_rfl) (by kernel_rfl) (by kernel_rfl) (by kernel_rfl) (fun _ _ _ h => h) (.inr ⟨by rfl, rfl⟩) hS ?_
            go_frame
            refine till_take 10 (some 121) rfl rfl (by kernel_rfl) (by kernel_rfl) (by kernel_rfl) (by kernel_rfl) (by kernel_rfl) (by kernel_rfl) (fun _ _ _ h => h) (.inr ⟨by rfl, rfl⟩) hS ?_
            go_frame
            refine till_take 11 (some 122) rfl rfl (by kernel_rfl) (by kernel_rfl) (by kernel_rfl) (by kernel_rfl) (by kernel_rfl) (by kernel_rfl) (fun _ _ _ h => h) (.inr ⟨by rfl, rfl⟩) hS ?_
            go_frame
            refine till_take 12 (some 123) rfl rfl (by kernel_rfl) (by kernel_rfl) (by kernel_rfl) (by kernel_rfl) (by kernel_rfl) (by kernel_rfl) (fun _ _ _ h => h) (.inr ⟨by rfl, rfl⟩) hS ?_
            go_frame
            refine till_take 13 (some 124) rfl rfl (by kernel_rfl) (by kernel_rfl) (by kernel_rfl) (by kernel_rfl) (by kernel_rfl) (by kernel_rfl) (fun _ _ _ h => h) (.inr ⟨by rfl, rfl⟩) hS ?_
            go_frame
            refine till_take 14 (some 125) rfl rfl (by kernel_rfl) (by kernel_rfl) (by kernel_rfl) (by kernel_rfl) (by kernel_rfl) (by kernel_rfl) (fun _ _ _ h => h) (.inr ⟨by rfl, rfl⟩) hS ?_
            go_frame
            refine till_take 15 (some 126) rfl rfl (by kernel_rfl) (by kernel_rfl) (by kernel_rfl) (by kernel_rfl) (by kernel_rfl) (by kernel_rfl) (fun _ _ _ h => h) (.inr ⟨by rfl, rfl⟩) hS ?_
            go_frame
            refine till_take 16 (some 127) rfl rfl (by kernel_rfl) (by kernel_rfl) (by kernel_rfl) (by kernel_rfl) (by kernel_rfl) (by kernel_rfl) (fun _ _ _ h => h) (.inr ⟨by rfl, rfl⟩) hS ?_
            go_frame
            refine till_take 17 (some 128) rfl rfl (by kernel_rfl) (by kernel_rfl) (by kernel_rfl) (by kernel_rfl) (by kernel_rfl) (by kernel_rfl) (fun _ _ _ h => h) (.inr ⟨by rfl, rfl⟩) hS ?_
            go_frame
            refine till_take 18 (some 129) rfl rfl (by kernel_rfl) (by kernel_rfl) (by kernel_rfl) (by kernel_rfl) (by kernel_rfl) (by kernel_rfl) (fun _ _ _ h => h) (.inr ⟨by rfl, rfl⟩) hS ?_
            go_frame
            refine till_take 19 (some 130) rfl rfl (by kernel_rfl) (by kernel_rfl) (by kernel_rfl) (by kernel_rfl) (by kernel_rfl) (by kernel_rfl) (fun _ _ _ h => h) (.inr ⟨by rfl, rfl⟩) hS ?_
            go_frame
            refine till_take 20 (some 131) rfl rfl (by kernel_rfl) (by kernel_rfl) (by kernel_rfl) (by kernel_rfl) (by kernel_rfl) (by kernel_rfl) (fun _ _ _ h => h) (.inr ⟨by rfl, rfl⟩) hS ?_
            go_frame
            refine till_take 21 (some 132) rfl rfl (by kernel_rfl) (by kernel_rfl) (by kernel_rfl) (by kernel_rfl) (by kernel_rfl) (by kernel_rfl) (fun _ _ _ h => h) (.inr ⟨by rfl, rfl⟩) hS ?_
            go_frame
            refine till_take 22 (some 133) rfl rfl (by kernel_rfl) (by kernel_rfl) (by kernel_rfl) (by kernel_rfl) (by kernel_rfl) (by kernel_rfl) (fun _ _ _ h => h) (.inl ⟨by rfl, fun w' _ => (by go_simp; rfl)⟩) hS ?_
            go_frame
            refine till_done (by kernel_rfl) ?_ _
            clear hS
            go_wp2_with fail
            refine (lives10_any _).mono ?_
            rintro e wz ⟨rfl, hb⟩
            have HBF := Lib.hid (OD.out.below.trans (hb.mono OD.out.below.size))
            clear hb
            go_wp2_with fail
            go_ret
            exact ⟨rfl, HBF.out⟩
        have q0 : 0 < q := by rw [HQ.out]; exact List.length_pos_iff.2 l0
        have HLC := Lib.hid l0
        clear l0
        cases bb with
        | true =>
          have HBT : Hid (true = true) := Lib.hid rfl
          have hl : lr = [] := by rw [HLR.out, if_pos (HBE.out.2 rfl)]
          have hp0 : p = 0 := by rw [HP.out, hl]; rfl
          subst hp0
          clear hl
          have hlen : s3.t.length = 1 := by rw [HALL.out.1, if_neg (show ¬ 0 < n by have := HN0.out; omega), if_neg HM0.out, if_pos (.inr (HBE.out.2 rfl))]
          have HLEN := Lib.hid hlen
          clear hlen
          have q1 := Try.eqUn HU.out UIs.zero
          rw [decide_eq_false HM0.out] at q1
          go_wp2_with (refine wpList_load_row rfl 30 _ rfl X rfl 30 _ _ _ HX9.out Try.underlying30 rfl Try.sizeU ?_)
          have OD := Lib.hid (O9.out.later (Below.drew (Below.refl w9.heap.size w9)))
          have RR := Lib.hid (HRR.out.later (Below.drew (Below.refl w9.heap.size w9)))
          have hS : w9.drew.heap[X]? = some (.cells #[.int .u64 a, .int .u64 b, .int .u64 c, .int .u64 d] 30 (0, 0)) := HX9.out
          clear O9 HRR HX9
          refine wp_region_till (fun w' => w'.heap[X]? = some (.cells #[.int .u64 a, .int .u64 b, .int .u64 c, .int .u64 d] 30 (0, 0))) 43 43 (by kernel_rfl) rfl ?_
          refine till_take 0 (some 64) rfl rfl (by kernel_rfl) (by kernel_rfl) (by kernel_rfl) (by kernel_rfl) (by kernel_rfl) (by kernel_rfl) (fun _ _ _ h => h) (.inl ⟨by rfl, fun w' _ => (by go_simp; rfl)⟩) hS ?_
          go_frame
          refine till_take 2 (some 66) rfl rfl (by kernel_rfl) (by kernel_rfl) (by kernel_rfl) (by kernel_rfl) (by kernel_rfl) (by kernel_rfl) (fun _ _ _ h => h) (.inl ⟨by rfl, fun w' _ => (by go_simp; rfl)⟩) hS ?_
          go_frame
          refine till_one 1 rfl (by kernel_rfl) fun K hK => ?_
          simp only [List.getElem_toArray, List.getElem_cons_succ, List.getElem_cons_zero]
          rw [if_pos (by rfl)]
          go_simp
          obtain ⟨Fq, hst⟩ := OD.out.get
          refine (slen_any hst).mono ?_
          rw [HLEN.out]
          rintro e wx ⟨rfl, rfl⟩
          clear hst
          refine hK _ _ (fun _ _ => hS) ?_
          clear hK
          refine till_take 3 (some 67) rfl rfl (by kernel_rfl) (by kernel_rfl) (by kernel_rfl) (by kernel_rfl) (by kernel_rfl) (by kernel_rfl) (fun _ _ _ h => h) (.inl ⟨by rfl, fun w' _ => (by go_simp; rfl)⟩) hS ?_
          go_frame
          refine till_take 4 (some 68) rfl rfl (by kernel_rfl) (by kernel_rfl) (by kernel_rfl) (by kernel_rfl) (by kernel_rfl) (by kernel_rfl) (fun _ _ _ h => h) (.inl ⟨by rfl, fun w' _ => (by go_simp; rfl)⟩) hS ?_
          go_frame
          refine till_take 5 (some 69) rfl rfl (by kernel_rfl) (by kernel_rfl) (by kernel_rfl) (by kernel_rfl) (by kernel_rfl) (by kernel_rfl) (fun _ _ _ h => h) (.inl ⟨by rfl, fun w' _ => (by go_simp; rfl)⟩) hS ?_
          go_frame
          refine till_take 8 (some 72) rfl rfl (by kernel_rfl) (by kernel_rfl) (by kernel_rfl) (by kernel_rfl) (by kernel_rfl) (by kernel_rfl) (fun _ _ _ h => h) (.inl ⟨by rfl, fun w' _ => (by go_simp; rfl)⟩) hS ?_
          go_frame
          refine till_take 9 (some 73) rfl rfl (by kernel_rfl) (by kernel_rfl) (by kernel_rfl) (by kernel_rfl) (by kernel_rfl) (by kernel_rfl) (fun _ _ _ h => h) (.inl ⟨by rfl, fun w' _ => (by go_simp; rfl)⟩) hS ?_
          go_frame
          refine till_one 6 rfl (by kernel_rfl) fun K hK => ?_
          simp only [List.getElem_toArray, List.getElem_cons_succ, List.getElem_cons_zero]
          rw [if_pos (by rfl)]
          go_simp
          refine (ckey_any 1 _).mono ?_
          rintro e wa ⟨rfl, hb⟩
          have hS2 := below_at' hb hS
          have ODn := Lib.hid (OD.out.later hb); have RRn := Lib.hid (RR.out.later hb)
          refine hK _ _ (fun _ _ => hS2) ?_
          clear hK hS hb OD RR
          have hS := hS2
          have OD := ODn
          have RR := RRn
          clear hS2 ODn RRn
          refine till_one 7 rfl (by kernel_rfl) fun K hK => ?_
          simp only [List.getElem_toArray, List.getElem_cons_succ, List.getElem_cons_zero]
          rw [if_pos (by rfl)]
          go_simp
          obtain ⟨Fq, hst⟩ := OD.out.get
          refine (int_any (Look.of_st hst) HF3.out.f (ckey 1)).mono ?_
          rw [HALL.out.2.1, if_neg (show ¬ 0 < n by have := HN0.out; omega)]
          rintro e wb ⟨rfl, hb⟩
          have hS2 := below_at' hb hS
          have ODn := Lib.hid (OD.out.later hb); have RRn := Lib.hid (RR.out.later hb)
          clear hst
          refine hK _ _ (fun _ _ => hS2) ?_
          clear hK hS hb OD RR
          have hS := hS2
          have OD := ODn
          have RR := RRn
          clear hS2 ODn RRn
          refine till_take 10 (some 74) rfl rfl (by kernel_rfl) (by kernel_rfl) (by kernel_rfl) (by kernel_rfl) (by kernel_rfl) (by kernel_rfl) (fun _ _ _ h => h) (.inl ⟨by rfl, fun w' _ => (by go_simp; rfl)⟩) hS ?_
          go_frame
          refine till_take 11 (some 75) rfl rfl (by kernel_rfl) (by kernel_rfl) (by kernel_rfl) (by kernel_rfl) (by kernel_rfl) (by kernel_rfl) (fun _ _ _ h => h) (.inl ⟨by rfl, fun w' _ => (by go_simp; rfl)⟩) hS ?_
          go_frame
          refine till_take 12 (some 76) rfl rfl (by kernel_rfl) (by kernel_rfl) (by kernel_rfl) (by kernel_rfl) (by kernel_rfl) (by kernel_rfl) (fun _ _ _ h => h) (.inl ⟨by rfl, fun w' _ => (by go_simp; rfl)⟩) hS ?_
          go_frame
          refine till_take 13 (some 77) rfl rfl (by kernel_rfl) (by kernel_rfl) (by kernel_rfl) (by kernel_rfl) (by kernel_rfl) (by kernel_rfl) (fun _ _ _ h => h) (.inl ⟨by rfl, fun w' _ => (by go_simp; rfl)⟩) hS ?_
          go_frame
          refine till_take 16 (some 80) rfl rfl (by kernel_rfl) (by kernel_rfl) (by kernel_rfl) (by kernel_rfl) (by kernel_rfl) (by kernel_rfl) (fun _ _ _ h => h) (yields_load (by rfl) 30 _ rfl (.pointer (some ⟨X, 0, none⟩)) rfl (.agg #[.int .u64 a, .int .u64 b, .int .u64 c, .int .u64 d]) (fun w' hS' => load_heap hS' Try.underlying30 rfl Try.sizeU)) hS ?_
          go_frame
          refine till_one 14 rfl (by kernel_rfl) fun K hK => ?_
          simp only [List.getElem_toArray, List.getElem_cons_succ, List.getElem_cons_zero]
          rw [if_pos (by rfl)]
          go_simp
          refine (ckey_any 2 _).mono ?_
          rintro e wc ⟨rfl, hb⟩
          have hS2 := below_at' hb hS
          have ODn := Lib.hid (OD.out.later hb); have RRn := Lib.hid (RR.out.later hb)
          refine hK _ _ (fun _ _ => hS2) ?_
          clear hK hS hb OD RR
          have hS := hS2
          have OD := ODn
          have RR := RRn
          clear hS2 ODn RRn
          refine till_one 15 rfl (by kernel_rfl) fun K hK => ?_
          simp only [List.getElem_toArray, List.getElem_cons_succ, List.getElem_cons_zero]
          rw [if_pos (by rfl)]
          go_simp
          obtain ⟨Fq, hst⟩ := OD.out.get
          refine (camount_any (Look.of_st hst) HF3.out.f (ckey 2)).mono ?_
          rw [HALL.out.2.2.1]
          rintro e wd ⟨xa, xb, xc, xd, hu1, rfl, hb⟩
          have hS2 := below_at' hb hS
          have ODn := Lib.hid (OD.out.later hb); have RRn := Lib.hid (RR.out.later hb)
          have q2 := Try.eqUn hu1 HU.out
          rw [decide_eq_true rfl] at q2
          clear hu1
          clear hst
          refine hK _ _ (fun _ _ => hS2) ?_
          clear hK hS hb OD RR
          have hS := hS2
          have OD := ODn
          have RR := RRn
          clear hS2 ODn RRn
          refine till_take 17 (some 81) rfl rfl (by kernel_rfl) (by kernel_rfl) (by kernel_rfl) (by kernel_rfl) (by kernel_rfl) (by kernel_rfl) (fun _ _ _ h => h) (.inl ⟨by rfl, fun w' _ => (by go_simp; rfl)⟩) hS ?_
          go_frame
          refine till_take 18 (some 82) rfl rfl (by kernel_rfl) (by kernel_rfl) (by kernel_rfl) (by kernel_rfl) (by kernel_rfl) (by kernel_rfl) (fun _ _ _ h => h) (.inl ⟨by rfl, fun w' _ => (by go_simp; rfl)⟩) hS ?_
          go_frame
          refine till_take 19 (some 83) rfl rfl (by kernel_rfl) (by kernel_rfl) (by kernel_rfl) (by kernel_rfl) (by kernel_rfl) (by kernel_rfl) (fun _ _ _ h => h) (.inl ⟨by rfl, fun w' _ => (by go_simp; rfl)⟩) hS ?_
          go_frame
          refine till_take 20 (some 84) rfl rfl (by kernel_rfl) (by kernel_rfl) (by kernel_rfl) (by kernel_rfl) (by kernel_rfl) (by kernel_rfl) (fun _ _ _ h => h) (.inl ⟨by rfl, fun w' _ => (by go_simp; rfl)⟩) hS ?_
          go_frame
          refine till_take 21 (some 85) rfl rfl (by kernel_rfl) (by kernel_rfl) (by kernel_rfl) (by kernel_rfl) (by kernel_rfl) (by kernel_rfl) (fun _ _ _ h => h) (.inl ⟨by rfl, fun w' _ => (by go_simp; rfl)⟩) hS ?_
          go_frame
          refine till_take 22 (some 86) rfl rfl (by kernel_rfl) (by kernel_rfl) (by kernel_rfl) (by kernel_rfl) (by kernel_rfl) (by kernel_rfl) (fun _ _ _ h => h) (.inl ⟨by rfl, fun w' _ => (by go_simp; rfl)⟩) hS ?_
          go_frame
          refine till_take 23 (some 87) rfl rfl (by kernel_rfl) (by kernel_rfl) (by kernel_rfl) (by kernel_rfl) (by kernel_rfl) (by kernel_rfl) (fun _ _ _ h => h) (.inl ⟨by rfl, fun w' _ => (by go_simp; rfl)⟩) hS ?_
          go_frame
          refine till_take 24 (some 88) rfl rfl (by kernel_rfl) (by kernel_rfl) (by kernel_rfl) (by kernel_rfl) (by kernel_rfl) (by kernel_rfl) (fun _ _ _ h => h) (.inr ⟨by rfl, rfl⟩) hS ?_
          go_frame
          refine till_take 25 (some 89) rfl rfl (by kernel_rfl) (by kernel_rfl) (by kernel_rfl) (by kernel_rfl) (by kernel_rfl) (by kernel_rfl) (fun _ _ _ h => h) (.inr ⟨by rfl, rfl⟩) hS ?_
          go_frame
          refine till_take 26 (some 90) rfl rfl (by kernel_rfl) (by kernel_rfl) (by kernel_rfl) (by kernel_rfl) (by kernel_rfl) (by kernel_rfl) (fun _ _ _ h => h) (.inr ⟨by rfl, rfl⟩) hS ?_
          go_frame
          refine till_take 27 (some 91) rfl rfl (by kernel_rfl) (by kernel_rfl) (by kernel_rfl) (by kernel_rfl) (by kernel_rfl) (by kernel_rfl) (fun _ _ _ h => h) (.inr ⟨by rfl, rfl⟩) hS ?_
          go_frame
          refine till_take 28 (some 92) rfl rfl (by kernel_rfl) (by kernel_rfl) (by kernel_rfl) (by kernel_rfl) (by kernel_rfl) (by kernel_rfl) (fun _ _ _ h => h) (.inl ⟨by rfl, fun w' _ => (by go_simp; rfl)⟩) hS ?_
          go_frame
          refine till_take 29 (some 93) rfl rfl (by kernel_rfl) (by kernel_rfl) (by kernel_rfl) (by kernel_rfl) (by kernel_rfl) (by kernel_rfl) (fun _ _ _ h => h) (.inl ⟨by rfl, fun w' _ => (by go_simp; rfl)⟩) hS ?_
          go_frame
          refine till_take 30 (some 94) rfl rfl (by kernel_rfl) (by kernel_rfl) (by kernel_rfl) (by kernel_rfl) (by kernel_rfl) (by kernel_rfl) (fun _ _ _ h => h) (.inl ⟨by rfl, fun w' _ => (by go_simp; rfl)⟩) hS ?_
          go_frame
          refine till_take 31 (some 95) rfl rfl (by kernel_rfl) (by kernel_rfl) (by kernel_rfl) (by kernel_rfl) (by kernel_rfl) (by kernel_rfl) (fun _ _ _ h => h) (.inl ⟨by rfl, fun w' _ => (by go_simp; rfl)⟩) hS ?_
          go_frame
          refine till_take 32 (some 96) rfl rfl (by kernel_rfl) (by kernel_rfl) (by kernel_rfl) (by kernel_rfl) (by kernel_rfl) (by kernel_rfl) (fun _ _ _ h => h) (.inl ⟨by rfl, fun w' _ => (by go_simp; rfl)⟩) hS ?_
          go_frame
          refine till_take 33 (some 97) rfl rfl (by kernel_rfl) (by kernel_rfl) (by kernel_rfl) (by kernel_rfl) (by kernel_rfl) (by kernel_rfl) (fun _ _ _ h => h) (.inl ⟨by rfl, fun w' _ => (by go_simp; rfl)⟩) hS ?_
          go_frame
          refine till_take 34 (some 98) rfl rfl (by kernel_rfl) (by kernel_rfl) (by kernel_rfl) (by kernel_rfl) (by kernel_rfl) (by kernel_rfl) (fun _ _ _ h => h) (.inl ⟨by rfl, fun w' _ => (by go_simp; rfl)⟩) hS ?_
          go_frame
          refine till_take 35 (some 99) rfl rfl (by kernel_rfl) (by kernel_rfl) (by kernel_rfl) (by kernel_rfl) (by kernel_rfl) (by kernel_rfl) (fun _ _ _ h => h) (.inl ⟨by rfl, fun w' _ => (by go_simp; rfl)⟩) hS ?_
          go_frame
          refine till_take 36 (some 100) rfl rfl (by kernel_rfl) (by kernel_rfl) (by kernel_rfl) (by kernel_rfl) (by kernel_rfl) (by kernel_rfl) (fun _ _ _ h => h) (.inl ⟨by rfl, fun w' _ => (by go_simp; rfl)⟩) hS ?_
          go_frame
          refine till_take 37 (some 101) rfl rfl (by kernel_rfl) (by kernel_rfl) (by kernel_rfl) (by kernel_rfl) (by kernel_rfl) (by kernel_rfl) (fun _ _ _ h => h) (.inl ⟨by rfl, fun w' _ => (by go_simp; rfl)⟩) hS ?_
          go_frame
          refine till_take 38 (some 102) rfl rfl (by kernel_rfl) (by kernel_rfl) (by kernel_rfl) (by kernel_rfl) (by kernel_rfl) (by kernel_rfl) (fun _ _ _ h => h) (.inl ⟨by rfl, fun w' _ => (by go_simp; rfl)⟩) hS ?_
          go_frame
          refine till_take 39 (some 103) rfl rfl (by kernel_rfl) (by kernel_rfl) (by kernel_rfl) (by kernel_rfl) (by kernel_rfl) (by kernel_rfl) (fun _ _ _ h => h) (.inl ⟨by rfl, fun w' _ => (by go_simp; rfl)⟩) hS ?_
          go_frame
          refine till_take 40 (some 104) rfl rfl (by kernel_rfl) (by kernel_rfl) (by kernel_rfl) (by kernel_rfl) (by kernel_rfl) (by kernel_rfl) (fun _ _ _ h => h) (.inl ⟨by rfl, fun w' _ => (by go_simp; rfl)⟩) hS ?_
          go_frame
          refine till_take 41 (some 105) rfl rfl (by kernel_rfl) (by kernel_rfl) (by kernel_rfl) (by kernel_rfl) (by kernel_rfl) (by kernel_rfl) (fun _ _ _ h => h) (.inl ⟨by rfl, fun w' _ => (by go_simp; rfl)⟩) hS ?_
          go_frame
          refine till_take 42 (some 106) rfl rfl (by kernel_rfl) (by kernel_rfl) (by kernel_rfl) (by kernel_rfl) (by kernel_rfl) (by kernel_rfl) (fun _ _ _ h => h) (.inl ⟨by rfl, fun w' _ => (by go_simp; rfl)⟩) hS ?_
          go_frame
          refine till_done (by kernel_rfl) ?_ _
          clear q1 q2
          clear RR
          have HXa := Lib.hid hS
          clear hS
          by_cases hh : m < uHalf
          · have hadd := back_add HU.out.lt HALL.out.2.2.2.2 HK4.out hh
            have HADD := Lib.hid hadd
            clear hadd hh
            go_wp2_with fail
            have ODx := Lib.hid (OD.out.later (Below.drew (Below.refl wd.heap.size wd)))
            have hS : wd.drew.heap[X]? = some (.cells #[.int .u64 a, .int .u64 b, .int .u64 c, .int .u64 d] 30 (0, 0)) := HXa.out
            clear OD HXa
            have OD := ODx
            clear ODx
            refine wp_region_till (fun w' => w'.heap[X]? = some (.cells #[.int .u64 a, .int .u64 b, .int .u64 c, .int .u64 d] 30 (0, 0))) 5 5 (by kernel_rfl) rfl ?_
            refine till_take 0 (some 107) rfl rfl (by kernel_rfl) (by kernel_rfl) (by kernel_rfl) (by kernel_rfl) (by kernel_rfl) (by kernel_rfl) (fun _ _ _ h => h) (.inl ⟨by rfl, fun w' _ => (by go_simp; rfl)⟩) hS ?_
            go_frame
            refine till_take 2 (some 109) rfl rfl (by kernel_rfl) (by kernel_rfl) (by kernel_rfl) (by kernel_rfl) (by kernel_rfl) (by kernel_rfl) (fun _ _ _ h => h) (yields_load (by rfl) 30 _ rfl (.pointer (some ⟨X, 0, none⟩)) rfl (.agg #[.int .u64 a, .int .u64 b, .int .u64 c, .int .u64 d]) (fun w' hS' => load_heap hS' Try.underlying30 rfl Try.sizeU)) hS ?_
            go_frame
            refine till_one 1 rfl (by kernel_rfl) fun K hK => ?_
            simp only [List.getElem_toArray, List.getElem_cons_succ, List.getElem_cons_zero]
            rw [if_pos (by rfl)]
            go_simp
            refine (ckey_any 4 _).mono ?_
            rintro e wf ⟨rfl, hb⟩
            have hS2 := below_at' hb hS
            have ODn := Lib.hid (OD.out.later hb)
            refine hK _ _ (fun _ _ => hS2) ?_
            clear hK hS hb OD
            have hS := hS2
            have OD := ODn
            clear hS2 ODn
            refine till_one 3 rfl (by kernel_rfl) fun K hK => ?_
            simp only [List.getElem_toArray, List.getElem_cons_succ, List.getElem_cons_zero]
            rw [if_pos (by rfl)]
            go_simp
            refine (OD.out.st fun F hs => cadd_any hs (by have := HZ.out.2.2; omega) HF3.out (ckey 4) HU.out).mono ?_
            rw [HADD.out.1]
            rintro e wg ⟨rfl, o, hoth⟩
            have hS2 := hoth.2 X _ hS rfl rfl
            have ODn := Lib.hid o
            refine hK _ _ (fun _ _ => hS2) ?_
            clear hK hS hoth OD o
            have hS := hS2
            have OD := ODn
            clear hS2 ODn
            refine till_take 4 (some 13) rfl rfl (by kernel_rfl) (by kernel_rfl) (by kernel_rfl) (by kernel_rfl) (by kernel_rfl) (by kernel_rfl) (fun _ _ _ h => h) (.inl ⟨by rfl, fun w' _ => (by go_simp; rfl)⟩) hS ?_
            go_frame
            refine till_done (by kernel_rfl) ?_ _
            have HXb := Lib.hid hS
            clear hS
            go_wp2_with fail
            have ODx := Lib.hid (OD.out.later (Below.drew (Below.refl wg.heap.size wg)))
            have hS : wg.drew.heap[X]? = some (.cells #[.int .u64 a, .int .u64 b, .int .u64 c, .int .u64 d] 30 (0, 0)) := HXb.out
            clear OD HXb
            have OD := ODx
            clear ODx
            refine wp_region_till (fun w' => w'.heap[X]? = some (.cells #[.int .u64 a, .int .u64 b, .int .u64 c, .int .u64 d] 30 (0, 0))) 23 23 (by kernel_rfl) rfl ?_
            refine till_take 0 (some 111) rfl rfl (by kernel_rfl) (by kernel_rfl) (by kernel_rfl) (by kernel_rfl) (by kernel_rfl) (by kernel_rfl) (fun _ _ _ h => h) (.inl ⟨by rfl, fun w' _ => (by go_simp; rfl)⟩) hS ?_
            go_frame
            refine till_take 1 (some 112) rfl rfl (by kernel_rfl) (by kernel_rfl) (by kernel_rfl) (by kernel_rfl) (by kernel_rfl) (by kernel_rfl) (fun _ _ _ h => h) (.inl ⟨by rfl, fun w' _ => (by go_simp; rfl)⟩) hS ?_
            go_frame
            refine till_take 2 (some 113) rfl rfl (by kernel_rfl) (by kernel_rfl) (by kernel_rfl) (by kernel_rfl) (by kernel_rfl) (by kernel_rfl) (fun _ _ _ h => h) (.inl ⟨by rfl, fun w' _ => (by go_simp; rfl)⟩) hS ?_
            go_frame
            refine till_take 3 (some 114) rfl rfl (by kernel_rfl) (by kernel_rfl) (by kernel_rfl) (by kernel_rfl) (by kernel_rfl) (by kernel_rfl) (fun _ _ _ h => h) (.inl ⟨by rfl, fun w' _ => (by go_simp; rfl)⟩) hS ?_
            go_frame
            refine till_take 6 (some 117) rfl rfl (by kernel_rfl) (by kernel_rfl) (by kernel_rfl) (by kernel_rfl) (by kernel_rfl) (by kernel_rfl) (fun _ _ _ h => h) (yields_load (by rfl) 30 _ rfl (.pointer (some ⟨X, 0, none⟩)) rfl (.agg #[.int .u64 a, .int .u64 b, .int .u64 c, .int .u64 d]) (fun w' hS' => load_heap hS' Try.underlying30 rfl Try.sizeU)) hS ?_
            go_frame
            refine till_one 4 rfl (by kernel_rfl) fun K hK => ?_
            simp only [List.getElem_toArray, List.getElem_cons_succ, List.getElem_cons_zero]
            rw [if_pos (by rfl)]
            go_simp
            refine (ckey_any 4 _).mono ?_
            rintro e wh ⟨rfl, hb⟩
            have hS2 := below_at' hb hS
            have ODn := Lib.hid (OD.out.later hb)
            refine hK _ _ (fun _ _ => hS2) ?_
            clear hK hS hb OD
            have hS := hS2
            have OD := ODn
            clear hS2 ODn
            refine till_one 5 rfl (by kernel_rfl) fun K hK => ?_
            simp only [List.getElem_toArray, List.getElem_cons_succ, List.getElem_cons_zero]
            rw [if_pos (by rfl)]
            go_simp
            obtain ⟨Fq, hst⟩ := OD.out.get
            refine (camount_any (Look.of_st hst) (HF3.out.addA _ _).f (ckey 4)).mono ?_
            rw [HADD.out.2.1]
            rintro e wi ⟨xa, xb, xc, xd, hu1, rfl, hb⟩
            have hS2 := below_at' hb hS
            have ODn := Lib.hid (OD.out.later hb)
            have q2 := Try.eqUn hu1 HU.out
            rw [decide_eq_true rfl] at q2
            clear hu1 hst
            refine hK _ _ (fun _ _ => hS2) ?_
            clear hK hS hb OD
            have hS := hS2
            have OD := ODn
            clear hS2 ODn
            refine till_take 7 (some 118) rfl rfl (by kernel_rfl) (by kernel_rfl) (by kernel_rfl) (by kernel_rfl) (by kernel_rfl) (by kernel_rfl) (fun _ _ _ h => h) (.inl ⟨by rfl, fun w' _ => (by go_simp; rfl)⟩) hS ?_
            go_frame
            refine till_take 8 (some 119) rfl rfl (by kernel_rfl) (by kernel_rfl) (by kernel_rfl) (by kernel_rfl) (by kernel_rfl) (by kernel_rfl) (fun _ _ _ h => h) (.inl ⟨by rfl, fun w' _ => (by go_simp; rfl)⟩) hS ?_
            go_frame
            refine till_take 9 (some 120) rfl rfl (by kernel_rfl) (by kernel_rfl) (by kernel_rfl) (by kernel_rfl) (by kernel_rfl) (by kernel_rfl) (fun _ _ _ h => h) (.inl ⟨by rfl, fun w' _ => (by go_simp; rfl)⟩) hS ?_
            go_frame
            refine till_take 11 (some 122) rfl rfl (by kernel_rfl) (by kernel_rfl) (by kernel_rfl) (by kernel_rfl) (by kernel_rfl) (by kernel_rfl) (fun _ _ _ h => h) (yields_load (by rfl) 30 _ rfl (.pointer (some ⟨X, 0, none⟩)) rfl (.agg #[.int .u64 a, .int .u64 b, .int .u64 c, .int .u64 d]) (fun w' hS' => load_heap hS' Try.underlying30 rfl Try.sizeU)) hS ?_
            go_frame
            refine till_one 10 rfl (by kernel_rfl) fun K hK => ?_
            simp only [List.getElem_toArray, List.getElem_cons_succ, List.getElem_cons_zero]
            rw [if_pos (by rfl)]
            go_simp
            refine (ckey_any 4 _).mono ?_
            rintro e wj ⟨rfl, hb⟩
            have hS2 := below_at' hb hS
            have ODn := Lib.hid (OD.out.later hb)
            refine hK _ _ (fun _ _ => hS2) ?_
            clear hK hS hb OD
            have hS := hS2
            have OD := ODn
            clear hS2 ODn
            refine till_one 12 rfl (by kernel_rfl) fun K hK => ?_
            simp only [List.getElem_toArray, List.getElem_cons_succ, List.getElem_cons_zero]
            rw [if_pos (by rfl)]
            go_simp
            refine (OD.out.st fun F hs => csub_any hs (by have := HZ.out.2.2; have := sz_addA s3 (ckey 4) m; omega) (HF3.out.addA _ _) (ckey 4) HU.out).mono ?_
            rw [HADD.out.2.2.1]
            rintro e wk ⟨rfl, o, hoth⟩
            have hS2 := hoth.2 X _ hS rfl rfl
            have ODn := Lib.hid o
            refine hK _ _ (fun _ _ => hS2) ?_
            clear hK hS hoth OD o
            have hS := hS2
            have OD := ODn
            clear hS2 ODn
            refine till_take 13 (some 124) rfl rfl (by kernel_rfl) (by kernel_rfl) (by kernel_rfl) (by kernel_rfl) (by kernel_rfl) (by kernel_rfl) (fun _ _ _ h => h) (.inl ⟨by rfl, fun w' _ => (by go_simp; rfl)⟩) hS ?_
            go_frame
            refine till_take 14 (some 125) rfl rfl (by kernel_rfl) (by kernel_rfl) (by kernel_rfl) (by kernel_rfl) (by kernel_rfl) (by kernel_rfl) (fun _ _ _ h => h) (.inl ⟨by rfl, fun w' _ => (by go_simp; rfl)⟩) hS ?_
            go_frame
            refine till_take 15 (some 126) rfl rfl (by kernel_rfl) (by kernel_rfl) (by kernel_rfl) (by kernel_rfl) (by kernel_rfl) (by kernel_rfl) (fun _ _ _ h => h) (.inl ⟨by rfl, fun w' _ => (by go_simp; rfl)⟩) hS ?_
            go_frame
            refine till_take 16 (some 127) rfl rfl (by kernel_rfl) (by kernel_rfl) (by kernel_rfl) (by kernel_rfl) (by kernel_rfl) (by kernel_rfl) (fun _ _ _ h => h) (.inl ⟨by rfl, fun w' _ => (by go_simp; rfl)⟩) hS ?_
            go_frame
            refine till_take 19 (some 130) rfl rfl (by kernel_rfl) (by kernel_rfl) (by kernel_rfl) (by kernel_rfl) (by kernel_rfl) (by kernel_rfl) (fun _ _ _ h => h) (.inl ⟨by rfl, fun w' _ => (by go_simp; rfl)⟩) hS ?_
            go_frame
            refine till_one 17 rfl (by kernel_rfl) fun K hK => ?_
            simp only [List.getElem_toArray, List.getElem_cons_succ, List.getElem_cons_zero]
            rw [if_pos (by rfl)]
            go_simp
            refine (ckey_any 4 _).mono ?_
            rintro e wl ⟨rfl, hb⟩
            have hS2 := below_at' hb hS
            have ODn := Lib.hid (OD.out.later hb)
            refine hK _ _ (fun _ _ => hS2) ?_
            clear hK hS hb OD
            have hS := hS2
            have OD := ODn
            clear hS2 ODn
            refine till_one 18 rfl (by kernel_rfl) fun K hK => ?_
            simp only [List.getElem_toArray, List.getElem_cons_succ, List.getElem_cons_zero]
            rw [if_pos (by rfl)]
            go_simp
            obtain ⟨Fq, hst⟩ := OD.out.get
            refine (camount_any (Look.of_st hst) ((HF3.out.addA _ _).subA _ _).f (ckey 4)).mono ?_
            rw [HADD.out.2.2.2]
            rintro e wm ⟨ya, yb, yc, yd, hu1, rfl, hb⟩
            have hS2 := below_at' hb hS
            have ODn := Lib.hid (OD.out.later hb)
            have q3 := Try.eqUn hu1 UIs.zero
            rw [decide_eq_true rfl] at q3
            clear hu1 hst
            refine hK _ _ (fun _ _ => hS2) ?_
            clear hK hS hb OD
            have hS := hS2
            have OD := ODn
            clear hS2 ODn
            refine till_take 20 (some 131) rfl rfl (by kernel_rfl) (by kernel_rfl) (by kernel_rfl) (by kernel_rfl) (by kernel_rfl) (by kernel_rfl) (fun _ _ _ h => h) (.inl ⟨by rfl, fun w' _ => (by go_simp; rfl)⟩) hS ?_
            go_frame
            refine till_take 21 (some 132) rfl rfl (by kernel_rfl) (by kernel_rfl) (by kernel_rfl) (by kernel_rfl) (by kernel_rfl) (by kernel_rfl) (fun _ _ _ h => h) (.inl ⟨by rfl, fun w' _ => (by go_simp; rfl)⟩) hS ?_
            go_frame
            refine till_take 22 (some 133) rfl rfl (by kernel_rfl) (by kernel_rfl) (by kernel_rfl) (by kernel_rfl) (by kernel_rfl) (by kernel_rfl) (fun _ _ _ h => h) (.inl ⟨by rfl, fun w' _ => (by go_simp; rfl)⟩) hS ?_
            go_frame
            refine till_done (by kernel_rfl) ?_ _
            clear hS
            go_wp2_with fail
            refine (lives10_any _).mono ?_
            rintro e wz ⟨rfl, hb⟩
            have HBF := Lib.hid (OD.out.below.trans (hb.mono OD.out.below.size))
            clear hb
            go_wp2_with fail
            go_ret
            exact ⟨rfl, HBF.out⟩
          · have hadd := back_no HALL.out.2.2.2.2 HK4.out hh
            have HADD := Lib.hid hadd
            clear hadd hh
            go_wp2_with fail
            have ODx := Lib.hid (OD.out.later (Below.drew (Below.refl wd.heap.size wd)))
            have hS : wd.drew.heap[X]? = some (.cells #[.int .u64 a, .int .u64 b, .int .u64 c, .int .u64 d] 30 (0, 0)) := HXa.out
            clear OD HXa
            have OD := ODx
            clear ODx
            refine wp_region_till (fun w' => w'.heap[X]? = some (.cells #[.int .u64 a, .int .u64 b, .int .u64 c, .int .u64 d] 30 (0, 0))) 5 5 (by kernel_rfl) rfl ?_
            refine till_take 0 (some 107) rfl rfl (by kernel_rfl) (by kernel_rfl) (by kernel_rfl) (by kernel_rfl) (by kernel_rfl) (by kernel_rfl) (fun _ _ _ h => h) (.inl ⟨by rfl, fun w' _ => (by go_simp; rfl)⟩) hS ?_
            go_frame
            refine till_take 2 (some 109) rfl rfl (by kernel_rfl) (by kernel_rfl) (by kernel_rfl) (by kernel_rfl) (by kernel_rfl) (by kernel_rfl) (fun _ _ _ h => h) (yields_load (by rfl) 30 _ rfl (.pointer (some ⟨X, 0, none⟩)) rfl (.agg #[.int .u64 a, .int .u64 b, .int .u64 c, .int .u64 d]) (fun w' hS' => load_heap hS' Try.underlying30 rfl Try.sizeU)) hS ?_
            go_frame
            refine till_one 1 rfl (by kernel_rfl) fun K hK => ?_
            simp only [List.getElem_toArray, List.getElem_cons_succ, List.getElem_cons_zero]
            rw [if_pos (by rfl)]
            go_simp
            refine (ckey_any 4 _).mono ?_
            rintro e wf ⟨rfl, hb⟩
            have hS2 := below_at' hb hS
            have ODn := Lib.hid (OD.out.later hb)
            refine hK _ _ (fun _ _ => hS2) ?_
            clear hK hS hb OD
            have hS := hS2
            have OD := ODn
            clear hS2 ODn
            refine till_one 3 rfl (by kernel_rfl) fun K hK => ?_
            simp only [List.getElem_toArray, List.getElem_cons_succ, List.getElem_cons_zero]
            rw [if_pos (by rfl)]
            go_simp
            refine (OD.out.st fun F hs => cadd_any hs (by have := HZ.out.2.2; omega) HF3.out (ckey 4) HU.out).mono ?_
            rw [HADD.out]
            rintro e wg ⟨rfl, o, hoth⟩
            have hS2 := hoth.2 X _ hS rfl rfl
            have ODn := Lib.hid o
            refine hK _ _ (fun _ _ => hS2) ?_
            clear hK hS hoth OD o
            have hS := hS2
            have OD := ODn
            clear hS2 ODn
            refine till_take 4 (some 13) rfl rfl (by kernel_rfl) (by kernel_rfl) (by kernel_rfl) (by kernel_rfl) (by kernel_rfl) (by kernel_rfl) (fun _ _ _ h => h) (.inl ⟨by rfl, fun w' _ => (by go_simp; rfl)⟩) hS ?_
            go_frame
            refine till_done (by kernel_rfl) ?_ _
            have HXb := Lib.hid hS
            clear hS
            go_wp2_with fail
            have ODx := Lib.hid (OD.out.later (Below.drew (Below.refl wg.heap.size wg)))
            have hS : wg.drew.heap[X]? = some (.cells #[.int .u64 a, .int .u64 b, .int .u64 c, .int .u64 d] 30 (0, 0)) := HXb.out
            clear OD HXb
            have OD := ODx
            clear ODx
            refine wp_region_till (fun w' => w'.heap[X]? = some (.cells #[.int .u64 a, .int .u64 b, .int .u64 c, .int .u64 d] 30 (0, 0))) 23 23 (by kernel_rfl) rfl ?_
            refine till_take 0 (some 111) rfl rfl (by kernel_rfl) (by kernel_rfl) (by kernel_rfl) (by kernel_rfl) (by kernel_rfl) (by kernel_rfl) (fun _ _ _ h => h) (.inl ⟨by rfl, fun w' _ => (by go_simp; rfl)⟩) hS ?_
            go_frame
            refine till_take 1 (some 112) rfl rfl (by kernel_rfl) (by kernel_rfl) (by kernel_rfl) (by kernel_rfl) (by kernel_rfl) (by kernel_rfl) (fun _ _ _ h => h) (.inl ⟨by rfl, fun w' _ => (by go_simp; rfl)⟩) hS ?_
            go_frame
            refine till_take 2 (some 113) rfl rfl (by kernel_rfl) (by kernel_rfl) (by kernel_rfl) (by kernel_rfl) (by kernel_rfl) (by kernel_rfl) (fun _ _ _ h => h) (.inl ⟨by rfl, fun w' _ => (by go_simp; rfl)⟩) hS ?_
            go_frame
            refine till_take 3 (some 114) rfl rfl (by kernel_rfl) (by kernel_rfl) (by kernel_rfl) (by kernel_rfl) (by kernel_rfl) (by kernel_rfl) (fun _ _ _ h => h) (.inr ⟨by rfl, rfl⟩) hS ?_
            go_frame
            refine till_take 4 (some 115) rfl rfl (by kernel_rfl) (by kernel_rfl) (by kernel_rfl) (by kernel_rfl) (by kernel_rfl) (by kernel_rfl) (fun _ _ _ h => h) (.inr ⟨by rfl, rfl⟩) hS ?_
            go_frame
            refine till_take 5 (some 116) rfl rfl (by kernel_rfl) (by kernel_rfl) (by kernel_rfl) (by kernel_rfl) (by kernel_rfl) (by kernel_rfl) (fun _ _ _ h => h) (.inr ⟨by rfl, rfl⟩) hS ?_
            go_frame
            refine till_take 6 (some 117) rfl rfl (by kernel_rfl) (by kernel_rfl) (by kernel_rfl) (by kernel_rfl) (by kernel_rfl) (by kernel_rfl) (fun _ _ _ h => h) (.inr ⟨by rfl, rfl⟩) hS ?_
            go_frame
            refine till_take 7 (some 118) rfl rfl (by kernel_rfl) (by kernel_rfl) (by kernel_rfl) (by kernel_rfl) (by kernel_rfl) (by kernel_rfl) (fun _ _ _ h => h) (.inr ⟨by rfl, rfl⟩) hS ?_
            go_frame
            refine till_take 8 (some 119) rfl rfl (by kernel_rfl) (by kernel_rfl) (by kernel_rfl) (by kernel_rfl) (by kernel_rfl) (by kernel_rfl) (fun _ _ _ h => h) (.inr ⟨by rfl, rfl⟩) hS ?_
            go_frame
            refine till_take 9 (some 120) rfl rfl (by kernel_rfl) (by kernel_rfl) (by kernel_rfl) (by kernel_rfl) (by kernel_rfl) (by kernel_rfl) (fun _ _ _ h => h) (.inr ⟨by rfl, rfl⟩) hS ?_
            go_frame
            refine till_take 10 (some 121) rfl rfl (by kernel_rfl) (by kernel_rfl) (by kernel_rfl) (by kernel_rfl) (by kernel_rfl) (by kernel_rfl) (fun _ _ _ h => h) (.inr ⟨by rfl, rfl⟩) hS ?_
            go_frame
            refine till_take 11 (some 122) rfl rfl (by kernel_rfl) (by kernel_rfl) (by kernel_rfl) (by kernel_rfl) (by kernel_rfl) (by kernel_rfl) (fun _ _ _ h => h) (.inr ⟨by rfl, rfl⟩) hS ?_
            go_frame
            refine till_take 12 (some 123) rfl rfl (by kernel_rfl) (by kernel_rfl) (by kernel_rfl) (by kernel_rfl) (by kernel_rfl) (by kernel_rfl) (fun _ _ _ h => h) (.inr ⟨by rfl, rfl⟩) hS ?_
            go_frame
            refine till_take 13 (some 124) rfl rfl (by kernel_rfl) (by kernel_rfl) (by kernel_rfl) (by kernel_rfl) (by kernel_rfl) (by kernel_rfl) (fun _ _ _ h => h) (.inr ⟨by rfl, rfl⟩) hS ?_
            go_frame
            refine till_take 14 (some 125) rfl rfl (by kernel_rfl) (by kernel_rfl) (by kernel_rfl) (by kernel_rfl) (by kernel_rfl) (by kernel_rfl) (fun _ _ _ h => h) (.inr ⟨by rfl, rfl⟩) hS ?_
            go_frame
            refine till_take 15 (some 126) rfl rfl (by kernel_rfl) (by kernel_rfl) (by kernel_rfl) (by kernel_rfl) (by kernel_rfl) (by kernel_rfl) (fun _ _ _ h => h) (.inr ⟨by rfl, rfl⟩) hS ?_
            go_frame
            refine till_take 16 (some 127) rfl rfl (by kernel_rfl) (by kernel_rfl) (by kernel_rfl) (by kernel_rfl) (by kernel_rfl) (by kernel_rfl) (fun _ _ _ h => h) (.inr ⟨by rfl, rfl⟩) hS ?_
            go_frame
            refine till_take 17 (some 128) rfl rfl (by kernel_rfl) (by kernel_rfl) (by kernel_rfl) (by kernel_rfl) (by kernel_rfl) (by kernel_rfl) (fun _ _ _ h => h) (.inr ⟨by rfl, rfl⟩) hS ?_
            go_frame
            refine till_take 18 (some 129) rfl rfl (by kernel_rfl) (by kernel_rfl) (by kernel_rfl) (by kernel_rfl) (by kernel_rfl) (by kernel_rfl) (fun _ _ _ h => h) (.inr ⟨by rfl, rfl⟩) hS ?_
            go_frame
            refine till_take 19 (some 130) rfl rfl (by kernel_rfl) (by kernel_rfl) (by kernel_rfl) (by kernel_rfl) (by kernel_rfl) (by kernel_rfl) (fun _ _ _ h => h) (.inr ⟨by rfl, rfl⟩) hS ?_
            go_frame
            refine till_take 20 (some 131) rfl rfl (by kernel_rfl) (by kernel_rfl) (by kernel_rfl) (by kernel_rfl) (by kernel_rfl) (by kernel_rfl) (fun _ _ _ h => h) (.inr ⟨by rfl, rfl⟩) hS ?_
            go_frame
            refine till_take 21 (some 132) rfl rfl (by kernel_rfl) (by kernel_rfl) (by kernel_rfl) (by kernel_rfl) (by kernel_rfl) (by kernel_rfl) (fun _ _ _ h => h) (.inr ⟨by rfl, rfl⟩) hS ?_
            go_frame
            refine till_take 22 (some 133) rfl rfl (by kernel_rfl) (by kernel_rfl) (by kernel_rfl) (by kernel_rfl) (by kernel_rfl) (by kernel_rfl) (fun _ _ _ h => h) (.inl ⟨by rfl, fun w' _ => (by go_simp; rfl)⟩) hS ?_
            go_frame
            refine till_done (by kernel_rfl) ?_ _
            clear hS
            go_wp2_with fail
            refine (lives10_any _).mono ?_
            rintro e wz ⟨rfl, hb⟩
            have HBF := Lib.hid (OD.out.below.trans (hb.mono OD.out.below.size))
            clear hb
            go_wp2_with fail
            go_ret
            exact ⟨rfl, HBF.out⟩
        | false =>
          have HBT : Hid (false = false) := Lib.hid rfl
          have hl : lr = l := by rw [HLR.out, if_neg (fun e => by have := HBE.out.1 e; cases this)]
          have HLL := Lib.hid hl
          have hp0 : p = q := by rw [HP.out, hl, HQ.out]
          subst hp0
          clear hl
          have hlen : s3.t.length = 2 := by rw [HALL.out.1, if_neg (show ¬ 0 < n by have := HN0.out; omega), if_neg HM0.out, if_neg (fun e => e.elim HLC.out (fun e2 => by have := HBE.out.1 e2; cases this))]
          have HLEN := Lib.hid hlen
          clear hlen
          have q1 := Try.eqUn HU.out UIs.zero
          rw [decide_eq_false HM0.out] at q1
          go_wp2_with (refine wpList_load_row rfl 30 _ rfl X rfl 30 _ _ _ HX9.out Try.underlying30 rfl Try.sizeU ?_)
          have OD := Lib.hid (O9.out.later (Below.drew (Below.refl w9.heap.size w9)))
          have RR := Lib.hid (HRR.out.later (Below.drew (Below.refl w9.heap.size w9)))
          have hS : w9.drew.heap[X]? = some (.cells #[.int .u64 a, .int .u64 b, .int .u64 c, .int .u64 d] 30 (0, 0)) := HX9.out
          clear O9 HRR HX9
          refine wp_region_till (fun w' => w'.heap[X]? = some (.cells #[.int .u64 a, .int .u64 b, .int .u64 c, .int .u64 d] 30 (0, 0))) 43 43 (by kernel_rfl) rfl ?_
          refine till_take 0 (some 64) rfl rfl (by kernel_rfl) (by kernel_rfl) (by kernel_rfl) (by kernel_rfl) (by kernel_rfl) (by kernel_rfl) (fun _ _ _ h => h) (.inl ⟨by rfl, fun w' _ => (by go_simp; rfl)⟩) hS ?_
          go_frame
          refine till_take 2 (some 66) rfl rfl (by kernel_rfl) (by kernel_rfl) (by kernel_rfl) (by kernel_rfl) (by kernel_rfl) (by kernel_rfl) (fun _ _ _ h => h) (.inl ⟨by rfl, fun w' _ => (by go_simp; rfl)⟩) hS ?_
          go_frame
          refine till_one 1 rfl (by kernel_rfl) fun K hK => ?_
          simp only [List.getElem_toArray, List.getElem_cons_succ, List.getElem_cons_zero]
          rw [if_pos (by rfl)]
          go_simp
          obtain ⟨Fq, hst⟩ := OD.out.get
          refine (slen_any hst).mono ?_
          rw [HLEN.out]
          rintro e wx ⟨rfl, rfl⟩
          clear hst
          refine hK _ _ (fun _ _ => hS) ?_
          clear hK
          refine till_take 3 (some 67) rfl rfl (by kernel_rfl) (by kernel_rfl) (by kernel_rfl) (by kernel_rfl) (by kernel_rfl) (by kernel_rfl) (fun _ _ _ h => h) (.inl ⟨by rfl, fun w' _ => (by go_simp; rfl)⟩) hS ?_
          go_frame
          refine till_take 4 (some 68) rfl rfl (by kernel_rfl) (by kernel_rfl) (by kernel_rfl) (by kernel_rfl) (by kernel_rfl) (by kernel_rfl) (fun _ _ _ h => h) (.inl ⟨by rfl, fun w' _ => (by go_simp; rfl)⟩) hS ?_
          go_frame
          refine till_take 5 (some 69) rfl rfl (by kernel_rfl) (by kernel_rfl) (by kernel_rfl) (by kernel_rfl) (by kernel_rfl) (by kernel_rfl) (fun _ _ _ h => h) (.inl ⟨by rfl, fun w' _ => (by go_simp; rfl)⟩) hS ?_
          go_frame
          refine till_take 8 (some 72) rfl rfl (by kernel_rfl) (by kernel_rfl) (by kernel_rfl) (by kernel_rfl) (by kernel_rfl) (by kernel_rfl) (fun _ _ _ h => h) (.inl ⟨by rfl, fun w' _ => (by go_simp; rfl)⟩) hS ?_
          go_frame
          refine till_take 9 (some 73) rfl rfl (by kernel_rfl) (by kernel_rfl) (by kernel_rfl) (by kernel_rfl) (by kernel_rfl) (by kernel_rfl) (fun _ _ _ h => h) (.inl ⟨by rfl, fun w' _ => (by go_simp; rfl)⟩) hS ?_
          go_frame
          refine till_one 6 rfl (by kernel_rfl) fun K hK => ?_
          simp only [List.getElem_toArray, List.getElem_cons_succ, List.getElem_cons_zero]
          rw [if_pos (by rfl)]
          go_simp
          refine (ckey_any 1 _).mono ?_
          rintro e wa ⟨rfl, hb⟩
          have hS2 := below_at' hb hS
          have ODn := Lib.hid (OD.out.later hb); have RRn := Lib.hid (RR.out.later hb)
          refine hK _ _ (fun _ _ => hS2) ?_
          clear hK hS hb OD RR
          have hS := hS2
          have OD := ODn
          have RR := RRn
          clear hS2 ODn RRn
          refine till_one 7 rfl (by kernel_rfl) fun K hK => ?_
          simp only [List.getElem_toArray, List.getElem_cons_succ, List.getElem_cons_zero]
          rw [if_pos (by rfl)]
          go_simp
          obtain ⟨Fq, hst⟩ := OD.out.get
          refine (int_any (Look.of_st hst) HF3.out.f (ckey 1)).mono ?_
          rw [HALL.out.2.1, if_neg (show ¬ 0 < n by have := HN0.out; omega)]
          rintro e wb ⟨rfl, hb⟩
          have hS2 := below_at' hb hS
          have ODn := Lib.hid (OD.out.later hb); have RRn := Lib.hid (RR.out.later hb)
          clear hst
          refine hK _ _ (fun _ _ => hS2) ?_
          clear hK hS hb OD RR
          have hS := hS2
          have OD := ODn
          have RR := RRn
          clear hS2 ODn RRn
          refine till_take 10 (some 74) rfl rfl (by kernel_rfl) (by kernel_rfl) (by kernel_rfl) (by kernel_rfl) (by kernel_rfl) (by kernel_rfl) (fun _ _ _ h => h) (.inl ⟨by rfl, fun w' _ => (by go_simp; rfl)⟩) hS ?_
          go_frame
          refine till_take 11 (some 75) rfl rfl (by kernel_rfl) (by kernel_rfl) (by kernel_rfl) (by kernel_rfl) (by kernel_rfl) (by kernel_rfl) (fun _ _ _ h => h) (.inl ⟨by rfl, fun w' _ => (by go_simp; rfl)⟩) hS ?_
          go_frame
          refine till_take 12 (some 76) rfl rfl (by kernel_rfl) (by kernel_rfl) (by kernel_rfl) (by kernel_rfl) (by kernel_rfl) (by kernel_rfl) (fun _ _ _ h => h) (.inl ⟨by rfl, fun w' _ => (by go_simp; rfl)⟩) hS ?_
          go_frame
          refine till_take 13 (some 77) rfl rfl (by kernel_rfl) (by kernel_rfl) (by kernel_rfl) (by kernel_rfl) (by kernel_rfl) (by kernel_rfl) (fun _ _ _ h => h) (.inl ⟨by rfl, fun w' _ => (by go_simp; rfl)⟩) hS ?_
          go_frame
          refine till_take 16 (some 80) rfl rfl (by kernel_rfl) (by kernel_rfl) (by kernel_rfl) (by kernel_rfl) (by kernel_rfl) (by kernel_rfl) (fun _ _ _ h => h) (yields_load (by rfl) 30 _ rfl (.pointer (some ⟨X, 0, none⟩)) rfl (.agg #[.int .u64 a, .int .u64 b, .int .u64 c, .int .u64 d]) (fun w' hS' => load_heap hS' Try.underlying30 rfl Try.sizeU)) hS ?_
          go_frame
          refine till_one 14 rfl (by kernel_rfl) fun K hK => ?_
          simp only [List.getElem_toArray, List.getElem_cons_succ, List.getElem_cons_zero]
          rw [if_pos (by rfl)]
          go_simp
          refine (ckey_any 2 _).mono ?_
          rintro e wc ⟨rfl, hb⟩
          have hS2 := below_at' hb hS
          have ODn := Lib.hid (OD.out.later hb); have RRn := Lib.hid (RR.out.later hb)
          refine hK _ _ (fun _ _ => hS2) ?_
          clear hK hS hb OD RR
          have hS := hS2
          have OD := ODn
          have RR := RRn
          clear hS2 ODn RRn
          refine till_one 15 rfl (by kernel_rfl) fun K hK => ?_
          simp only [List.getElem_toArray, List.getElem_cons_succ, List.getElem_cons_zero]
          rw [if_pos (by rfl)]
          go_simp
          obtain ⟨Fq, hst⟩ := OD.out.get
          refine (camount_any (Look.of_st hst) HF3.out.f (ckey 2)).mono ?_
          rw [HALL.out.2.2.1]
          rintro e wd ⟨xa, xb, xc, xd, hu1, rfl, hb⟩
          have hS2 := below_at' hb hS
          have ODn := Lib.hid (OD.out.later hb); have RRn := Lib.hid (RR.out.later hb)
          have q2 := Try.eqUn hu1 HU.out
          rw [decide_eq_true rfl] at q2
          clear hu1
          clear hst
          refine hK _ _ (fun _ _ => hS2) ?_
          clear hK hS hb OD RR
          have hS := hS2
          have OD := ODn
          have RR := RRn
          clear hS2 ODn RRn
          refine till_take 17 (some 81) rfl rfl (by kernel_rfl) (by kernel_rfl) (by kernel_rfl) (by kernel_rfl) (by kernel_rfl) (by kernel_rfl) (fun _ _ _ h => h) (.inl ⟨by rfl, fun w' _ => (by go_simp; rfl)⟩) hS ?_
          go_frame
          refine till_take 18 (some 82) rfl rfl (by kernel_rfl) (by kernel_rfl) (by kernel_rfl) (by kernel_rfl) (by kernel_rfl) (by kernel_rfl) (fun _ _ _ h => h) (.inl ⟨by rfl, fun w' _ => (by go_simp; rfl)⟩) hS ?_
          go_frame
          refine till_take 19 (some 83) rfl rfl (by kernel_rfl) (by kernel_rfl) (by kernel_rfl) (by kernel_rfl) (by kernel_rfl) (by kernel_rfl) (fun _ _ _ h => h) (.inl ⟨by rfl, fun w' _ => (by go_simp; rfl)⟩) hS ?_
          go_frame
          refine till_take 20 (some 84) rfl rfl (by kernel_rfl) (by kernel_rfl) (by kernel_rfl) (by kernel_rfl) (by kernel_rfl) (by kernel_rfl) (fun _ _ _ h => h) (.inl ⟨by rfl, fun w' _ => (by go_simp; rfl)⟩) hS ?_
          go_frame
          refine till_take 21 (some 85) rfl rfl (by kernel_rfl) (by kernel_rfl) (by kernel_rfl) (by kernel_rfl) (by kernel_rfl) (by kernel_rfl) (fun _ _ _ h => h) (.inl ⟨by rfl, fun w' _ => (by go_simp; rfl)⟩) hS ?_
          go_frame
          refine till_take 22 (some 86) rfl rfl (by kernel_rfl) (by kernel_rfl) (by kernel_rfl) (by kernel_rfl) (by kernel_rfl) (by kernel_rfl) (fun _ _ _ h => h) (.inl ⟨by rfl, fun w' _ => (by go_simp; rfl)⟩) hS ?_
          go_frame
          refine till_take 23 (some 87) rfl rfl (by kernel_rfl) (by kernel_rfl) (by kernel_rfl) (by kernel_rfl) (by kernel_rfl) (by kernel_rfl) (fun _ _ _ h => h) (.inl ⟨by rfl, fun w' _ => (by go_simp; rfl)⟩) hS ?_
          go_frame
          refine till_take 24 (some 88) rfl rfl (by kernel_rfl) (by kernel_rfl) (by kernel_rfl) (by kernel_rfl) (by kernel_rfl) (by kernel_rfl) (fun _ _ _ h => h) (.inl ⟨by rfl, fun w' _ => (by go_simp; rfl)⟩) hS ?_
          go_frame
          refine till_take 25 (some 89) rfl rfl (by kernel_rfl) (by kernel_rfl) (by kernel_rfl) (by kernel_rfl) (by kernel_rfl) (by kernel_rfl) (fun _ _ _ h => h) (.inl ⟨by rfl, fun w' _ => (by go_simp; rfl)⟩) hS ?_
          go_frame
          refine till_one 26 rfl (by kernel_rfl) fun K hK => ?_
          simp only [List.getElem_toArray, List.getElem_cons_succ, List.getElem_cons_zero]
          rw [if_pos (by rfl)]
          go_simp
          refine (ints_any lr l _ _ _ RR.out (H.out.later OD.out.below)).mono ?_
          rw [decide_eq_true HLL.out]
          rintro e we ⟨rfl, hb⟩
          have hS2 := below_at' hb hS
          have ODn := Lib.hid (OD.out.later hb); have RRn := Lib.hid (RR.out.later hb)
          refine hK _ _ (fun _ _ => hS2) ?_
          clear hK hS hb OD RR
          have hS := hS2
          have OD := ODn
          have RR := RRn
          clear hS2 ODn RRn
          refine till_take 27 (some 91) rfl rfl (by kernel_rfl) (by kernel_rfl) (by kernel_rfl) (by kernel_rfl) (by kernel_rfl) (by kernel_rfl) (fun _ _ _ h => h) (.inl ⟨by rfl, fun w' _ => (by go_simp; rfl)⟩) hS ?_
          go_frame
          refine till_take 28 (some 92) rfl rfl (by kernel_rfl) (by kernel_rfl) (by kernel_rfl) (by kernel_rfl) (by kernel_rfl) (by kernel_rfl) (fun _ _ _ h => h) (.inl ⟨by rfl, fun w' _ => (by go_simp; rfl)⟩) hS ?_
          go_frame
          refine till_take 29 (some 93) rfl rfl (by kernel_rfl) (by kernel_rfl) (by kernel_rfl) (by kernel_rfl) (by kernel_rfl) (by kernel_rfl) (fun _ _ _ h => h) (.inl ⟨by rfl, fun w' _ => (by go_simp; rfl)⟩) hS ?_
          go_frame
          refine till_take 30 (some 94) rfl rfl (by kernel_rfl) (by kernel_rfl) (by kernel_rfl) (by kernel_rfl) (by kernel_rfl) (by kernel_rfl) (fun _ _ _ h => h) (.inl ⟨by rfl, fun w' _ => (by go_simp; rfl)⟩) hS ?_
          go_frame
          refine till_take 31 (some 95) rfl rfl (by kernel_rfl) (by kernel_rfl) (by kernel_rfl) (by kernel_rfl) (by kernel_rfl) (by kernel_rfl) (fun _ _ _ h => h) (.inl ⟨by rfl, fun w' _ => (by go_simp; rfl)⟩) hS ?_
          go_frame
          refine till_take 32 (some 96) rfl rfl (by kernel_rfl) (by kernel_rfl) (by kernel_rfl) (by kernel_rfl) (by kernel_rfl) (by kernel_rfl) (fun _ _ _ h => h) (.inl ⟨by rfl, fun w' _ => (by go_simp; rfl)⟩) hS ?_
          go_frame
          refine till_take 33 (some 97) rfl rfl (by kernel_rfl) (by kernel_rfl) (by kernel_rfl) (by kernel_rfl) (by kernel_rfl) (by kernel_rfl) (fun _ _ _ h => h) (.inl ⟨by rfl, fun w' _ => (by go_simp; rfl)⟩) hS ?_
          go_frame
          refine till_take 34 (some 98) rfl rfl (by kernel_rfl) (by kernel_rfl) (by kernel_rfl) (by kernel_rfl) (by kernel_rfl) (by kernel_rfl) (fun _ _ _ h => h) (.inl ⟨by rfl, fun w' _ => (by go_simp; rfl)⟩) hS ?_
          go_frame
          refine till_take 35 (some 99) rfl rfl (by kernel_rfl) (by kernel_rfl) (by kernel_rfl) (by kernel_rfl) (by kernel_rfl) (by kernel_rfl) (fun _ _ _ h => h) (.inl ⟨by rfl, fun w' _ => (by go_simp; rfl)⟩) hS ?_
          go_frame
          refine till_take 36 (some 100) rfl rfl (by kernel_rfl) (by kernel_rfl) (by kernel_rfl) (by kernel_rfl) (by kernel_rfl) (by kernel_rfl) (fun _ _ _ h => h) (.inl ⟨by rfl, fun w' _ => (by go_simp; rfl)⟩) hS ?_
          go_frame
          refine till_take 37 (some 101) rfl rfl (by kernel_rfl) (by kernel_rfl) (by kernel_rfl) (by kernel_rfl) (by kernel_rfl) (by kernel_rfl) (fun _ _ _ h => h) (.inl ⟨by rfl, fun w' _ => (by go_simp; rfl)⟩) hS ?_
          go_frame
          refine till_take 38 (some 102) rfl rfl (by kernel_rfl) (by kernel_rfl) (by kernel_rfl) (by kernel_rfl) (by kernel_rfl) (by kernel_rfl) (fun _ _ _ h => h) (.inl ⟨by rfl, fun w' _ => (by go_simp; rfl)⟩) hS ?_
          go_frame
          refine till_take 39 (some 103) rfl rfl (by kernel_rfl) (by kernel_rfl) (by kernel_rfl) (by kernel_rfl) (by kernel_rfl) (by kernel_rfl) (fun _ _ _ h => h) (.inl ⟨by rfl, fun w' _ => (by go_simp; rfl)⟩) hS ?_
          go_frame
          refine till_take 40 (some 104) rfl rfl (by kernel_rfl) (by kernel_rfl) (by kernel_rfl) (by kernel_rfl) (by kernel_rfl) (by kernel_rfl) (fun _ _ _ h => h) (.inl ⟨by rfl, fun w' _ => (by go_simp; rfl)⟩) hS ?_
          go_frame
          refine till_take 41 (some 105) rfl rfl (by kernel_rfl) (by kernel_rfl) (by kernel_rfl) (by kernel_rfl) (by kernel_rfl) (by kernel_rfl) (fun _ _ _ h => h) (.inl ⟨by rfl, fun w' _ => (by go_simp; rfl)⟩) hS ?_
          go_frame
          refine till_take 42 (some 106) rfl rfl (by kernel_rfl) (by kernel_rfl) (by kernel_rfl) (by kernel_rfl) (by kernel_rfl) (by kernel_rfl) (fun _ _ _ h => h) (.inl ⟨by rfl, fun w' _ => (by go_simp; rfl)⟩) hS ?_
          go_frame
          refine till_done (by kernel_rfl) ?_ _
          clear q1 q2
          clear RR
          have HXa := Lib.hid hS
          clear hS
          by_cases hh : m < uHalf
          · have hadd := back_add HU.out.lt HALL.out.2.2.2.2 HK4.out hh
            have HADD := Lib.hid hadd
            clear hadd hh
            go_wp2_with fail
            have ODx := Lib.hid (OD.out.later (Below.drew (Below.refl we.heap.size we)))
            have hS : we.drew.heap[X]? = some (.cells #[.int .u64 a, .int .u64 b, .int .u64 c, .int .u64 d] 30 (0, 0)) := HXa.out
            clear OD HXa
            have OD := ODx
            clear ODx
            refine wp_region_till (fun w' => w'.heap[X]? = some (.cells #[.int .u64 a, .int .u64 b, .int .u64 c, .int .u64 d] 30 (0, 0))) 5 5 (by kernel_rfl) rfl ?_
            refine till_take 0 (some 107) rfl rfl (by kernel_rfl) (by kernel_rfl) (by kernel_rfl) (by kernel_rfl) (by kernel_rfl) (by kernel_rfl) (fun _ _ _ h => h) (.inl ⟨by rfl, fun w' _ => (by go_simp; rfl)⟩) hS ?_
            go_frame
            refine till_take 2 (some 109) rfl rfl (by kernel_rfl) (by kernel_rfl) (by kernel_rfl) (by kernel_rfl) (by kernel_rfl) (by kernel_rfl) (fun _ _ _ h => h) (yields_load (by rfl) 30 _ rfl (.pointer (some ⟨X, 0, none⟩)) rfl (.agg #[.int .u64 a, .int .u64 b, .int .u64 c, .int .u64 d]) (fun w' hS' => load_heap hS' Try.underlying30 rfl Try.sizeU)) hS ?_
            go_frame
            refine till_one 1 rfl (by kernel_rfl) fun K hK => ?_
            simp only [List.getElem_toArray, List.getElem_cons_succ, List.getElem_cons_zero]
            rw [if_pos (by rfl)]
            go_simp
            refine (ckey_any 4 _).mono ?_
            rintro e wf ⟨rfl, hb⟩
            have hS2 := below_at' hb hS
            have ODn := Lib.hid (OD.out.later hb)
            refine hK _ _ (fun _ _ => hS2) ?_
            clear hK hS hb OD
            have hS := hS2
            have OD := ODn
            clear hS2 ODn
            refine till_one 3 rfl (by kernel_rfl) fun K hK => ?_
            simp only [List.getElem_toArray, List.getElem_cons_succ, List.getElem_cons_zero]
            rw [if_pos (by rfl)]
            go_simp
            refine (OD.out.st fun F hs => cadd_any hs (by have := HZ.out.2.2; omega) HF3.out (ckey 4) HU.out).mono ?_
            rw [HADD.out.1]
            rintro e wg ⟨rfl, o, hoth⟩
            have hS2 := hoth.2 X _ hS rfl rfl
            have ODn := Lib.hid o
            refine hK _ _ (fun _ _ => hS2) ?_
            clear hK hS hoth OD o
            have hS := hS2
            have OD := ODn
            clear hS2 ODn
            refine till_take 4 (some 13) rfl rfl (by kernel_rfl) (by kernel_rfl) (by kernel_rfl) (by kernel_rfl) (by kernel_rfl) (by kernel_rfl) (fun _ _ _ h => h) (.inl ⟨by rfl, fun w' _ => (by go_simp; rfl)⟩) hS ?_
            go_frame
            refine till_done (by kernel_rfl) ?_ _
            have HXb := Lib.hid hS
            clear hS
            go_wp2_with fail
            have ODx := Lib.hid (OD.out.later (Below.drew (Below.refl wg.heap.size wg)))
            have hS : wg.drew.heap[X]? = some (.cells #[.int .u64 a, .int .u64 b, .int .u64 c, .int .u64 d] 30 (0, 0)) := HXb.out
            clear OD HXb
            have OD := ODx
            clear ODx
            refine wp_region_till (fun w' => w'.heap[X]? = some (.cells #[.int .u64 a, .int .u64 b, .int .u64 c, .int .u64 d] 30 (0, 0))) 23 23 (by kernel_rfl) rfl ?_
            refine till_take 0 (some 111) rfl rfl (by kernel_rfl) (by kernel_rfl) (by kernel_rfl) (by kernel_rfl) (by kernel_rfl) (by kernel_rfl) (fun _ _ _ h => h) (.inl ⟨by rfl, fun w' _ => (by go_simp; rfl)⟩) hS ?_
            go_frame
            refine till_take 1 (some 112) rfl rfl (by kernel_rfl) (by kernel_rfl) (by kernel_rfl) (by kernel_rfl) (by kernel_rfl) (by kernel_rfl) (fun _ _ _ h => h) (.inl ⟨by rfl, fun w' _ => (by go_simp; rfl)⟩) hS ?_
            go_frame
            refine till_take 2 (some 113) rfl rfl (by kernel_rfl) (by kernel_rfl) (by kernel_rfl) (by kernel_rfl) (by kernel_rfl) (by kernel_rfl) (fun _ _ _ h => h) (.inl ⟨by rfl, fun w' _ => (by go_simp; rfl)⟩) hS ?_
            go_frame
            refine till_take 3 (some 114) rfl rfl (by kernel_rfl) (by kernel_rfl) (by kernel_rfl) (by kernel_rfl) (by kernel_rfl) (by kernel_rfl) (fun _ _ _ h => h) (.inl ⟨by rfl, fun w' _ => (by go_simp; rfl)⟩) hS ?_
            go_frame
            refine till_take 6 (some 117) rfl rfl (by kernel_rfl) (by kernel_rfl) (by kernel_rfl) (by kernel_rfl) (by kernel_rfl) (by kernel_rfl) (fun _ _ _ h => h) (yields_load (by rfl) 30 _ rfl (.pointer (some ⟨X, 0, none⟩)) rfl (.agg #[.int .u64 a, .int .u64 b, .int .u64 c, .int .u64 d]) (fun w' hS' => load_heap hS' Try.underlying30 rfl Try.sizeU)) hS ?_
            go_frame
            refine till_one 4 rfl (by kernel_rfl) fun K hK => ?_
            simp only [List.getElem_toArray, List.getElem_cons_succ, List.getElem_cons_zero]
            rw [if_pos (by rfl)]
            go_simp
            refine (ckey_any 4 _).mono ?_
            rintro e wh ⟨rfl, hb⟩
            have hS2 := below_at' hb hS
            have ODn := Lib.hid (OD.out.later hb)
            refine hK _ _ (fun _ _ => hS2) ?_
            clear hK hS hb OD
            have hS := hS2
            have OD := ODn
            clear hS2 ODn
            refine till_one 5 rfl (by kernel_rfl) fun K hK => ?_
            simp only [List.getElem_toArray, List.getElem_cons_succ, List.getElem_cons_zero]
            rw [if_pos (by rfl)]
            go_simp
            obtain ⟨Fq, hst⟩ := OD.out.get
            refine (camount_any (Look.of_st hst) (HF3.out.addA _ _).f (ckey 4)).mono ?_
            rw [HADD.out.2.1]
            rintro e wi ⟨xa, xb, xc, xd, hu1, rfl, hb⟩
            have hS2 := below_at' hb hS
            have ODn := Lib.hid (OD.out.later hb)
            have q2 := Try.eqUn hu1 HU.out
            rw [decide_eq_true rfl] at q2
            clear hu1 hst
            refine hK _ _ (fun _ _ => hS2) ?_
            clear hK hS hb OD
            have hS := hS2
            have OD := ODn
            clear hS2 ODn
            refine till_take 7 (some 118) rfl rfl (by kernel_rfl) (by kernel_rfl) (by kernel_rfl) (by kernel_rfl) (by kernel_rfl) (by kernel_rfl) (fun _ _ _ h => h) (.inl ⟨by rfl, fun w' _ => (by go_simp; rfl)⟩) hS ?_
            go_frame
            refine till_take 8 (some 119) rfl rfl (by kernel_rfl) (by kernel_rfl) (by kernel_rfl) (by kernel_rfl) (by kernel_rfl) (by kernel_rfl) (fun _ _ _ h => h) (.inl ⟨by rfl, fun w' _ => (by go_simp; rfl)⟩) hS ?_
            go_frame
            refine till_take 9 (some 120) rfl rfl (by kernel_rfl) (by kernel_rfl) (by kernel_rfl) (by kernel_rfl) (by kernel_rfl) (by kernel_rfl) (fun _ _ _ h => h) (.inl ⟨by rfl, fun w' _ => (by go_simp; rfl)⟩) hS ?_
            go_frame
            refine till_take 11 (some 122) rfl rfl (by kernel_rfl) (by kernel_rfl) (by kernel_rfl) (by kernel_rfl) (by kernel_rfl) (by kernel_rfl) (fun _ _ _ h => h) (yields_load (by rfl) 30 _ rfl (.pointer (some ⟨X, 0, none⟩)) rfl (.agg #[.int .u64 a, .int .u64 b, .int .u64 c, .int .u64 d]) (fun w' hS' => load_heap hS' Try.underlying30 rfl Try.sizeU)) hS ?_
            go_frame
            refine till_one 10 rfl (by kernel_rfl) fun K hK => ?_
            simp only [List.getElem_toArray, List.getElem_cons_succ, List.getElem_cons_zero]
            rw [if_pos (by rfl)]
            go_simp
            refine (ckey_any 4 _).mono ?_
            rintro e wj ⟨rfl, hb⟩
            have hS2 := below_at' hb hS
            have ODn := Lib.hid (OD.out.later hb)
            refine hK _ _ (fun _ _ => hS2) ?_
            clear hK hS hb OD
            have hS := hS2
            have OD := ODn
            clear hS2 ODn
            refine till_one 12 rfl (by kernel_rfl) fun K hK => ?_
            simp only [List.getElem_toArray, List.getElem_cons_succ, List.getElem_cons_zero]
            rw [if_pos (by rfl)]
            go_simp
            refine (OD.out.st fun F hs => csub_any hs (by have := HZ.out.2.2; have := sz_addA s3 (ckey 4) m; omega) (HF3.out.addA _ _) (ckey 4) HU.out).mono ?_
            rw [HADD.out.2.2.1]
            rintro e wk ⟨rfl, o, hoth⟩
            have hS2 := hoth.2 X _ hS rfl rfl
            have ODn := Lib.hid o
            refine hK _ _ (fun _ _ => hS2) ?_
            clear hK hS hoth OD o
            have hS := hS2
            have OD := ODn
            clear hS2 ODn
            refine till_take 13 (some 124) rfl rfl (by kernel_rfl) (by kernel_rfl) (by kernel_rfl) (by kernel_rfl) (by kernel_rfl) (by kernel_rfl) (fun _ _ _ h => h) (.inl ⟨by rfl, fun w' _ => (by go_simp; rfl)⟩) hS ?_
            go_frame
            refine till_take 14 (some 125) rfl rfl (by kernel_rfl) (by kernel_rfl) (by kernel_rfl) (by kernel_rfl) (by kernel_rfl) (by kernel_rfl) (fun _ _ _ h => h) (.inl ⟨by rfl, fun w' _ => (by go_simp; rfl)⟩) hS ?_
            go_frame
            refine till_take 15 (some 126) rfl rfl (by kernel_rfl) (by kernel_rfl) (by kernel_rfl) (by kernel_rfl) (by kernel_rfl) (by kernel_rfl) (fun _ _ _ h => h) (.inl ⟨by rfl, fun w' _ => (by go_simp; rfl)⟩) hS ?_
            go_frame
            refine till_take 16 (some 127) rfl rfl (by kernel_rfl) (by kernel_rfl) (by kernel_rfl) (by kernel_rfl) (by kernel_rfl) (by kernel_rfl) (fun _ _ _ h => h) (.inl ⟨by rfl, fun w' _ => (by go_simp; rfl)⟩) hS ?_
            go_frame
            refine till_take 19 (some 130) rfl rfl (by kernel_rfl) (by kernel_rfl) (by kernel_rfl) (by kernel_rfl) (by kernel_rfl) (by kernel_rfl) (fun _ _ _ h => h) (.inl ⟨by rfl, fun w' _ => (by go_simp; rfl)⟩) hS ?_
            go_frame
            refine till_one 17 rfl (by kernel_rfl) fun K hK => ?_
            simp only [List.getElem_toArray, List.getElem_cons_succ, List.getElem_cons_zero]
            rw [if_pos (by rfl)]
            go_simp
            refine (ckey_any 4 _).mono ?_
            rintro e wl ⟨rfl, hb⟩
            have hS2 := below_at' hb hS
            have ODn := Lib.hid (OD.out.later hb)
            refine hK _ _ (fun _ _ => hS2) ?_
            clear hK hS hb OD
            have hS := hS2
            have OD := ODn
            clear hS2 ODn
            refine till_one 18 rfl (by kernel_rfl) fun K hK => ?_
            simp only [List.getElem_toArray, List.getElem_cons_succ, List.getElem_cons_zero]
            rw [if_pos (by rfl)]
            go_simp
            obtain ⟨Fq, hst⟩ := OD.out.get
            refine (camount_any (Look.of_st hst) ((HF3.out.addA _ _).subA _ _).f (ckey 4)).mono ?_
            rw [HADD.out.2.2.2]
            rintro e wm ⟨ya, yb, yc, yd, hu1, rfl, hb⟩
            have hS2 := below_at' hb hS
            have ODn := Lib.hid (OD.out.later hb)
            have q3 := Try.eqUn hu1 UIs.zero
            rw [decide_eq_true rfl] at q3
            clear hu1 hst
            refine hK _ _ (fun _ _ => hS2) ?_
            clear hK hS hb OD
            have hS := hS2
            have OD := ODn
            clear hS2 ODn
            refine till_take 20 (some 131) rfl rfl (by kernel_rfl) (by kernel_rfl) (by kernel_rfl) (by kernel_rfl) (by kernel_rfl) (by kernel_rfl) (fun _ _ _ h => h) (.inl ⟨by rfl, fun w' _ => (by go_simp; rfl)⟩) hS ?_
            go_frame
            refine till_take 21 (some 132) rfl rfl (by kernel_rfl) (by kernel_rfl) (by kernel_rfl) (by kernel_rfl) (by kernel_rfl) (by kernel_rfl) (fun _ _ _ h => h) (.inl ⟨by rfl, fun w' _ => (by go_simp; rfl)⟩) hS ?_
            go_frame
            refine till_take 22 (some 133) rfl rfl (by kernel_rfl) (by kernel_rfl) (by kernel_rfl) (by kernel_rfl) (by kernel_rfl) (by kernel_rfl) (fun _ _ _ h => h) (.inl ⟨by rfl, fun w' _ => (by go_simp; rfl)⟩) hS ?_
            go_frame
            refine till_done (by kernel_rfl) ?_ _
            clear hS
            go_wp2_with fail
            refine (lives10_any _).mono ?_
            rintro e wz ⟨rfl, hb⟩
            have HBF := Lib.hid (OD.out.below.trans (hb.mono OD.out.below.size))
            clear hb
            go_wp2_with fail
            go_ret
            exact ⟨rfl, HBF.out⟩
          · have hadd := back_no HALL.out.2.2.2.2 HK4.out hh
            have HADD := Lib.hid hadd
            clear hadd hh
            go_wp2_with fail
            have ODx := Lib.hid (OD.out.later (Below.drew (Below.refl we.heap.size we)))
            have hS : we.drew.heap[X]? = some (.cells #[.int .u64 a, .int .u64 b, .int .u64 c, .int .u64 d] 30 (0, 0)) := HXa.out
            clear OD HXa
            have OD := ODx
            clear ODx
            refine wp_region_till (fun w' => w'.heap[X]? = some (.cells #[.int .u64 a, .int .u64 b, .int .u64 c, .int .u64 d] 30 (0, 0))) 5 5 (by kernel_rfl) rfl ?_
            refine till_take 0 (some 107) rfl rfl (by kernel_rfl) (by kernel_rfl) (by kernel_rfl) (by kernel_rfl) (by kernel_rfl) (by kernel_rfl) (fun _ _ _ h => h) (.inl ⟨by rfl, fun w' _ => (by go_simp; rfl)⟩) hS ?_
            go_frame
            refine till_take 2 (some 109) rfl rfl (by kernel_rfl) (by kernel_rfl) (by kernel_rfl) (by kernel_rfl) (by kernel_rfl) (by kernel_rfl) (fun _ _ _ h => h) (yields_load (by rfl) 30 _ rfl (.pointer (some ⟨X, 0, none⟩)) rfl (.agg #[.int .u64 a, .int .u64 b, .int .u64 c, .int .u64 d]) (fun w' hS' => load_heap hS' Try.underlying30 rfl Try.sizeU)) hS ?_
            go_frame
            refine till_one 1 rfl (by kernel_rfl) fun K hK => ?_
            simp only [List.getElem_toArray, List.getElem_cons_succ, List.getElem_cons_zero]
            rw [if_pos (by rfl)]
            go_simp
            refine (ckey_any 4 _).mono ?_
            rintro e wf ⟨rfl, hb⟩
            have hS2 := below_at' hb hS
            have ODn := Lib.hid (OD.out.later hb)
            refine hK _ _ (fun _ _ => hS2) ?_
            clear hK hS hb OD
            have hS := hS2
            have OD := ODn
            clear hS2 ODn
            refine till_one 3 rfl (by kernel_rfl) fun K hK => ?_
            simp only [List.getElem_toArray, List.getElem_cons_succ, List.getElem_cons_zero]
            rw [if_pos (by rfl)]
            go_simp
            refine (OD.out.st fun F hs => cadd_any hs (by have := HZ.out.2.2; omega) HF3.out (ckey 4) HU.out).mono ?_
            rw [HADD.out]
            rintro e wg ⟨rfl, o, hoth⟩
            have hS2 := hoth.2 X _ hS rfl rfl
            have ODn := Lib.hid o
            refine hK _ _ (fun _ _ => hS2) ?_
            clear hK hS hoth OD o
            have hS := hS2
            have OD := ODn
            clear hS2 ODn
            refine till_take 4 (some 13) rfl rfl (by kernel_rfl) (by kernel_rfl) (by kernel_rfl) (by kernel_rfl) (by kernel_rfl) (by kernel_rfl) (fun _ _ _ h => h) (.inl ⟨by rfl, fun w' _ => (by go_simp; rfl)⟩) hS ?_
            go_frame
            refine till_done (by kernel_rfl) ?_ _
            have HXb := Lib.hid hS
            clear hS
            go_wp2_with fail
            have ODx := Lib.hid (OD.out.later (Below.drew (Below.refl wg.heap.size wg)))
            have hS : wg.drew.heap[X]? = some (.cells #[.int .u64 a, .int .u64 b, .int .u64 c, .int .u64 d] 30 (0, 0)) := HXb.out
            clear OD HXb
            have OD := ODx
            clear ODx
            refine wp_region_till (fun w' => w'.heap[X]? = some (.cells #[.int .u64 a, .int .u64 b, .int .u64 c, .int .u64 d] 30 (0, 0))) 23 23 (by kernel_rfl) rfl ?_
            refine till_take 0 (some 111) rfl rfl (by kernel_rfl) (by kernel_rfl) (by kernel_rfl) (by kernel_rfl) (by kernel_rfl) (by kernel_rfl) (fun _ _ _ h => h) (.inl ⟨by rfl, fun w' _ => (by go_simp; rfl)⟩) hS ?_
            go_frame
            refine till_take 1 (some 112) rfl rfl (by kernel_rfl) (by kernel_rfl) (by kernel_rfl) (by kernel_rfl) (by kernel_rfl) (by kernel_rfl) (fun _ _ _ h => h) (.inl ⟨by rfl, fun w' _ => (by go_simp; rfl)⟩) hS ?_
            go_frame
            refine till_take 2 (some 113) rfl rfl (by kernel_rfl) (by kernel_rfl) (by kernel_rfl) (by kernel_rfl) (by kernel_rfl) (by kernel_rfl) (fun _ _ _ h => h) (.inl ⟨by rfl, fun w' _ => (by go_simp; rfl)⟩) hS ?_
            go_frame
            refine till_take 3 (some 114) rfl rfl (by kernel_rfl) (by kernel_rfl) (by kernel_rfl) (by kernel_rfl) (by kernel_rfl) (by kernel_rfl) (fun _ _ _ h => h) (.inr ⟨by rfl, rfl⟩) hS ?_
            go_frame
            refine till_take 4 (some 115) rfl rfl (by kernel_rfl) (by kernel_rfl) (by kernel_rfl) (by kernel_rfl) (by kernel_rfl) (by kernel_rfl) (fun _ _ _ h => h) (.inr ⟨by rfl, rfl⟩) hS ?_
            go_frame
            refine till_take 5 (some 116) rfl rfl (by kernel_rfl) (by kernel_rfl) (by kernel_rfl) (by kernel_rfl) (by kernel_rfl) (by kernel_rfl) (fun _ _ _ h => h) (.inr ⟨by rfl, rfl⟩) hS ?_
            go_frame
            refine till_take 6 (some 117) rfl rfl (by kernel_rfl) (by kernel_rfl) (by kernel_rfl) (by kernel_rfl) (by kernel_rfl) (by kernel_rfl) (fun _ _ _ h => h) (.inr ⟨by rfl, rfl⟩) hS ?_
            go_frame
            refine till_take 7 (some 118) rfl rfl (by kernel_rfl) (by kernel_rfl) (by kernel_rfl) (by kernel_rfl) (by kernel_rfl) (by kernel_rfl) (fun _ _ _ h => h) (.inr ⟨by rfl, rfl⟩) hS ?_
            go_frame
            refine till_take 8 (some 119) rfl rfl (by kernel_rfl) (by kernel_rfl) (by kernel_rfl) (by kernel_rfl) (by kernel_rfl) (by kernel_rfl) (fun _ _ _ h => h) (.inr ⟨by rfl, rfl⟩) hS ?_
            go_frame
            refine till_take 9 (some 120) rfl rfl (by kernel_rfl) (by kernel_rfl) (by kernel_rfl) (by kernel_rfl) (by kernel_rfl) (by kernel_rfl) (fun _ _ _ h => h) (.inr ⟨by rfl, rfl⟩) hS ?_
            go_frame
            refine till_take 10 (some 121) rfl rfl (by kernel_rfl) (by kernel_rfl) (by kernel_rfl) (by kernel_rfl) (by kernel_rfl) (by kernel_rfl) (fun _ _ _ h => h) (.inr ⟨by rfl, rfl⟩) hS ?_
            go_frame
            refine till_take 11 (some 122) rfl rfl (by kernel_rfl) (by kernel_rfl) (by kernel_rfl) (by kernel_rfl) (by kernel_rfl) (by kernel_rfl) (fun _ _ _ h => h) (.inr ⟨by rfl, rfl⟩) hS ?_
            go_frame
            refine till_take 12 (some 123) rfl rfl (by kernel_rfl) (by kernel_rfl) (by kernel_rfl) (by kernel_rfl) (by kernel_rfl) (by kernel_rfl) (fun _ _ _ h => h) (.inr ⟨by rfl, rfl⟩) hS ?_
            go_frame
            refine till_take 13 (some 124) rfl rfl (by kernel_rfl) (by kernel_rfl) (by kernel_rfl) (by kernel_rfl) (by kernel_rfl) (by kernel_rfl) (fun _ _ _ h => h) (.inr ⟨by rfl, rfl⟩) hS ?_
            go_frame
            refine till_take 14 (some 125) rfl rfl (by kernel_rfl) (by kernel_rfl) (by kernel_rfl) (by kernel_rfl) (by kernel_rfl) (by kernel_rfl) (fun _ _ _ h => h) (.inr ⟨by rfl, rfl⟩) hS ?_
            go_frame
            refine till_take 15 (some 126) rfl rfl (by kernel_rfl) (by kernel_rfl) (by kernel_rfl) (by kernel_rfl) (by kernel_rfl) (by kernel_rfl) (fun _ _ _ h => h) (.inr ⟨by rfl, rfl⟩) hS ?_
            go_frame
            refine till_take 16 (some 127) rfl rfl (by kernel_rfl) (by kernel_rfl) (by kernel_rfl) (by kernel_rfl) (by kernel_rfl) (by kernel_rfl) (fun _ _ _ h => h) (.inr ⟨by rfl, rfl⟩) hS ?_
            go_frame
            refine till_take 17 (some 128) rfl rfl (by kernel_rfl) (by kernel_rfl) (by kernel_rfl) (by kernel_rfl) (by kernel_rfl) (by kernel_rfl) (fun _ _ _ h => h) (.inr ⟨by rfl, rfl⟩) hS ?_
            go_frame
            refine till_take 18 (some 129) rfl rfl (by kernel_rfl) (by kernel_rfl) (by kernel_rfl) (by kernel_rfl) (by kernel_rfl) (by kernel_rfl) (fun _ _ _ h => h) (.inr ⟨by rfl, rfl⟩) hS ?_
            go_frame
            refine till_take 19 (some 130) rfl rfl (by kernel_rfl) (by kernel_rfl) (by kernel_rfl) (by kernel_rfl) (by kernel_rfl) (by kernel_rfl) (fun _ _ _ h => h) (.inr ⟨by rfl, rfl⟩) hS ?_
            go_frame
            refine till_take 20 (some 131) rfl rfl (by kernel_rfl) (by kernel_rfl) (by kernel_rfl) (by kernel_rfl) (by kernel_rfl) (by kernel_rfl) (fun _ _ _ h => h) (.inr ⟨by rfl, rfl⟩) hS ?_
            go_frame
            refine till_take 21 (some 132) rfl rfl (by kernel_rfl) (by kernel_rfl) (by kernel_rfl) (by kernel_rfl) (by kernel_rfl) (by kernel_rfl) (fun _ _ _ h => h) (.inr ⟨by rfl, rfl⟩) hS ?_
            go_frame
            refine till_take 22 (some 133) rfl rfl (by kernel_rfl) (by kernel_rfl) (by kernel_rfl) (by kernel_rfl) (by kernel_rfl) (by kernel_rfl) (fun _ _ _ h => h) (.inl ⟨by rfl, fun w' _ => (by go_simp; rfl)⟩) hS ?_
            go_frame
            refine till_done (by kernel_rfl) ?_ _
            clear hS
            go_wp2_with fail
            refine (lives10_any _).mono ?_
            rintro e wz ⟨rfl, hb⟩
            have HBF := Lib.hid (OD.out.below.trans (hb.mono OD.out.below.size))
            clear hb
            go_wp2_with fail
            go_ret
            exact ⟨rfl, HBF.out⟩
end Go.Proofs.Ytnoocidoblndgaa
