/- Law 31: PoolActs. No condition. -/
import Derived.Test.YthnjakomkdlglaaGreatPolJ
import Derived.Deep.Cut
namespace Go.Proofs.YthnjakomkdlglaaGreat
open Go.RowKit

set_option maxHeartbeats 16000000 in
set_option maxRecDepth 100000 in
theorem acts31_any {w : World} {v : Value} {l : List Act31} (h1 : Rd w act31E 7 v l) (hgd : ∀ a ∈ l, Good31 w a) :
    Calls Tryz.prog 6 #[v] w (Ret w (.bool true)) := by
  obtain ⟨ad, cap, e1, c1, c1'⟩ := h1.shape
  obtain ⟨n, hn⟩ : ∃ n, n = l.length := ⟨_, rfl⟩
  rw [← hn] at e1 c1
  subst e1
  have H1 := Lib.hid h1; have HN := Lib.hid hn; have HGD := Lib.hid hgd
  clear h1 hn hgd
  by_cases hbig : 150 < n
  · go_enter Tryz.func6, Tryz.ntmps6
    go_wp2_with fail
    refine (lives31_any _).mono ?_
    rintro e w2 ⟨rfl, hb⟩
    have HB := Lib.hid hb
    clear hb
    go_wp2_with fail
    go_ret
    exact ⟨rfl, HB.out⟩
  have P150 : Hid (n ≤ 150) := Lib.hid (by omega)
  go_enter Tryz.func6, Tryz.ntmps6
  go_wp2_with fail
  clear hbig
  refine (world31_any _).mono ?_
  rintro e w4 ⟨g, h, rfl, t1⟩
  have TW := Lib.hid t1
  clear t1
  go_wp2_with fail
  go_loopw [17] (fun vi wr => ∃ (i : Nat) (s : PS), vi = .int .i64 i ∧ i ≤ n ∧ Hid (s.sz ≤ 1000 + 6 * i) ∧ Hid (Fit s) ∧ Hid (Two w wr g h s s)) (fun vi _ => n - (intOf vi).toNat)
  case atStart => exact ⟨0, _, rfl, Nat.zero_le _, Lib.hid (Nat.le_of_lt wSq_sz), Lib.hid wSq_fit, TW⟩
  case round =>
    clear TW
    obtain ⟨i, s, rfl, hin, HZ, HF, TF⟩ := hrel
    by_cases hlt : i < n
    · have hj : i < l.length := by rw [← HN.out]; exact hlt
      obtain ⟨gL, off, rfl, hgL, q0, q1, q2, q3, q4, q5, q6⟩ := Rd.act31 H1.out i hj
      have hbw := TF.out.below
      have q0' := (hbw.cell (p := ⟨gL, off + i * 7, none⟩) hgL).trans q0
      have q1' := (hbw.cell (p := ⟨gL, off + i * 7 + 1, none⟩) hgL).trans q1
      have q2' := (hbw.cell (p := ⟨gL, off + i * 7 + 2, none⟩) hgL).trans q2
      have q3' := (hbw.cell (p := ⟨gL, off + i * 7 + 3, none⟩) hgL).trans q3
      have q4' := (hbw.cell (p := ⟨gL, off + i * 7 + 4, none⟩) hgL).trans q4
      have q5' := (hbw.cell (p := ⟨gL, off + i * 7 + 5, none⟩) hgL).trans q5
      have q6' := (hbw.cell (p := ⟨gL, off + i * 7 + 6, none⟩) hgL).trans q6
      have hmem : l[i] ∈ l := List.getElem_mem hj
      obtain ⟨a, ha⟩ : ∃ a, a = l[i] := ⟨_, rfl⟩
      rw [← ha] at hmem q0' q1' q2' q3' q4' q5' q6'
      have HJL := Lib.hid hlt; have HGX := Lib.hid (HGD.out a hmem)
      have HI : Hid (i ≤ 150) := Lib.hid (by have := P150.out; omega)
      obtain ⟨s2, hs2⟩ : ∃ z, z = do31 s a := ⟨_, rfl⟩
      have HS2 := Lib.hid hs2
      have HZ2 : Hid (s2.sz ≤ 1000 + 6 * (i + 1)) := Lib.hid (by have h7 := do31_sz s a; have h8 := HZ.out; rw [hs2]; omega)
      have HF2 : Hid (Fit s2) := Lib.hid (by rw [hs2]; exact do31_fit HF.out a)
      clear ha q0 q1 q2 q3 q4 q5 q6 hgL hj hmem hbw hs2 hin
      go_wp2_with (refine wpList_alloc_g rfl _ rfl _ _ Tryz.zeroAct31 rfl ?_)
      intro R d1 hR
      have WR : Hid (w.heap.size ≤ R) := Lib.hid (by rw [hR.out.eq]; exact (TF.out.below).size)
      have HRz := Lib.hid hR.out.cells; have hbR := hR.out.below
      clear hR
      have TFm := Lib.hid (TF.out.later hbR)
      clear hbR TF
      have TF := TFm
      clear TFm
      have HR := HRz
      clear HRz
      go_wp2_with (refine wpList_store_row_g (t := 60) (old := #[.bool false, .int .i64 0, .int .i64 0, .int .u64 0, .int .u64 0, .int .u64 0, .int .u64 0]) rfl 60 _ _ rfl R #[.bool a.pay, .int .i64 a.who, .int .i64 a.t, .int .u64 (uw0 a.m), .int .u64 (uw1 a.m), .int .u64 (uw2 a.m), .int .u64 (uw3 a.m)] rfl rfl HR.out Tryz.sizeAct31 rfl (by simp [Value.oneCell']) ?_)
      intro d2 hxR kR zR
      clear zR
      have TFm := Lib.hid (two_cells TF.out HR.out rfl rfl kR WR.out)
      have HRm := Lib.hid hxR
      clear hxR kR TF HR
      have TF := TFm
      have HR := HRm
      clear TFm HRm
      clear q0' q1' q2' q3' q4' q5' q6' hlt
      have hi150 : i ≤ 150 := HI.out
      go_wp2_with fail
      obtain ⟨d3, hwz⟩ : ∃ wz, wz = d2.drew := ⟨_, rfl⟩
      have hbz : Below d2.heap.size d2 d3 := by rw [hwz]; exact (Below.refl _ _).drew
      have TFm := Lib.hid (TF.out.later hbz)
      have HRm := Lib.hid (below_at' hbz HR.out)
      clear hbz TF HR
      have TF := TFm
      have HR := HRm
      clear TFm HRm
      have hS : d3.heap[R]? = some (.cells #[.bool a.pay, .int .i64 a.who, .int .i64 a.t, .int .u64 (uw0 a.m), .int .u64 (uw1 a.m), .int .u64 (uw2 a.m), .int .u64 (uw3 a.m)] 60 (0, 0)) := HR.out
      refine wp_region_till (fun w' => w'.heap[R]? = some (.cells #[.bool a.pay, .int .i64 a.who, .int .i64 a.t, .int .u64 (uw0 a.m), .int .u64 (uw1 a.m), .int .u64 (uw2 a.m), .int .u64 (uw3 a.m)] 60 (0, 0))) 38 38 (by kernel_rfl) rfl ?_
      rw [← hwz]
      clear hwz
      refine till_take 0 (some 21) rfl rfl (by kernel_rfl) (by kernel_rfl) (by kernel_rfl) (by kernel_rfl) (by kernel_rfl) (by kernel_rfl) (fun _ _ _ h => h) (.inl ⟨by rfl, fun w' _ => (by go_simp; rfl)⟩) hS ?_
      go_frame
      refine till_take 1 (some 22) rfl rfl (by kernel_rfl) (by kernel_rfl) (by kernel_rfl) (by kernel_rfl) (by kernel_rfl) (by kernel_rfl) (fun _ _ _ h => h) (.inl ⟨by rfl, fun w' _ => (by go_simp; rfl)⟩) hS ?_
      go_frame
      refine till_take 2 (some 23) rfl rfl (by kernel_rfl) (by kernel_rfl) (by kernel_rfl) (by kernel_rfl) (by kernel_rfl) (by kernel_rfl) (fun _ _ _ h => h) (yields_load (by rfl) 60 _ rfl (.pointer (some ⟨R, 0, none⟩)) rfl (.agg #[.bool a.pay, .int .i64 a.who, .int .i64 a.t, .int .u64 (uw0 a.m), .int .u64 (uw1 a.m), .int .u64 (uw2 a.m), .int .u64 (uw3 a.m)]) (fun w' hS' => load_heap (hS') Tryz.underlying60 rfl Tryz.sizeAct31)) hS ?_
      go_frame
      refine till_one 3 rfl (by kernel_rfl) fun K hK => ?_
      simp only [List.getElem_toArray, List.getElem_cons_succ, List.getElem_cons_zero]
      rw [if_pos (by rfl)]
      go_simp
      refine (act31_any TF.out (by have := HZ.out; have := HI.out; omega) HF.out (a := a) (HGX.out.later (TF.out.below))).mono ?_
      rw [← HS2.out]
      rintro e d4 ⟨rfl, o, hoth⟩
      have TFm := Lib.hid o
      have HRm := Lib.hid (hoth.2 R _ HR.out rfl rfl)
      clear o hoth TF HR
      have TF := TFm
      have HR := HRm
      clear TFm HRm
      have hS2 : d4.heap[R]? = some (.cells #[.bool a.pay, .int .i64 a.who, .int .i64 a.t, .int .u64 (uw0 a.m), .int .u64 (uw1 a.m), .int .u64 (uw2 a.m), .int .u64 (uw3 a.m)] 60 (0, 0)) := HR.out
      refine hK _ _ (fun _ _ => hS2) ?_
      clear hK hS
      have hS := hS2
      clear hS2
      refine till_take 4 (some 25) rfl rfl (by kernel_rfl) (by kernel_rfl) (by kernel_rfl) (by kernel_rfl) (by kernel_rfl) (by kernel_rfl) (fun _ _ _ h => h) (.inl ⟨by rfl, fun w' _ => (by go_simp; rfl)⟩) hS ?_
      go_frame
      refine till_take 5 (some 26) rfl rfl (by kernel_rfl) (by kernel_rfl) (by kernel_rfl) (by kernel_rfl) (by kernel_rfl) (by kernel_rfl) (fun _ _ _ h => h) (.inl ⟨by rfl, fun w' _ => (by go_simp; rfl)⟩) hS ?_
      go_frame
      refine till_take 6 (some 27) rfl rfl (by kernel_rfl) (by kernel_rfl) (by kernel_rfl) (by kernel_rfl) (by kernel_rfl) (by kernel_rfl) (fun _ _ _ h => h) (.inl ⟨by rfl, fun w' _ => (by go_simp; rfl)⟩) hS ?_
      go_frame
      refine till_take 7 (some 28) rfl rfl (by kernel_rfl) (by kernel_rfl) (by kernel_rfl) (by kernel_rfl) (by kernel_rfl) (by kernel_rfl) (fun _ _ _ h => h) (.inl ⟨by rfl, fun w' _ => (by go_simp; rfl)⟩) hS ?_
      go_frame
      refine till_take 8 (some 29) rfl rfl (by kernel_rfl) (by kernel_rfl) (by kernel_rfl) (by kernel_rfl) (by kernel_rfl) (by kernel_rfl) (fun _ _ _ h => h) (.inl ⟨by rfl, fun w' hS' => (by have hc : w'.cell? ⟨R, 2, none⟩ = some (.int .i64 a.t) := Lib.cell_of_heap (hS') 2; go_simp; rfl)⟩) hS ?_
      go_frame
      refine till_take 10 (some 31) rfl rfl (by kernel_rfl) (by kernel_rfl) (by kernel_rfl) (by kernel_rfl) (by kernel_rfl) (by kernel_rfl) (fun _ _ _ h => h) (.inl ⟨by rfl, fun w' _ => (by go_simp; rfl)⟩) hS ?_
      go_frame
      refine till_take 11 (some 32) rfl rfl (by kernel_rfl) (by kernel_rfl) (by kernel_rfl) (by kernel_rfl) (by kernel_rfl) (by kernel_rfl) (fun _ _ _ h => h) (.inl ⟨by rfl, fun w' _ => (by go_simp; rfl)⟩) hS ?_
      go_frame
      refine till_take 12 (some 33) rfl rfl (by kernel_rfl) (by kernel_rfl) (by kernel_rfl) (by kernel_rfl) (by kernel_rfl) (by kernel_rfl) (fun _ _ _ h => h) (.inl ⟨by rfl, fun w' hS' => (by have hc : w'.cell? ⟨R, 2, none⟩ = some (.int .i64 a.t) := Lib.cell_of_heap (hS') 2; go_simp; rfl)⟩) hS ?_
      go_frame
      refine till_one 9 rfl (by kernel_rfl) fun K hK => ?_
      simp only [List.getElem_toArray, List.getElem_cons_succ, List.getElem_cons_zero]
      rw [if_pos (by rfl)]
      go_simp
      obtain ⟨F9, h9⟩ := TF.out.get1
      refine (psub_any (Look.of_st h9) HF2.out.f HGX.out.b_t).mono ?_
      rintro e d5 ⟨xaa, xab, xac, xad, hu, rfl, hb⟩
      have HxaU := Lib.hid hu
      clear hu h9
      have TFm := Lib.hid (TF.out.later hb)
      have HRm := Lib.hid (below_at' hb HR.out)
      clear hb TF HR
      have TF := TFm
      have HR := HRm
      clear TFm HRm
      have hS2 : d5.heap[R]? = some (.cells #[.bool a.pay, .int .i64 a.who, .int .i64 a.t, .int .u64 (uw0 a.m), .int .u64 (uw1 a.m), .int .u64 (uw2 a.m), .int .u64 (uw3 a.m)] 60 (0, 0)) := HR.out
      refine hK _ _ (fun _ _ => hS2) ?_
      clear hK hS
      have hS := hS2
      clear hS2
      refine till_one 13 rfl (by kernel_rfl) fun K hK => ?_
      simp only [List.getElem_toArray, List.getElem_cons_succ, List.getElem_cons_zero]
      rw [if_pos (by rfl)]
      go_simp
      obtain ⟨F9, h9⟩ := TF.out.get2
      refine (rpsub_any h9 (by have := HZ2.out; have := HI.out; omega) HF2.out HGX.out.b_t).mono ?_
      rintro e d6 ⟨yaa, yab, yac, yad, hu, rfl, hb⟩
      have HyaU := Lib.hid hu
      clear hu h9
      have e7 := Tryz.eqUn HxaU.out HyaU.out
      rw [decide_eq_true rfl] at e7
      have TFm := Lib.hid (TF.out.later hb)
      have HRm := Lib.hid (below_at' hb HR.out)
      clear hb TF HR
      have TF := TFm
      have HR := HRm
      clear TFm HRm
      have hS2 : d6.heap[R]? = some (.cells #[.bool a.pay, .int .i64 a.who, .int .i64 a.t, .int .u64 (uw0 a.m), .int .u64 (uw1 a.m), .int .u64 (uw2 a.m), .int .u64 (uw3 a.m)] 60 (0, 0)) := HR.out
      refine hK _ _ (fun _ _ => hS2) ?_
      clear hK hS
      have hS := hS2
      clear hS2
      refine till_take 14 (some 35) rfl rfl (by kernel_rfl) (by kernel_rfl) (by kernel_rfl) (by kernel_rfl) (by kernel_rfl) (by kernel_rfl) (fun _ _ _ h => h) (.inl ⟨by rfl, fun w' _ => (by go_simp; rfl)⟩) hS ?_
      go_frame
      refine till_take 15 (some 36) rfl rfl (by kernel_rfl) (by kernel_rfl) (by kernel_rfl) (by kernel_rfl) (by kernel_rfl) (by kernel_rfl) (fun _ _ _ h => h) (.inl ⟨by rfl, fun w' _ => (by go_simp; rfl)⟩) hS ?_
      go_frame
      refine till_take 16 (some 37) rfl rfl (by kernel_rfl) (by kernel_rfl) (by kernel_rfl) (by kernel_rfl) (by kernel_rfl) (by kernel_rfl) (fun _ _ _ h => h) (.inl ⟨by rfl, fun w' _ => (by go_simp; rfl)⟩) hS ?_
      go_frame
      refine till_take 17 (some 38) rfl rfl (by kernel_rfl) (by kernel_rfl) (by kernel_rfl) (by kernel_rfl) (by kernel_rfl) (by kernel_rfl) (fun _ _ _ h => h) (.inl ⟨by rfl, fun w' _ => (by go_simp; rfl)⟩) hS ?_
      go_frame
      refine till_take 18 (some 39) rfl rfl (by kernel_rfl) (by kernel_rfl) (by kernel_rfl) (by kernel_rfl) (by kernel_rfl) (by kernel_rfl) (fun _ _ _ h => h) (.inl ⟨by rfl, fun w' _ => (by go_simp; rfl)⟩) hS ?_
      go_frame
      refine till_take 19 (some 40) rfl rfl (by kernel_rfl) (by kernel_rfl) (by kernel_rfl) (by kernel_rfl) (by kernel_rfl) (by kernel_rfl) (fun _ _ _ h => h) (.inl ⟨by rfl, fun w' hS' => (by have hc : w'.cell? ⟨R, 2, none⟩ = some (.int .i64 a.t) := Lib.cell_of_heap (hS') 2; go_simp; rfl)⟩) hS ?_
      go_frame
      refine till_take 21 (some 42) rfl rfl (by kernel_rfl) (by kernel_rfl) (by kernel_rfl) (by kernel_rfl) (by kernel_rfl) (by kernel_rfl) (fun _ _ _ h => h) (.inl ⟨by rfl, fun w' _ => (by go_simp; rfl)⟩) hS ?_
      go_frame
      refine till_take 22 (some 43) rfl rfl (by kernel_rfl) (by kernel_rfl) (by kernel_rfl) (by kernel_rfl) (by kernel_rfl) (by kernel_rfl) (fun _ _ _ h => h) (.inl ⟨by rfl, fun w' _ => (by go_simp; rfl)⟩) hS ?_
      go_frame
      refine till_take 23 (some 44) rfl rfl (by kernel_rfl) (by kernel_rfl) (by kernel_rfl) (by kernel_rfl) (by kernel_rfl) (by kernel_rfl) (fun _ _ _ h => h) (.inl ⟨by rfl, fun w' hS' => (by have hc : w'.cell? ⟨R, 2, none⟩ = some (.int .i64 a.t) := Lib.cell_of_heap (hS') 2; go_simp; rfl)⟩) hS ?_
      go_frame
      refine till_one 20 rfl (by kernel_rfl) fun K hK => ?_
      simp only [List.getElem_toArray, List.getElem_cons_succ, List.getElem_cons_zero]
      rw [if_pos (by rfl)]
      go_simp
      obtain ⟨F9, h9⟩ := TF.out.get1
      refine (ppaid_any (Look.of_st h9) HF2.out.f HGX.out.b_t).mono ?_
      rintro e d7 ⟨xba, xbb, xbc, xbd, hu, rfl, hb⟩
      have HxbU := Lib.hid hu
      clear hu h9
      have TFm := Lib.hid (TF.out.later hb)
      have HRm := Lib.hid (below_at' hb HR.out)
      clear hb TF HR
      have TF := TFm
      have HR := HRm
      clear TFm HRm
      have hS2 : d7.heap[R]? = some (.cells #[.bool a.pay, .int .i64 a.who, .int .i64 a.t, .int .u64 (uw0 a.m), .int .u64 (uw1 a.m), .int .u64 (uw2 a.m), .int .u64 (uw3 a.m)] 60 (0, 0)) := HR.out
      refine hK _ _ (fun _ _ => hS2) ?_
      clear hK hS
      have hS := hS2
      clear hS2
      refine till_one 24 rfl (by kernel_rfl) fun K hK => ?_
      simp only [List.getElem_toArray, List.getElem_cons_succ, List.getElem_cons_zero]
      rw [if_pos (by rfl)]
      go_simp
      obtain ⟨F9, h9⟩ := TF.out.get2
      refine (rppaid_any h9 (by have := HZ2.out; have := HI.out; omega) HF2.out HGX.out.b_t).mono ?_
      rintro e d8 ⟨yba, ybb, ybc, ybd, hu, rfl, hb⟩
      have HybU := Lib.hid hu
      clear hu h9
      have e8 := Tryz.eqUn HxbU.out HybU.out
      rw [decide_eq_true rfl] at e8
      have TFm := Lib.hid (TF.out.later hb)
      have HRm := Lib.hid (below_at' hb HR.out)
      clear hb TF HR
      have TF := TFm
      have HR := HRm
      clear TFm HRm
      have hS2 : d8.heap[R]? = some (.cells #[.bool a.pay, .int .i64 a.who, .int .i64 a.t, .int .u64 (uw0 a.m), .int .u64 (uw1 a.m), .int .u64 (uw2 a.m), .int .u64 (uw3 a.m)] 60 (0, 0)) := HR.out
      refine hK _ _ (fun _ _ => hS2) ?_
      clear hK hS
      have hS := hS2
      clear hS2
      refine till_take 25 (some 46) rfl rfl (by kernel_rfl) (by kernel_rfl) (by kernel_rfl) (by kernel_rfl) (by kernel_rfl) (by kernel_rfl) (fun _ _ _ h => h) (.inl ⟨by rfl, fun w' _ => (by go_simp; rfl)⟩) hS ?_
      go_frame
      refine till_take 26 (some 47) rfl rfl (by kernel_rfl) (by kernel_rfl) (by kernel_rfl) (by kernel_rfl) (by kernel_rfl) (by kernel_rfl) (fun _ _ _ h => h) (.inl ⟨by rfl, fun w' _ => (by go_simp; rfl)⟩) hS ?_
      go_frame
      refine till_take 27 (some 48) rfl rfl (by kernel_rfl) (by kernel_rfl) (by kernel_rfl) (by kernel_rfl) (by kernel_rfl) (by kernel_rfl) (fun _ _ _ h => h) (.inl ⟨by rfl, fun w' _ => (by go_simp; rfl)⟩) hS ?_
      go_frame
      refine till_take 28 (some 49) rfl rfl (by kernel_rfl) (by kernel_rfl) (by kernel_rfl) (by kernel_rfl) (by kernel_rfl) (by kernel_rfl) (fun _ _ _ h => h) (.inl ⟨by rfl, fun w' _ => (by go_simp; rfl)⟩) hS ?_
      go_frame
      refine till_take 29 (some 50) rfl rfl (by kernel_rfl) (by kernel_rfl) (by kernel_rfl) (by kernel_rfl) (by kernel_rfl) (by kernel_rfl) (fun _ _ _ h => h) (.inl ⟨by rfl, fun w' _ => (by go_simp; rfl)⟩) hS ?_
      go_frame
      refine till_take 30 (some 51) rfl rfl (by kernel_rfl) (by kernel_rfl) (by kernel_rfl) (by kernel_rfl) (by kernel_rfl) (by kernel_rfl) (fun _ _ _ h => h) (.inl ⟨by rfl, fun w' hS' => (by have hc : w'.cell? ⟨R, 2, none⟩ = some (.int .i64 a.t) := Lib.cell_of_heap (hS') 2; go_simp; rfl)⟩) hS ?_
      go_frame
      refine till_take 32 (some 53) rfl rfl (by kernel_rfl) (by kernel_rfl) (by kernel_rfl) (by kernel_rfl) (by kernel_rfl) (by kernel_rfl) (fun _ _ _ h => h) (.inl ⟨by rfl, fun w' _ => (by go_simp; rfl)⟩) hS ?_
      go_frame
      refine till_take 33 (some 54) rfl rfl (by kernel_rfl) (by kernel_rfl) (by kernel_rfl) (by kernel_rfl) (by kernel_rfl) (by kernel_rfl) (fun _ _ _ h => h) (.inl ⟨by rfl, fun w' _ => (by go_simp; rfl)⟩) hS ?_
      go_frame
      refine till_take 34 (some 55) rfl rfl (by kernel_rfl) (by kernel_rfl) (by kernel_rfl) (by kernel_rfl) (by kernel_rfl) (by kernel_rfl) (fun _ _ _ h => h) (.inl ⟨by rfl, fun w' hS' => (by have hc : w'.cell? ⟨R, 2, none⟩ = some (.int .i64 a.t) := Lib.cell_of_heap (hS') 2; go_simp; rfl)⟩) hS ?_
      go_frame
      refine till_one 31 rfl (by kernel_rfl) fun K hK => ?_
      simp only [List.getElem_toArray, List.getElem_cons_succ, List.getElem_cons_zero]
      rw [if_pos (by rfl)]
      go_simp
      obtain ⟨F9, h9⟩ := TF.out.get1
      refine (pleft_any (Look.of_st h9) HF2.out.f HGX.out.b_t).mono ?_
      rintro e d9 ⟨xca, xcb, xcc, xcd, hu, rfl, hb⟩
      have HxcU := Lib.hid hu
      clear hu h9
      have TFm := Lib.hid (TF.out.later hb)
      have HRm := Lib.hid (below_at' hb HR.out)
      clear hb TF HR
      have TF := TFm
      have HR := HRm
      clear TFm HRm
      have hS2 : d9.heap[R]? = some (.cells #[.bool a.pay, .int .i64 a.who, .int .i64 a.t, .int .u64 (uw0 a.m), .int .u64 (uw1 a.m), .int .u64 (uw2 a.m), .int .u64 (uw3 a.m)] 60 (0, 0)) := HR.out
      refine hK _ _ (fun _ _ => hS2) ?_
      clear hK hS
      have hS := hS2
      clear hS2
      refine till_one 35 rfl (by kernel_rfl) fun K hK => ?_
      simp only [List.getElem_toArray, List.getElem_cons_succ, List.getElem_cons_zero]
      rw [if_pos (by rfl)]
      go_simp
      obtain ⟨F9, h9⟩ := TF.out.get2
      refine (rpleft_any h9 (by have := HZ2.out; have := HI.out; omega) HF2.out HGX.out.b_t).mono ?_
      rintro e d10 ⟨yca, ycb, ycc, ycd, hu, rfl, hb⟩
      have HycU := Lib.hid hu
      clear hu h9
      have e9 := Tryz.eqUn HxcU.out HycU.out
      rw [decide_eq_true rfl] at e9
      have TFm := Lib.hid (TF.out.later hb)
      have HRm := Lib.hid (below_at' hb HR.out)
      clear hb TF HR
      have TF := TFm
      have HR := HRm
      clear TFm HRm
      have hS2 : d10.heap[R]? = some (.cells #[.bool a.pay, .int .i64 a.who, .int .i64 a.t, .int .u64 (uw0 a.m), .int .u64 (uw1 a.m), .int .u64 (uw2 a.m), .int .u64 (uw3 a.m)] 60 (0, 0)) := HR.out
      refine hK _ _ (fun _ _ => hS2) ?_
      clear hK hS
      have hS := hS2
      clear hS2
      refine till_take 36 (some 57) rfl rfl (by kernel_rfl) (by kernel_rfl) (by kernel_rfl) (by kernel_rfl) (by kernel_rfl) (by kernel_rfl) (fun _ _ _ h => h) (.inl ⟨by rfl, fun w' _ => (by go_simp; rfl)⟩) hS ?_
      go_frame
      refine till_take 37 (some 58) rfl rfl (by kernel_rfl) (by kernel_rfl) (by kernel_rfl) (by kernel_rfl) (by kernel_rfl) (by kernel_rfl) (fun _ _ _ h => h) (.inl ⟨by rfl, fun w' _ => (by go_simp; rfl)⟩) hS ?_
      go_frame
      refine till_done (by kernel_rfl) ?_ _
      clear hS
      clear e7 e8 e9
      go_wp2_with fail
      go_roundw
      case rel => exact ⟨i + 1, s2, by go_num, HJL.out, HZ2, HF2, TF⟩
      case measure => have := HJL.out; simp [intOf]; omega
    · obtain rfl : i = n := by omega
      have HSZ : Hid (s.t.length < 1099511627776) := Lib.hid (by
        have h9 := HZ.out; have h8 := P150.out
        unfold PS.sz at h9
        omega)
      obtain ⟨_, _, p1, p2, _, _, _⟩ := TF.out
      obtain ⟨vL, vP, hra, _⟩ := p2
      have P1 := Lib.hid p1; have HRA := Lib.hid hra
      have hS : wr.drew.cell? ⟨h, 0, none⟩ = some vL := Lib.cell_of_heap hra.head 0
      have hbd : Below wr.heap.size wr wr.drew := Below.drew (Below.refl _ _)
      clear p1 hra
      go_wp2_with fail
      clear hlt
      refine wp_region_till (fun w' => w'.cell? ⟨h, 0, none⟩ = some vL) 11 11 (by kernel_rfl) rfl ?_
      refine till_take 0 (some 60) rfl rfl (by kernel_rfl) (by kernel_rfl) (by kernel_rfl) (by kernel_rfl) (by kernel_rfl) (by kernel_rfl) (fun _ _ _ h => h) (.inl ⟨by rfl, fun w' _ => (by go_simp; rfl)⟩) hS ?_
      go_frame
      refine till_take 2 (some 62) rfl rfl (by kernel_rfl) (by kernel_rfl) (by kernel_rfl) (by kernel_rfl) (by kernel_rfl) (by kernel_rfl) (fun _ _ _ h => h) (.inl ⟨by rfl, fun w' _ => (by go_simp; rfl)⟩) hS ?_
      go_frame
      refine till_take 3 (some 63) rfl rfl (by kernel_rfl) (by kernel_rfl) (by kernel_rfl) (by kernel_rfl) (by kernel_rfl) (by kernel_rfl) (fun _ _ _ h => h) (.inl ⟨by rfl, fun w' _ => (by go_simp; rfl)⟩) hS ?_
      go_frame
      refine till_take 4 (some 64) rfl rfl (by kernel_rfl) (by kernel_rfl) (by kernel_rfl) (by kernel_rfl) (by kernel_rfl) (by kernel_rfl) (fun _ _ _ h => h) (.inl ⟨by rfl, fun w' _ => (by go_simp; rfl)⟩) hS ?_
      go_frame
      refine till_take 5 (some 65) rfl rfl (by kernel_rfl) (by kernel_rfl) (by kernel_rfl) (by kernel_rfl) (by kernel_rfl) (by kernel_rfl) (fun _ _ _ h => h) (.inl ⟨by rfl, fun w' hS' => (by have hc1 := hS'; go_simp; rfl)⟩) hS ?_
      go_frame
      refine till_one 1 rfl (by kernel_rfl) fun K hK => ?_
      simp only [List.getElem_toArray, List.getElem_cons_succ, List.getElem_cons_zero]
      rw [if_pos (by rfl)]
      go_simp
      refine (sall_any (P1.out.later hbd) HSZ.out).mono ?_
      rintro e wC ⟨vC, rfl, hlC, hbC, _⟩
      have hbx : Below wr.heap.size wr wC := hbd.trans (hbC.mono hbd.size)
      have hS2 : wC.cell? ⟨h, 0, none⟩ = some vL := Lib.cell_of_heap (below_at' hbx HRA.out.head) 0
      refine hK _ _ (fun _ _ => hS2) ?_
      clear hK hS hbd hbC
      have hS := hS2
      have hbd := hbx
      clear hS2 hbx
      refine till_one 6 rfl (by kernel_rfl) fun K hK => ?_
      simp only [List.getElem_toArray, List.getElem_cons_succ, List.getElem_cons_zero]
      rw [if_pos (by rfl)]
      go_simp
      have hsm := rsame_any (hlC.rd pairE_len) ((HRA.out.list.later hbd).rd pairE_len) HSZ.out HSZ.out
      rw [decide_eq_true rfl] at hsm
      refine hsm.mono ?_
      rintro e wD ⟨rfl, hbD⟩
      clear hsm hlC
      have hbx : Below wr.heap.size wr wD := hbd.trans (hbD.mono hbd.size)
      have hS2 : wD.cell? ⟨h, 0, none⟩ = some vL := Lib.cell_of_heap (below_at' hbx HRA.out.head) 0
      refine hK _ _ (fun _ _ => hS2) ?_
      clear hK hS hbd hbD
      have hS := hS2
      have hbd := hbx
      clear hS2 hbx
      refine till_take 7 (some 67) rfl rfl (by kernel_rfl) (by kernel_rfl) (by kernel_rfl) (by kernel_rfl) (by kernel_rfl) (by kernel_rfl) (fun _ _ _ h => h) (.inl ⟨by rfl, fun w' _ => (by go_simp; rfl)⟩) hS ?_
      go_frame
      refine till_one 8 rfl (by kernel_rfl) fun K hK => ?_
      simp only [List.getElem_toArray, List.getElem_cons_succ, List.getElem_cons_zero]
      rw [if_pos (by rfl)]
      go_simp
      refine (lives31_any _).mono ?_
      rintro e wE ⟨rfl, hbE⟩
      have hbx : Below wr.heap.size wr wE := hbd.trans (hbE.mono hbd.size)
      have hS2 : wE.cell? ⟨h, 0, none⟩ = some vL := Lib.cell_of_heap (below_at' hbx HRA.out.head) 0
      refine hK _ _ (fun _ _ => hS2) ?_
      clear hK hS hbd hbE
      have hS := hS2
      have hbd := hbx
      clear hS2 hbx
      refine till_take 9 (some 69) rfl rfl (by kernel_rfl) (by kernel_rfl) (by kernel_rfl) (by kernel_rfl) (by kernel_rfl) (by kernel_rfl) (fun _ _ _ h => h) (.inl ⟨by rfl, fun w' _ => (by go_simp; rfl)⟩) hS ?_
      go_frame
      refine till_take 10 (some 2) rfl rfl (by kernel_rfl) (by kernel_rfl) (by kernel_rfl) (by kernel_rfl) (by kernel_rfl) (by kernel_rfl) (fun _ _ _ h => h) (.inl ⟨by rfl, fun w' _ => (by go_simp; rfl)⟩) hS ?_
      go_frame
      refine till_done (by kernel_rfl) ?_ _
      have BWA := Lib.hid (TF.out.below.trans (hbd.mono TF.out.below.size))
      clear hS hbd
      go_wp2_with fail
      go_ret
      exact ⟨rfl, BWA.out⟩
end Go.Proofs.YthnjakomkdlglaaGreat
