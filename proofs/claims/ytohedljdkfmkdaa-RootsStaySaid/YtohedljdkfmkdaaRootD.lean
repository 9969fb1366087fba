/- Chapter 32: acts on both stores, and the document's example. -/
import Derived.Test.YtohedljdkfmkdaaRootC
namespace Go.Proofs.Ytohedljdkfmkdaa
open Go.RowKit

def fixT (l : Txt) : Txt := if l.length = 32 then l else z32
theorem fixT_len (l : Txt) : (fixT l).length = 32 := by unfold fixT; split; assumption; rfl
theorem fixT_of {l : Txt} (h : l.length = 32) : fixT l = l := by unfold fixT; rw [if_pos h]
def act32E (a : Act32) : List Value := [.bool a.dis, .int .i64 a.i, .int .i64 a.b, .int .i64 a.wt] ++ (fixT a.h).map byteV
theorem act32E_len (a : Act32) : (act32E a).length = 36 := by unfold act32E; rw [List.length_append, List.length_map, fixT_len]; rfl
structure Good32 (a : Act32) : Prop where
  h : a.h.length = 32
  i : -9223372036854775808 ≤ a.i ∧ a.i < 9223372036854775808
theorem a32_0 (a : Act32) : (act32E a).toArray[0]? = some (.bool a.dis) := rfl
theorem a32_1 (a : Act32) : (act32E a).toArray[1]? = some (.int .i64 a.i) := rfl
theorem a32_2 (a : Act32) : (act32E a).toArray[2]? = some (.int .i64 a.b) := rfl
theorem a32_3 (a : Act32) : (act32E a).toArray[3]? = some (.int .i64 a.wt) := rfl
theorem a32_size (a : Act32) : (act32E a).toArray.size = 36 := act32E_len a
theorem a32_h {a : Act32} (h : a.h.length = 32) {w : World} {g : Nat} {T : TypeId} {fr : Nat × Nat} (hg : w.heap[g]? = some (.cells (act32E a).toArray T fr)) : w.rangeAt g 4 (a.h.map byteV) := by
  refine range_of_heap hg 4 _ ?_
  unfold act32E
  rw [fixT_of h]
  simp
  exact List.take_of_length_le (by simp)
theorem a32_one (a : Act32) : (act32E a).toArray.all (·.oneCell') = true := by
  refine Array.all_eq_true_iff_forall_mem.2 fun v hv => ?_
  have hv2 : v ∈ act32E a := by simpa using hv
  unfold act32E at hv2
  rcases List.mem_append.1 hv2 with h | h
  · simp only [List.mem_cons, List.not_mem_nil, or_false] at h
    rcases h with rfl | rfl | rfl | rfl <;> rfl
  · obtain ⟨c, _, rfl⟩ := List.mem_map.1 h; rfl
theorem Try.sizeAct32 : (Try.prog.info? 85).map (·.size) = some 36 := by kernel_rfl
theorem Try.sizeAct32' (a : Act32) : (Try.prog.info? 85).map (·.size) = some (act32E a).toArray.size := by rw [a32_size]; exact Try.sizeAct32
theorem Oth.trans {a b c : World} (h1 : Oth a b) (h2 : Oth b c) : Oth a c := ⟨Nat.le_trans h1.1 h2.1, fun R o ho h3 h4 => h2.2 R o (h1.2 R o ho h3 h4) h3 h4⟩
theorem Oth.of_below {a b : World} (h : Below a.heap.size a b) : Oth a b := ⟨h.size, fun _ _ ho _ _ => below_at' h ho⟩

set_option maxHeartbeats 4000000 in
set_option maxRecDepth 100000 in
theorem act32_any {w0 w : World} {g h : Nat} {s : PS} (T : Two w0 w g h s s) (hz : s.sz < 1099511627000) (hf : Fit s) {a : Act32} (ha : Good32 a) :
    Calls Try.prog 45 #[.pointer (some ⟨g, 0, none⟩), .pointer (some ⟨h, 0, none⟩), .agg (act32E a).toArray] w (fun e w' => e = .returned (.bool true) ∧ Two w0 w' g h (doR s a) (doR s a) ∧ Oth w w') := by
  have T0 := Lib.hid T; have HZ := Lib.hid hz; have HF := Lib.hid hf; have HA := Lib.hid ha
  clear T hz hf ha
  go_enter Try.func45, Try.ntmps45
  obtain ⟨w1, hw1⟩ : ∃ w1, w1 = w.alloc (.cells (act32E a).toArray 85) := ⟨_, rfl⟩
  obtain ⟨R, hR⟩ : ∃ R, R = w.heap.size := ⟨_, rfl⟩
  have hx1 : w1.heap[R]? = some (.cells (act32E a).toArray 85 (0, 0)) := by rw [hw1, hR]; exact heap_alloc_new _ _
  have hb1 : Below w.heap.size w w1 := by rw [hw1]; exact below_new w _
  have T1 := Lib.hid (T0.out.later hb1); have HX1 := Lib.hid hx1; have O1 := Lib.hid (Oth.of_below hb1)
  have q0 : (w.alloc (.cells (act32E a).toArray 85)).cell? ⟨w.heap.size, 0, none⟩ = some (.bool a.dis) := by rw [← hw1, ← hR]; exact (Lib.cell_of_heap hx1 0).trans (a32_0 a)
  have q2 : (w.alloc (.cells (act32E a).toArray 85)).cell? ⟨w.heap.size, 2, none⟩ = some (.int .i64 a.b) := by rw [← hw1, ← hR]; exact (Lib.cell_of_heap hx1 2).trans (a32_2 a)
  have q3 : (w.alloc (.cells (act32E a).toArray 85)).cell? ⟨w.heap.size, 3, none⟩ = some (.int .i64 a.wt) := by rw [← hw1, ← hR]; exact (Lib.cell_of_heap hx1 3).trans (a32_3 a)
  clear hx1 hb1 T0
  obtain ⟨d, hd⟩ : ∃ d, d = a.dis := ⟨_, rfl⟩
  rw [← hd] at q0
  cases d with
  | true =>
    have HD : Hid (doR s a = disS s a.i a.b) := Lib.hid (by unfold doR; rw [← hd]; rfl)
    clear hd
    go_wp2_with fail
    rw [← hw1, ← hR]
    clear hw1 hR q0 q3
    obtain ⟨wz, hwz⟩ : ∃ wz, wz = w1.drew := ⟨_, rfl⟩
    have hbz : Below w1.heap.size w1 wz := by rw [hwz]; exact Below.drew (Below.refl _ _)
    have TZ := Lib.hid (T1.out.later hbz); have HXZ := Lib.hid (below_at' hbz HX1.out); have OZ := Lib.hid (O1.out.trans (Oth.of_below hbz))
    have hS : wz.cell? ⟨R, 1, none⟩ = some (.int .i64 a.i) ∧ wz.cell? ⟨R, 2, none⟩ = some (.int .i64 a.b) := ⟨(Lib.cell_of_heap HXZ.out 1).trans (a32_1 a), (Lib.cell_of_heap HXZ.out 2).trans (a32_2 a)⟩
    clear hbz T1 HX1 O1 q2
    refine wp_region_till (fun w' => w'.cell? ⟨R, 1, none⟩ = some (.int .i64 a.i) ∧ w'.cell? ⟨R, 2, none⟩ = some (.int .i64 a.b)) 14 14 (by kernel_rfl) rfl ?_
    rw [← hwz]
    clear hwz
    refine till_take 0 (some 13) rfl rfl (by kernel_rfl) (by kernel_rfl) (by kernel_rfl) (by kernel_rfl) (by kernel_rfl) (by kernel_rfl) (fun _ _ _ h => h) (.inl ⟨by rfl, fun w' _ => (by go_simp; rfl)⟩) hS ?_
    go_frame
    refine till_take 1 (some 14) rfl rfl (by kernel_rfl) (by kernel_rfl) (by kernel_rfl) (by kernel_rfl) (by kernel_rfl) (by kernel_rfl) (fun _ _ _ h => h) (.inl ⟨by rfl, fun w' _ => (by go_simp; rfl)⟩) hS ?_
    go_frame
    refine till_take 2 (some 15) rfl rfl (by kernel_rfl) (by kernel_rfl) (by kernel_rfl) (by kernel_rfl) (by kernel_rfl) (by kernel_rfl) (fun _ _ _ h => h) (.inl ⟨by rfl, fun w' hS' => (by obtain ⟨hc1, hc2⟩ := hS'; go_simp; rfl)⟩) hS ?_
    go_frame
    refine till_take 3 (some 16) rfl rfl (by kernel_rfl) (by kernel_rfl) (by kernel_rfl) (by kernel_rfl) (by kernel_rfl) (by kernel_rfl) (fun _ _ _ h => h) (.inl ⟨by rfl, fun w' _ => (by go_simp; rfl)⟩) hS ?_
    go_frame
    refine till_take 4 (some 17) rfl rfl (by kernel_rfl) (by kernel_rfl) (by kernel_rfl) (by kernel_rfl) (by kernel_rfl) (by kernel_rfl) (fun _ _ _ h => h) (.inl ⟨by rfl, fun w' hS' => (by obtain ⟨hc1, hc2⟩ := hS'; go_simp; rfl)⟩) hS ?_
    go_frame
    refine till_take 6 (some 19) rfl rfl (by kernel_rfl) (by kernel_rfl) (by kernel_rfl) (by kernel_rfl) (by kernel_rfl) (by kernel_rfl) (fun _ _ _ h => h) (.inl ⟨by rfl, fun w' _ => (by go_simp; rfl)⟩) hS ?_
    go_frame
    refine till_take 7 (some 20) rfl rfl (by kernel_rfl) (by kernel_rfl) (by kernel_rfl) (by kernel_rfl) (by kernel_rfl) (by kernel_rfl) (fun _ _ _ h => h) (.inl ⟨by rfl, fun w' _ => (by go_simp; rfl)⟩) hS ?_
    go_frame
    refine till_take 8 (some 21) rfl rfl (by kernel_rfl) (by kernel_rfl) (by kernel_rfl) (by kernel_rfl) (by kernel_rfl) (by kernel_rfl) (fun _ _ _ h => h) (.inl ⟨by rfl, fun w' hS' => (by obtain ⟨hc1, hc2⟩ := hS'; go_simp; rfl)⟩) hS ?_
    go_frame
    refine till_take 9 (some 22) rfl rfl (by kernel_rfl) (by kernel_rfl) (by kernel_rfl) (by kernel_rfl) (by kernel_rfl) (by kernel_rfl) (fun _ _ _ h => h) (.inl ⟨by rfl, fun w' _ => (by go_simp; rfl)⟩) hS ?_
    go_frame
    refine till_take 10 (some 23) rfl rfl (by kernel_rfl) (by kernel_rfl) (by kernel_rfl) (by kernel_rfl) (by kernel_rfl) (by kernel_rfl) (fun _ _ _ h => h) (.inl ⟨by rfl, fun w' hS' => (by obtain ⟨hc1, hc2⟩ := hS'; go_simp; rfl)⟩) hS ?_
    go_frame
    refine till_one 5 rfl (by kernel_rfl) fun K hK => ?_
    simp only [List.getElem_toArray, List.getElem_cons_succ, List.getElem_cons_zero]
    rw [if_pos (by rfl)]
    go_simp
    refine (TZ.out.st fun F h => dis32_any h (by have := HZ.out; omega) HF.out a.b HA.out.i).mono ?_
    rintro e wa ⟨rfl, t8, o8⟩
    have TA := Lib.hid t8; have HXwa := Lib.hid (o8.2 R _ HXZ.out rfl rfl); have OA := Lib.hid (OZ.out.trans o8)
    have hS1 : wa.cell? ⟨R, 1, none⟩ = some (.int .i64 a.i) ∧ wa.cell? ⟨R, 2, none⟩ = some (.int .i64 a.b) := ⟨(Lib.cell_of_heap HXwa.out 1).trans (a32_1 a), (Lib.cell_of_heap HXwa.out 2).trans (a32_2 a)⟩
    refine hK _ _ (fun _ _ => hS1) ?_
    clear hK hS t8 o8 TZ HXZ OZ
    have hS := hS1
    clear hS1
    refine till_one 11 rfl (by kernel_rfl) fun K hK => ?_
    simp only [List.getElem_toArray, List.getElem_cons_succ, List.getElem_cons_zero]
    rw [if_pos (by rfl)]
    go_simp
    refine (TA.out.rs fun F h => rdis32_any h (by have := HZ.out; omega) HF.out a.b HA.out.i).mono ?_
    rintro e wb ⟨rfl, t8, o8⟩
    have TB := Lib.hid t8; have HXwb := Lib.hid (o8.2 R _ HXwa.out rfl rfl); have OB := Lib.hid (OA.out.trans o8)
    have hS1 : wb.cell? ⟨R, 1, none⟩ = some (.int .i64 a.i) ∧ wb.cell? ⟨R, 2, none⟩ = some (.int .i64 a.b) := ⟨(Lib.cell_of_heap HXwb.out 1).trans (a32_1 a), (Lib.cell_of_heap HXwb.out 2).trans (a32_2 a)⟩
    refine hK _ _ (fun _ _ => hS1) ?_
    clear hK hS t8 o8 TA HXwa OA
    have hS := hS1
    clear hS1
    refine till_take 12 (some 25) rfl rfl (by kernel_rfl) (by kernel_rfl) (by kernel_rfl) (by kernel_rfl) (by kernel_rfl) (by kernel_rfl) (fun _ _ _ h => h) (.inl ⟨by rfl, fun w' _ => (by go_simp; rfl)⟩) hS ?_
    go_frame
    refine till_take 13 (some 6) rfl rfl (by kernel_rfl) (by kernel_rfl) (by kernel_rfl) (by kernel_rfl) (by kernel_rfl) (by kernel_rfl) (fun _ _ _ h => h) (.inl ⟨by rfl, fun w' _ => (by go_simp; rfl)⟩) hS ?_
    go_frame
    refine till_done (by kernel_rfl) ?_ _
    clear hS
    go_wp2_with fail
    go_ret
    refine ⟨by simp, ?_, OB.out⟩
    rw [HD.out]; exact TB.out
  | false =>
    have HD : Hid (doR s a = postS s a.h a.b a.wt) := Lib.hid (by unfold doR; rw [← hd]; rfl)
    clear hd
    go_wp2_with (refine wpList_load_mid rfl 83 _ rfl w.heap.size 4 rfl (a.h.map byteV) _ (a32_h HA.out.h (by rw [← hw1, ← hR]; exact HX1.out)) Try.underlying83 rfl (Try.sizeHshL HA.out.h) ?_)
    rw [← hw1, ← hR]
    clear hw1 hR q0 q2 q3
    refine (T1.out.st fun F h => post32_any h (by have := HZ.out; omega) HF.out HA.out.h a.b a.wt).mono ?_
    rintro e w2 ⟨rfl, t2, o2⟩
    obtain ⟨n, hn⟩ : ∃ n, n = postN (getP s.t) a.b a.wt := ⟨_, rfl⟩
    obtain ⟨er, her⟩ : ∃ er, er = postE (getP s.t) a.b a.wt := ⟨_, rfl⟩
    rw [← hn, ← her]
    have HN := Lib.hid hn; have HER := Lib.hid her
    have T2 := Lib.hid t2; have HX2 := Lib.hid (o2.2 R _ HX1.out rfl rfl); have O2 := Lib.hid (O1.out.trans o2)
    have q2 : w2.cell? ⟨R, 2, none⟩ = some (.int .i64 a.b) := (Lib.cell_of_heap HX2.out 2).trans (a32_2 a)
    have q3 : w2.cell? ⟨R, 3, none⟩ = some (.int .i64 a.wt) := (Lib.cell_of_heap HX2.out 3).trans (a32_3 a)
    clear t2 o2 T1 HX1 O1 hn her
    go_wp2_with (refine wpList_load_mid rfl 83 _ rfl R 4 rfl (a.h.map byteV) _ (a32_h HA.out.h HX2.out) Try.underlying83 rfl (Try.sizeHshL HA.out.h) ?_)
    refine (T2.out.rs fun F h => rpost32_any h (by have := HZ.out; omega) HF.out HA.out.h a.b a.wt).mono ?_
    rintro e w3 ⟨rfl, t3, o3⟩
    rw [← HN.out, ← HER.out]
    have T3 := Lib.hid t3; have O3 := Lib.hid (O2.out.trans o3)
    have e1 : (n == n) = true := by simp
    have e2 : (er == er) = true := by simp
    clear t3 o3 T2 O2 q2 q3
    go_wp2_with fail
    go_ret
    refine ⟨rfl, ?_, O3.out⟩
    rw [HD.out]; exact T3.out

/-! ### the document's example -/
def h1T : Txt := 1 :: List.replicate 31 0
theorem h1T_len : h1T.length = 32 := by kernel_rfl
theorem litH1 : (#[.int .u8 1, .int .u8 0, .int .u8 0, .int .u8 0, .int .u8 0, .int .u8 0, .int .u8 0, .int .u8 0, .int .u8 0, .int .u8 0, .int .u8 0, .int .u8 0, .int .u8 0, .int .u8 0, .int .u8 0, .int .u8 0, .int .u8 0, .int .u8 0, .int .u8 0, .int .u8 0, .int .u8 0, .int .u8 0, .int .u8 0, .int .u8 0, .int .u8 0, .int .u8 0, .int .u8 0, .int .u8 0, .int .u8 0, .int .u8 0, .int .u8 0, .int .u8 0] : Array Value) = c8 h1T := by kernel_rfl
def lvS : PS := postS PS.new h1T 5 3
theorem lv1 : postN (getP PS.new.t) 5 3 = 0 ∧ postE (getP PS.new.t) 5 3 = 0 := by constructor <;> kernel_rfl
theorem lv2 : useE (getP lvS.t) 0 8 = 0 := by kernel_rfl
theorem lv3 : disE (getP lvS.t) 0 8 = 10 := by kernel_rfl
theorem lv4 : disE (getP lvS.t) 0 7 = 0 := by kernel_rfl
theorem lv5 : lvS.sz < 1000 := by
  have := sz_postS PS.new h1T 5 3
  have h2 : PS.new.sz = 0 := rfl
  show (postS PS.new h1T 5 3).sz < 1000
  omega

set_option maxHeartbeats 4000000 in
set_option maxRecDepth 100000 in
theorem lives32_any (w : World) : Calls Try.prog 44 #[] w fun e w' => e = .returned (.bool true) ∧ Below w.heap.size w w' := by
  go_enter Try.func44, Try.ntmps44
  go_wp2_with fail
  refine (snew_any _).mono ?_
  rintro e w1 ⟨g, F, rfl, h1, hb1, hf1⟩
  have O1 : Hid (One w w1 g PS.new) := Lib.hid ⟨F, h1, hf1, hb1⟩
  clear h1 hb1 hf1
  go_wp2_with fail
  rw [litH1]
  refine (O1.out.st fun F h => post32_any h (by decide) Fit.new h1T_len 5 3).mono ?_
  rintro e w2 ⟨rfl, o2, _⟩
  rw [lv1.1, lv1.2]
  have hfit : Fit lvS := Fit.new.postS h1T_len 5 3
  have o2' : One w w2 g lvS := o2
  obtain ⟨s, hs⟩ : ∃ s, s = lvS := ⟨_, rfl⟩
  rw [← hs] at hfit o2'
  have HS := Lib.hid hs; have HF := Lib.hid hfit; have O2 := Lib.hid o2'
  clear o2 o2' hs hfit O1
  go_wp2_with fail
  obtain ⟨F2, p2⟩ := O2.out.get
  refine (use32_any (Look.of_st p2) HF.out.f 8 (i := 0) (by decide)).mono ?_
  rw [HS.out, lv2]
  obtain ⟨u, hu⟩ : ∃ u, u = useH (getP lvS.t) 0 8 := ⟨_, rfl⟩
  have HU : Hid (u.length = 32) := Lib.hid (by rw [hu]; exact useH_len _ _ _)
  rw [← hu]
  rintro e w3 ⟨rfl, hb⟩
  have O3 := Lib.hid (O2.out.later hb)
  clear hb hu p2 O2
  go_wp2_with (refine wpList_alloc_g rfl _ rfl _ _ Try.zeroHsh rfl ?_)
  intro X w4 h4
  have HX4 := Lib.hid h4.out.cells; have O4 := Lib.hid (O3.out.later h4.out.below); have HXW : Hid (w3.heap.size ≤ X) := Lib.hid (Nat.le_of_eq h4.out.eq.symm)
  go_wp2_with (refine wpList_store_row_g (t := 83) (old := c8 z32) rfl 83 _ _ rfl X (c8 u) rfl rfl HX4.out (Try.sizeHsh HU.out) (by rw [c8_size, c8_size, HU.out]; rfl) (c8_one _) ?_)
  intro w5 hx5 k45 z45
  have O5 := Lib.hid (O3.out.later (h4.out.below.trans (k45.below (B := w3.heap.size) (fun y hy e => by have := HXW.out; omega) h4.out.below.size)))
  clear h4 hx5 k45 z45 O3 O4 HX4
  go_wp2_with fail
  refine (O5.out.st fun F h => dis32_any h (by rw [HS.out]; have := lv5; omega) HF.out 8 (i := 0) (by decide)).mono ?_
  rintro e w6 ⟨rfl, o6, _⟩
  rw [HS.out, lv3]
  rw [dis_s (by rw [HS.out, lv3]; decide)] at o6
  have O6 := Lib.hid o6
  clear o6 O5
  go_wp2_with fail
  refine (O6.out.st fun F h => dis32_any h (by rw [HS.out]; have := lv5; omega) HF.out 7 (i := 0) (by decide)).mono ?_
  rintro e w7 ⟨rfl, o7, _⟩
  rw [HS.out, lv4]
  have O7 := Lib.hid o7
  clear o7 O6
  go_wp2_with fail
  go_ret
  exact ⟨rfl, O7.out.below⟩
end Go.Proofs.Ytohedljdkfmkdaa
