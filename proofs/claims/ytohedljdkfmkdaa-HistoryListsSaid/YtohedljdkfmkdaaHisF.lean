/- Chapter 11: HistoryLists: the walk. No condition. -/
import Derived.Test.YtohedljdkfmkdaaHisE
namespace Go.Proofs.Ytohedljdkfmkdaa
open Go.RowKit

theorem Rd.urange {w : World} {ad : Option Addr} {n cap : Nat} {l : List Nat} (h : Rd w uE 4 (.slice ad n cap) l) (i : Nat) (hi : i < l.length) : ∃ g off, ad = some ⟨g, off, none⟩ ∧ g < w.heap.size ∧ w.rangeAt g (off + i * 4) (uE l[i]) := by
  have hne : l ≠ [] := by rintro rfl; simp at hi
  obtain ⟨ax, cx, e3, _, _, h3⟩ := h
  obtain ⟨b, off, e4, hb, h5⟩ := h3 hne
  refine ⟨b, off, (Value.slice.inj e3).1.trans e4, hb, fun j v hj => ?_⟩
  have hj4 : j < 4 := by have := (List.getElem?_eq_some_iff.1 hj).1; rwa [uE_len] at this
  rw [h5 i hi j hj4]; exact hj
theorem rangeAt_below {w w' : World} {g o : Nat} {cs : List Value} (hb : Below w.heap.size w w') (hg : g < w.heap.size) (h : w.rangeAt g o cs) : w'.rangeAt g o cs := fun j v hj => (hb.cell (p := ⟨g, o + j, none⟩) hg).trans (h j v hj)

set_option maxHeartbeats 16000000 in
set_option maxRecDepth 100000 in
theorem lists_any {w : World} {v1 : Value} {l : List Act11} (h1 : Rd w act11E 6 v1 l) (hgd : ∀ a ∈ l, Good11 w a) :
    Calls Try.prog 12 #[v1] w (Ret w (.bool true)) := by
  obtain ⟨ad, cap, e1, c1, c1'⟩ := h1.shape
  obtain ⟨n, hn⟩ : ∃ n, n = l.length := ⟨_, rfl⟩
  rw [← hn] at e1 c1
  subst e1
  have H1 := Lib.hid h1; have HN := Lib.hid hn; have HGD := Lib.hid hgd
  clear h1 hn hgd
  go_enter Try.func12, Try.ntmps12
  go_wp2_with fail
  refine (light11_any H1.out).mono ?_
  rintro e w1 ⟨r, rfl, hr, hb⟩
  cases r with
  | false =>
    have HB := Lib.hid hb
    clear hr hb
    go_wp2_with fail
    refine (lives11_any _).mono ?_
    rintro e w2 ⟨rfl, hb2⟩
    have HB2 := Lib.hid (HB.out.trans (hb2.mono HB.out.size))
    clear hb2
    go_wp2_with fail
    go_ret
    exact ⟨rfl, HB2.out⟩
  | true =>
  have HL := Lib.hid (hr rfl); have HB0 := Lib.hid hb
  clear hr hb
  go_wp2_with fail
  refine (snew_any _).mono ?_
  rintro e w3 ⟨g, F, rfl, q1, hb3, q3⟩
  have O3 := Lib.hid (HOne.new q1 q3 hb3 HB0.out 9 [1])
  clear q1 hb3 q3 HB0
  go_wp2_with fail
  go_loopw [19] (fun vi wr => ∃ (i : Nat) (H : List (Int × Nat)) (s : PS), vi = .int .i64 i ∧ i ≤ n ∧ Hid (HOne w wr g 9 [1] s H i)) (fun vi _ => n - (intOf vi).toNat)
  case atStart => exact ⟨0, [], _, rfl, Nat.zero_le _, O3⟩
  case round =>
    clear O3
    obtain ⟨i, H, s, rfl, hin, OI⟩ := hrel
    have HIN : Hid (i ≤ 100) := Lib.hid (by have := HL.out.1; have := HN.out; omega)
    by_cases hlt : i < n
    · skip
      have hi : i < l.length := by rw [← HN.out]; exact hlt
      obtain ⟨gL, off, rfl, hgL, q0, q1, q2, q3, q4, q5⟩ := Rd.act11 H1.out i hi
      have hbw := OI.out.one.below
      have q0' := (hbw.cell (p := ⟨gL, off + i * 6, none⟩) hgL).trans q0
      have q1' := (hbw.cell (p := ⟨gL, off + i * 6 + 1, none⟩) hgL).trans q1
      have q2' := (hbw.cell (p := ⟨gL, off + i * 6 + 2, none⟩) hgL).trans q2
      have q3' := (hbw.cell (p := ⟨gL, off + i * 6 + 3, none⟩) hgL).trans q3
      have q4' := (hbw.cell (p := ⟨gL, off + i * 6 + 4, none⟩) hgL).trans q4
      have q5' := (hbw.cell (p := ⟨gL, off + i * 6 + 5, none⟩) hgL).trans q5
      have hmem : l[i] ∈ l := List.getElem_mem hi
      obtain ⟨a, ha⟩ : ∃ a, a = l[i] := ⟨_, rfl⟩
      rw [← ha] at q0' q1' q2' q3' q4' q5' hmem
      have HLT := Lib.hid hlt; have HGX := Lib.hid (HGD.out a hmem)
      clear ha q0 q1 q2 q3 q4 q5 hgL hi hmem hbw
      go_wp2_with (refine wpList_alloc_g rfl _ rfl _ _ Try.zeroAct11 rfl ?_)
      intro R w5 h5
      go_wp2_with (refine wpList_store_row_g (t := 107) (old := #[.slice none 0 0, .int .i64 0, .int .u64 0, .int .u64 0, .int .u64 0, .int .u64 0]) rfl 107 _ _ rfl R #[.slice a.idsd a.ids.length a.idsc, .int .i64 a.b, .int .u64 (uw0 a.m), .int .u64 (uw1 a.m), .int .u64 (uw2 a.m), .int .u64 (uw3 a.m)] rfl rfl h5.out.cells Try.sizeAct11 rfl (by simp [Value.oneCell']) ?_)
      intro w6 hx6 k56 z56
      have hb56 : Below wr.heap.size wr w6 := h5.out.below.trans (k56.below (B := wr.heap.size) (fun x hx e => by have := h5.out.eq; omega) h5.out.below.size)
      have O6 := Lib.hid (OI.out.later hb56); have HX6 := Lib.hid hx6
      clear h5 hx6 k56 z56 hb56 q0' q1' q2' q3' q4' q5' OI
      have r1 : (w6.alloc (.cells #[.int .i64 1] 3)).cell? ⟨R, 1, none⟩ = some (.int .i64 a.b) := Lib.cell_of_heap (below_at' (below_new _ _) HX6.out) 1
      go_wp2_with (refine wpList_load_mid rfl 105 _ rfl R 2 rfl [.int .u64 (uw0 (a.m)), .int .u64 (uw1 (a.m)), .int .u64 (uw2 (a.m)), .int .u64 (uw3 (a.m))] _ (range_of_heap (below_at' (below_new _ _) HX6.out) 2 _ rfl) Try.underlying105 rfl Try.sizeU ?_)
      obtain ⟨w7, hwl⟩ : ∃ w2, w2 = w6.alloc (.cells #[.int .i64 1] 3) := ⟨_, rfl⟩
      obtain ⟨gi, hgi⟩ : ∃ gi, gi = w6.heap.size := ⟨_, rfl⟩
      rw [← hwl, ← hgi]
      have hbl : Below w6.heap.size w6 w7 := by rw [hwl]; exact below_new _ _
      have HOI : Hid (Own w7 0 3 intE 1 (.slice (some ⟨gi, 0, none⟩) 1 1) [1]) := Lib.hid (own_lit (l := [1]) (by rw [hwl, hgi]; exact heap_alloc_new _ _) (Nat.zero_le _) (by decide))
      clear hwl hgi
      have O7 := Lib.hid (O6.out.later hbl); have HX7 := Lib.hid (below_at' hbl HX6.out)
      clear O6 HX6 hbl r1
      refine (O7.out.push (by have := HIN.out; omega) KeyOk91 (by decide) HOI.out HGX.out.b_b (uw_is HGX.out.lt_m)).mono ?_
      rintro e w8 ⟨rfl, o8, _⟩
      have O8 := Lib.hid o8
      clear o8 O7 HX7 HOI
      have hlt9 := HLT.out
      go_wp2_with fail
      go_roundw
      case rel => exact ⟨i + 1, _, _, by go_num, HLT.out, O8⟩
      case measure => have := HLT.out; simp [intOf]; omega
    · clear hin
      go_wp2_with fail
      clear hlt
      obtain ⟨w7, hwl⟩ : ∃ w2, w2 = wr.alloc (.cells #[.int .i64 1] 3) := ⟨_, rfl⟩
      obtain ⟨gi, hgi⟩ : ∃ gi, gi = wr.heap.size := ⟨_, rfl⟩
      rw [← hwl, ← hgi]
      have hbl : Below wr.heap.size wr w7 := by rw [hwl]; exact below_new _ _
      have HOI : Hid (Own w7 0 3 intE 1 (.slice (some ⟨gi, 0, none⟩) 1 1) [1]) := Lib.hid (own_lit (l := [1]) (by rw [hwl, hgi]; exact heap_alloc_new _ _) (Nat.zero_le _) (by decide))
      clear hwl hgi
      have O7 := Lib.hid (OI.out.later hbl)
      clear OI hbl
      obtain ⟨F7, p7⟩ := O7.out.one.get
      have hlen7 := O7.out.len
      refine (hList_any (Look.of_st p7) O7.out.fit.f O7.out.his (by have := HIN.out; omega) (by decide) (I64s.one (by decide)) (own_rd HOI.out)).mono ?_
      rintro e w8 ⟨u1, u2, rfl, r1, r2, hb⟩
      obtain ⟨N, hN⟩ : ∃ N, N = H.length := ⟨_, rfl⟩
      have HNN := Lib.hid hN
      have HN1 : Hid (N ≤ 100) := Lib.hid (by have := HIN.out; omega)
      obtain ⟨ad1, cap1, e1, c1, c1'⟩ := r1.shape
      obtain ⟨ad2, cap2, e2, c2, c2'⟩ := r2.shape
      rw [List.length_map, ← hN] at e1 e2 c1 c2
      subst e1; subst e2
      have R1 := Lib.hid r1; have R2 := Lib.hid r2; have O8 := Lib.hid (O7.out.later hb)
      clear r1 r2 hb hN hlen7 p7 F7 O7 HOI
      go_wp2_with fail
      obtain ⟨w9, hwl⟩ : ∃ w2, w2 = w8.alloc (.cells #[.int .i64 1] 3) := ⟨_, rfl⟩
      obtain ⟨gi, hgi⟩ : ∃ gi, gi = w8.heap.size := ⟨_, rfl⟩
      rw [← hwl, ← hgi]
      have hbl : Below w8.heap.size w8 w9 := by rw [hwl]; exact below_new _ _
      have HOI : Hid (Own w9 0 3 intE 1 (.slice (some ⟨gi, 0, none⟩) 1 1) [1]) := Lib.hid (own_lit (l := [1]) (by rw [hwl, hgi]; exact heap_alloc_new _ _) (Nat.zero_le _) (by decide))
      clear hwl hgi
      have O9 := Lib.hid (O8.out.later hbl)
      obtain ⟨F9, p9⟩ := O9.out.one.get
      refine (hlen_any (Look.of_st p9) O9.out.fit.f 9 (by decide) (I64s.one (by decide)) (own_rd HOI.out)).mono ?_
      rintro e wa ⟨rfl, hb⟩
      rw [O9.out.his.cnt, ← HNN.out]
      have OA := Lib.hid (O9.out.later hb); have BA := Lib.hid (hbl.trans (hb.mono hbl.size))
      clear hb hbl p9 F9 O9 O8 HOI
      have hn10 := HN1.out
      go_wp2_with fail
      go_loopw [52] (fun vi wr => ∃ j : Nat, vi = .int .i64 j ∧ j ≤ N ∧ Hid (HOne w wr g 9 [1] s H i) ∧ Hid (Below w8.heap.size w8 wr)) (fun vi _ => N - (intOf vi).toNat)
      case atStart => exact ⟨0, rfl, Nat.zero_le _, OA, BA⟩
      case round =>
        clear OA BA
        obtain ⟨j, rfl, hjN, OJ, BJ⟩ := hrel
        by_cases hlt : j < N
        · have hj : j < H.length := by rw [← HNN.out]; exact hlt
          obtain ⟨b1, o1, rfl, hb1, k1⟩ := R1.out.at j (by rw [List.length_map]; exact hj)
          obtain ⟨b2, o2, rfl, hb2, k2⟩ := R2.out.urange j (by rw [List.length_map]; exact hj)
          have k1' := (BJ.out.cell (p := ⟨b1, o1 + j, none⟩) hb1).trans k1
          rw [List.getElem_map] at k1' k2
          obtain ⟨bk, hbk⟩ : ∃ q, q = H[j].1 := ⟨_, rfl⟩
          obtain ⟨m, hm⟩ : ∃ q, q = H[j].2 := ⟨_, rfl⟩
          rw [← hbk] at k1'
          rw [← hm] at k2
          have hk1 : wr.cell? ⟨b1, o1 + j, none⟩ = some (.int .i64 bk) := k1'
          have HK2 := Lib.hid k2; have HBK := Lib.hid hbk; have HM := Lib.hid hm; have HJ : Hid (j < H.length) := Lib.hid hj; have HB1 := Lib.hid hb1; have HB2 := Lib.hid hb2; have HLT := Lib.hid hlt
          have hmlt : m < uMax := by rw [hm]; exact (OJ.out.his.ok _ (List.getElem_mem hj)).2.2
          have HML := Lib.hid hmlt
          clear k1 k1' k2 hbk hm hb1 hb2 hmlt
          go_wp2_with fail
          clear hk1
          obtain ⟨wb, hwl⟩ : ∃ w2, w2 = wr.alloc (.cells #[.int .i64 1] 3) := ⟨_, rfl⟩
          obtain ⟨gi, hgi⟩ : ∃ gi, gi = wr.heap.size := ⟨_, rfl⟩
          rw [← hwl, ← hgi]
          have hbl : Below wr.heap.size wr wb := by rw [hwl]; exact below_new _ _
          have HOI : Hid (Own wb 0 3 intE 1 (.slice (some ⟨gi, 0, none⟩) 1 1) [1]) := Lib.hid (own_lit (l := [1]) (by rw [hwl, hgi]; exact heap_alloc_new _ _) (Nat.zero_le _) (by decide))
          clear hwl hgi
          have OK := Lib.hid (OJ.out.later hbl); have BK := Lib.hid (BJ.out.trans (hbl.mono BJ.out.size))
          clear hbl OJ BJ
          refine (OK.out.at bk (by decide) (I64s.one (by decide)) (own_rd HOI.out)).mono ?_
          rintro e wc ⟨a, b, c, d, hu, rfl, hb⟩
          have hlk : lookH H bk = some H[j] := by rw [HBK.out]; exact OK.out.his.look_at HJ.out
          rw [hlk] at hu ⊢
          simp only [Option.isSome_some]
          have hu' : UIs a b c d m := by rw [HM.out]; exact hu
          have HU := Lib.hid hu'; have OC := Lib.hid (OK.out.later hb); have BC := Lib.hid (BK.out.trans (hb.mono BK.out.size))
          clear hlk hu hu' hb OK BK HOI
          go_wp2_with (refine wpList_alloc_g rfl _ rfl _ _ Try.zeroU rfl ?_)
          intro X wd hd
          go_wp2_with (refine wpList_store_row_g (t := 105) (old := u0) rfl 105 _ _ rfl X #[.int .u64 a, .int .u64 b, .int .u64 c, .int .u64 d] rfl rfl hd.out.cells Try.sizeU rfl (one_u64 _ _ _ _) ?_)
          intro we hxe ke _
          have hbce : Below wc.heap.size wc we := hd.out.below.trans (ke.below (B := wc.heap.size) (fun x hx e => by have := hd.out.eq; omega) hd.out.below.size)
          have OE := Lib.hid (OC.out.later hbce); have BE := Lib.hid (BC.out.trans (hbce.mono BC.out.size)); have HX := Lib.hid hxe
          clear hd hxe ke hbce OC BC
          have q := Try.eqUn HU.out (uw_is HML.out)
          rw [decide_eq_true rfl] at q
          have OF := Lib.hid (OE.out.later (Below.drew (Below.refl we.heap.size we))); have BF := Lib.hid (BE.out.drew)
          have hrg := rangeAt_below BE.out HB2.out HK2.out
          have hhx := HX.out
          rcases j with _ | k
          · have hS : we.drew.heap[X]? = some (.cells #[.int .u64 a, .int .u64 b, .int .u64 c, .int .u64 d] 105 (0, 0)) ∧ we.drew.rangeAt b2 (o2 + 0 * 4) (uE m) := ⟨hhx, hrg⟩
            clear hrg hhx
            go_wp2_with fail
            refine wp_region_till (fun w' => w'.heap[X]? = some (.cells #[.int .u64 a, .int .u64 b, .int .u64 c, .int .u64 d] 105 (0, 0)) ∧ w'.rangeAt b2 (o2 + 0 * 4) (uE m)) 23 23 (by kernel_rfl) rfl ?_
            refine till_take 0 (some 64) rfl rfl (by kernel_rfl) (by kernel_rfl) (by kernel_rfl) (by kernel_rfl) (by kernel_rfl) (by kernel_rfl) (fun _ _ _ h => h) (.inl ⟨by rfl, fun w' _ => (by go_simp; rfl)⟩) hS ?_
            go_frame
            refine till_take 1 (some 65) rfl rfl (by kernel_rfl) (by kernel_rfl) (by kernel_rfl) (by kernel_rfl) (by kernel_rfl) (by kernel_rfl) (fun _ _ _ h => h) (.inl ⟨by rfl, fun w' _ => (by go_simp; rfl)⟩) hS ?_
            go_frame
            refine till_take 2 (some 66) rfl rfl (by kernel_rfl) (by kernel_rfl) (by kernel_rfl) (by kernel_rfl) (by kernel_rfl) (by kernel_rfl) (fun _ _ _ h => h) (.inl ⟨by rfl, fun w' _ => (by go_simp; rfl)⟩) hS ?_
            go_frame
            refine till_take 3 (some 67) rfl rfl (by kernel_rfl) (by kernel_rfl) (by kernel_rfl) (by kernel_rfl) (by kernel_rfl) (by kernel_rfl) (fun _ _ _ h => h) (yields_load (by rfl) 105 _ rfl (.pointer (some ⟨X, 0, none⟩)) rfl (.agg #[.int .u64 a, .int .u64 b, .int .u64 c, .int .u64 d]) (fun w' hS' => load_heap hS'.1 Try.underlying105 rfl Try.sizeU)) hS ?_
            go_frame
            refine till_take 4 (some 68) rfl rfl (by kernel_rfl) (by kernel_rfl) (by kernel_rfl) (by kernel_rfl) (by kernel_rfl) (by kernel_rfl) (fun _ _ _ h => h) (.inl ⟨by rfl, fun w' _ => (by go_simp; rfl)⟩) hS ?_
            go_frame
            refine till_take 5 (some 69) rfl rfl (by kernel_rfl) (by kernel_rfl) (by kernel_rfl) (by kernel_rfl) (by kernel_rfl) (by kernel_rfl) (fun _ _ _ h => h) (.inl ⟨by rfl, fun w' _ => (by go_simp; rfl)⟩) hS ?_
            go_frame
            refine till_take 6 (some 70) rfl rfl (by kernel_rfl) (by kernel_rfl) (by kernel_rfl) (by kernel_rfl) (by kernel_rfl) (by kernel_rfl) (fun _ _ _ h => h) (.inl ⟨by rfl, fun w' _ => (by go_simp; rfl)⟩) hS ?_
            go_frame
            refine till_take 7 (some 71) rfl rfl (by kernel_rfl) (by kernel_rfl) (by kernel_rfl) (by kernel_rfl) (by kernel_rfl) (by kernel_rfl) (fun _ _ _ h => h) (yieldsIf_load_mid (by rfl) 105 _ rfl b2 (o2 + 0 * 4) rfl [.int .u64 (uw0 (m)), .int .u64 (uw1 (m)), .int .u64 (uw2 (m)), .int .u64 (uw3 (m))] _ (fun w' hS' => hS'.2) Try.underlying105 rfl Try.sizeU) hS ?_
            go_frame
            refine till_take 8 (some 72) rfl rfl (by kernel_rfl) (by kernel_rfl) (by kernel_rfl) (by kernel_rfl) (by kernel_rfl) (by kernel_rfl) (fun _ _ _ h => h) (.inl ⟨by rfl, fun w' _ => (by go_simp; rfl)⟩) hS ?_
            go_frame
            refine till_take 9 (some 73) rfl rfl (by kernel_rfl) (by kernel_rfl) (by kernel_rfl) (by kernel_rfl) (by kernel_rfl) (by kernel_rfl) (fun _ _ _ h => h) (.inl ⟨by rfl, fun w' _ => (by go_simp; rfl)⟩) hS ?_
            go_frame
            refine till_take 10 (some 74) rfl rfl (by kernel_rfl) (by kernel_rfl) (by kernel_rfl) (by kernel_rfl) (by kernel_rfl) (by kernel_rfl) (fun _ _ _ h => h) (.inl ⟨by rfl, fun w' _ => (by go_simp; rfl)⟩) hS ?_
            go_frame
            refine till_take 11 (some 75) rfl rfl (by kernel_rfl) (by kernel_rfl) (by kernel_rfl) (by kernel_rfl) (by kernel_rfl) (by kernel_rfl) (fun _ _ _ h => h) (.inl ⟨by rfl, fun w' _ => (by go_simp; rfl)⟩) hS ?_
            go_frame
            refine till_take 12 (some 76) rfl rfl (by kernel_rfl) (by kernel_rfl) (by kernel_rfl) (by kernel_rfl) (by kernel_rfl) (by kernel_rfl) (fun _ _ _ h => h) (.inl ⟨by rfl, fun w' _ => (by go_simp; rfl)⟩) hS ?_
            go_frame
            refine till_take 13 (some 77) rfl rfl (by kernel_rfl) (by kernel_rfl) (by kernel_rfl) (by kernel_rfl) (by kernel_rfl) (by kernel_rfl) (fun _ _ _ h => h) (.inl ⟨by rfl, fun w' _ => (by go_simp; rfl)⟩) hS ?_
            go_frame
            refine till_take 14 (some 78) rfl rfl (by kernel_rfl) (by kernel_rfl) (by kernel_rfl) (by kernel_rfl) (by kernel_rfl) (by kernel_rfl) (fun _ _ _ h => h) (.inr ⟨by rfl, rfl⟩) hS ?_
            go_frame
            refine till_take 15 (some 79) rfl rfl (by kernel_rfl) (by kernel_rfl) (by kernel_rfl) (by kernel_rfl) (by kernel_rfl) (by kernel_rfl) (fun _ _ _ h => h) (.inr ⟨by rfl, rfl⟩) hS ?_
            go_frame
            refine till_take 16 (some 80) rfl rfl (by kernel_rfl) (by kernel_rfl) (by kernel_rfl) (by kernel_rfl) (by kernel_rfl) (by kernel_rfl) (fun _ _ _ h => h) (.inr ⟨by rfl, rfl⟩) hS ?_
            go_frame
            refine till_take 17 (some 81) rfl rfl (by kernel_rfl) (by kernel_rfl) (by kernel_rfl) (by kernel_rfl) (by kernel_rfl) (by kernel_rfl) (fun _ _ _ h => h) (.inr ⟨by rfl, rfl⟩) hS ?_
            go_frame
            refine till_take 18 (some 82) rfl rfl (by kernel_rfl) (by kernel_rfl) (by kernel_rfl) (by kernel_rfl) (by kernel_rfl) (by kernel_rfl) (fun _ _ _ h => h) (.inr ⟨by rfl, rfl⟩) hS ?_
            go_frame
            refine till_take 19 (some 83) rfl rfl (by kernel_rfl) (by kernel_rfl) (by kernel_rfl) (by kernel_rfl) (by kernel_rfl) (by kernel_rfl) (fun _ _ _ h => h) (.inr ⟨by rfl, rfl⟩) hS ?_
            go_frame
            refine till_take 20 (some 84) rfl rfl (by kernel_rfl) (by kernel_rfl) (by kernel_rfl) (by kernel_rfl) (by kernel_rfl) (by kernel_rfl) (fun _ _ _ h => h) (.inr ⟨by rfl, rfl⟩) hS ?_
            go_frame
            refine till_take 21 (some 85) rfl rfl (by kernel_rfl) (by kernel_rfl) (by kernel_rfl) (by kernel_rfl) (by kernel_rfl) (by kernel_rfl) (fun _ _ _ h => h) (.inl ⟨by rfl, fun w' _ => (by go_simp; rfl)⟩) hS ?_
            go_frame
            refine till_take 22 (some 86) rfl rfl (by kernel_rfl) (by kernel_rfl) (by kernel_rfl) (by kernel_rfl) (by kernel_rfl) (by kernel_rfl) (fun _ _ _ h => h) (.inl ⟨by rfl, fun w' _ => (by go_simp; rfl)⟩) hS ?_
            go_frame
            refine till_done (by kernel_rfl) ?_ _
            clear hS
            have hlt9 := HLT.out
            go_wp2_with fail
            go_roundw
            case rel => exact ⟨1, by go_num, HLT.out, OF, BF⟩
            case measure => have := HLT.out; simp [intOf]; omega
          · have hkl : k < H.length := by have := HJ.out; omega
            obtain ⟨_, _, e1, _, k3⟩ := R1.out.at k (by rw [List.length_map]; exact hkl)
            cases e1
            have k3' := (BE.out.cell (p := ⟨b1, o1 + k, none⟩) HB1.out).trans k3
            rw [List.getElem_map] at k3'
            obtain ⟨bp, hbp⟩ : ∃ q, q = H[k].1 := ⟨_, rfl⟩
            rw [← hbp] at k3'
            have hlb : ¬ bk ≤ bp := by
              rw [HBK.out, hbp]
              have := List.pairwise_iff_getElem.1 OE.out.his.rise k (k + 1) hkl HJ.out (by omega)
              omega
            have hS : we.drew.heap[X]? = some (.cells #[.int .u64 a, .int .u64 b, .int .u64 c, .int .u64 d] 105 (0, 0)) ∧ we.drew.rangeAt b2 (o2 + (k + 1) * 4) (uE m) ∧ we.drew.cell? ⟨b1, o1 + k, none⟩ = some (.int .i64 bp) := ⟨hhx, hrg, k3'⟩
            have hk9 := HLT.out
            have hpos : 0 < (k : Int) + 1 := by omega
            have hpo2 : (0 : Int) ≤ (k : Int) + 1 := by omega
            have hlt2 : (k : Int) + 1 < (N : Int) := by omega
            have hlt3 : (k : Int) < (N : Int) := by omega
            have hwr : IntKind.i64.wrap (k : Int) = (k : Int) := IntWalk.i64_in _ (by have := HN1.out; omega)
            have hk0 : (0 : Int) ≤ (k : Int) := by omega
            clear hrg hhx k3 k3' hbp hkl
            go_wp2_with fail
            refine wp_region_till (fun w' => w'.heap[X]? = some (.cells #[.int .u64 a, .int .u64 b, .int .u64 c, .int .u64 d] 105 (0, 0)) ∧ w'.rangeAt b2 (o2 + (k + 1) * 4) (uE m) ∧ w'.cell? ⟨b1, o1 + k, none⟩ = some (.int .i64 bp)) 23 23 (by kernel_rfl) rfl ?_
            refine till_take 0 (some 64) rfl rfl (by kernel_rfl) (by kernel_rfl) (by kernel_rfl) (by kernel_rfl) (by kernel_rfl) (by kernel_rfl) (fun _ _ _ h => h) (.inl ⟨by rfl, fun w' _ => (by go_simp; rfl)⟩) hS ?_
            go_frame
            refine till_take 1 (some 65) rfl rfl (by kernel_rfl) (by kernel_rfl) (by kernel_rfl) (by kernel_rfl) (by kernel_rfl) (by kernel_rfl) (fun _ _ _ h => h) (.inl ⟨by rfl, fun w' _ => (by go_simp; rfl)⟩) hS ?_
            go_frame
            refine till_take 2 (some 66) rfl rfl (by kernel_rfl) (by kernel_rfl) (by kernel_rfl) (by kernel_rfl) (by kernel_rfl) (by kernel_rfl) (fun _ _ _ h => h) (.inl ⟨by rfl, fun w' _ => (by go_simp; rfl)⟩) hS ?_
            go_frame
            refine till_take 3 (some 67) rfl rfl (by kernel_rfl) (by kernel_rfl) (by kernel_rfl) (by kernel_rfl) (by kernel_rfl) (by kernel_rfl) (fun _ _ _ h => h) (yields_load (by rfl) 105 _ rfl (.pointer (some ⟨X, 0, none⟩)) rfl (.agg #[.int .u64 a, .int .u64 b, .int .u64 c, .int .u64 d]) (fun w' hS' => load_heap hS'.1 Try.underlying105 rfl Try.sizeU)) hS ?_
            go_frame
            refine till_take 4 (some 68) rfl rfl (by kernel_rfl) (by kernel_rfl) (by kernel_rfl) (by kernel_rfl) (by kernel_rfl) (by kernel_rfl) (fun _ _ _ h => h) (.inl ⟨by rfl, fun w' _ => (by go_simp; rfl)⟩) hS ?_
            go_frame
            refine till_take 5 (some 69) rfl rfl (by kernel_rfl) (by kernel_rfl) (by kernel_rfl) (by kernel_rfl) (by kernel_rfl) (by kernel_rfl) (fun _ _ _ h => h) (.inl ⟨by rfl, fun w' _ => (by go_simp; rfl)⟩) hS ?_
            go_frame
            refine till_take 6 (some 70) rfl rfl (by kernel_rfl) (by kernel_rfl) (by kernel_rfl) (by kernel_rfl) (by kernel_rfl) (by kernel_rfl) (fun _ _ _ h => h) (.inl ⟨by rfl, fun w' _ => (by go_simp; rfl)⟩) hS ?_
            go_frame
            refine till_take 7 (some 71) rfl rfl (by kernel_rfl) (by kernel_rfl) (by kernel_rfl) (by kernel_rfl) (by kernel_rfl) (by kernel_rfl) (fun _ _ _ h => h) (yieldsIf_load_mid (by rfl) 105 _ rfl b2 (o2 + (k + 1) * 4) rfl [.int .u64 (uw0 (m)), .int .u64 (uw1 (m)), .int .u64 (uw2 (m)), .int .u64 (uw3 (m))] _ (fun w' hS' => hS'.2.1) Try.underlying105 rfl Try.sizeU) hS ?_
            go_frame
            refine till_take 8 (some 72) rfl rfl (by kernel_rfl) (by kernel_rfl) (by kernel_rfl) (by kernel_rfl) (by kernel_rfl) (by kernel_rfl) (fun _ _ _ h => h) (.inl ⟨by rfl, fun w' _ => (by go_simp; rfl)⟩) hS ?_
            go_frame
            refine till_take 9 (some 73) rfl rfl (by kernel_rfl) (by kernel_rfl) (by kernel_rfl) (by kernel_rfl) (by kernel_rfl) (by kernel_rfl) (fun _ _ _ h => h) (.inl ⟨by rfl, fun w' _ => (by go_simp; rfl)⟩) hS ?_
            go_frame
            refine till_take 10 (some 74) rfl rfl (by kernel_rfl) (by kernel_rfl) (by kernel_rfl) (by kernel_rfl) (by kernel_rfl) (by kernel_rfl) (fun _ _ _ h => h) (.inl ⟨by rfl, fun w' _ => (by go_simp; rfl)⟩) hS ?_
            go_frame
            refine till_take 11 (some 75) rfl rfl (by kernel_rfl) (by kernel_rfl) (by kernel_rfl) (by kernel_rfl) (by kernel_rfl) (by kernel_rfl) (fun _ _ _ h => h) (.inl ⟨by rfl, fun w' _ => (by go_simp; rfl)⟩) hS ?_
            go_frame
            refine till_take 12 (some 76) rfl rfl (by kernel_rfl) (by kernel_rfl) (by kernel_rfl) (by kernel_rfl) (by kernel_rfl) (by kernel_rfl) (fun _ _ _ h => h) (.inl ⟨by rfl, fun w' _ => (by go_simp; rfl)⟩) hS ?_
            go_frame
            refine till_take 13 (some 77) rfl rfl (by kernel_rfl) (by kernel_rfl) (by kernel_rfl) (by kernel_rfl) (by kernel_rfl) (by kernel_rfl) (fun _ _ _ h => h) (.inl ⟨by rfl, fun w' _ => (by go_simp; rfl)⟩) hS ?_
            go_frame
            refine till_take 14 (some 78) rfl rfl (by kernel_rfl) (by kernel_rfl) (by kernel_rfl) (by kernel_rfl) (by kernel_rfl) (by kernel_rfl) (fun _ _ _ h => h) (.inl ⟨by rfl, fun w' _ => (by go_simp; rfl)⟩) hS ?_
            go_frame
            refine till_take 15 (some 79) rfl rfl (by kernel_rfl) (by kernel_rfl) (by kernel_rfl) (by kernel_rfl) (by kernel_rfl) (by kernel_rfl) (fun _ _ _ h => h) (.inl ⟨by rfl, fun w' _ => (by go_simp; rfl)⟩) hS ?_
            go_frame
            refine till_take 16 (some 80) rfl rfl (by kernel_rfl) (by kernel_rfl) (by kernel_rfl) (by kernel_rfl) (by kernel_rfl) (by kernel_rfl) (fun _ _ _ h => h) (.inl ⟨by rfl, fun w' _ => (by go_simp; rfl)⟩) hS ?_
            go_frame
            refine till_take 17 (some 81) rfl rfl (by kernel_rfl) (by kernel_rfl) (by kernel_rfl) (by kernel_rfl) (by kernel_rfl) (by kernel_rfl) (fun _ _ _ h => h) (.inl ⟨by rfl, fun w' _ => (by go_simp; rfl)⟩) hS ?_
            go_frame
            refine till_take 18 (some 82) rfl rfl (by kernel_rfl) (by kernel_rfl) (by kernel_rfl) (by kernel_rfl) (by kernel_rfl) (by kernel_rfl) (fun _ _ _ h => h) (.inl ⟨by rfl, fun w' _ => (by go_simp; rfl)⟩) hS ?_
            go_frame
            refine till_take 19 (some 83) rfl rfl (by kernel_rfl) (by kernel_rfl) (by kernel_rfl) (by kernel_rfl) (by kernel_rfl) (by kernel_rfl) (fun _ _ _ h => h) (.inl ⟨by rfl, fun w' hS' => (by have hc1 := hS'.2.2; go_simp; rfl)⟩) hS ?_
            go_frame
            refine till_take 20 (some 84) rfl rfl (by kernel_rfl) (by kernel_rfl) (by kernel_rfl) (by kernel_rfl) (by kernel_rfl) (by kernel_rfl) (fun _ _ _ h => h) (.inl ⟨by rfl, fun w' _ => (by go_simp; rfl)⟩) hS ?_
            go_frame
            refine till_take 21 (some 85) rfl rfl (by kernel_rfl) (by kernel_rfl) (by kernel_rfl) (by kernel_rfl) (by kernel_rfl) (by kernel_rfl) (fun _ _ _ h => h) (.inl ⟨by rfl, fun w' _ => (by go_simp; rfl)⟩) hS ?_
            go_frame
            refine till_take 22 (some 86) rfl rfl (by kernel_rfl) (by kernel_rfl) (by kernel_rfl) (by kernel_rfl) (by kernel_rfl) (by kernel_rfl) (fun _ _ _ h => h) (.inl ⟨by rfl, fun w' _ => (by go_simp; rfl)⟩) hS ?_
            go_frame
            refine till_done (by kernel_rfl) ?_ _
            clear hS
            have hlt9 := HLT.out
            go_wp2_with fail
            go_roundw
            case rel => exact ⟨k + 1 + 1, by go_num, HLT.out, OF, BF⟩
            case measure => have := HLT.out; simp [intOf]; omega
        · clear hjN
          go_wp2_with fail
          refine (lives11_any _).mono ?_
          rintro e wb ⟨rfl, hb⟩
          have HBF := Lib.hid (OJ.out.one.below.trans (hb.mono OJ.out.one.below.size))
          clear hb
          go_wp2_with fail
          go_ret
          exact ⟨rfl, HBF.out⟩
end Go.Proofs.Ytohedljdkfmkdaa
