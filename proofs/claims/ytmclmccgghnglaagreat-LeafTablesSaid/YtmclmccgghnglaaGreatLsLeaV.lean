/- tallageref16.Sorted. No condition. -/
import Derived.Test.YtmclmccgghnglaaGreatLs25
import Derived.Test.YtmclmccgghnglaaGreatLs7
import Derived.Test.YtmclmccgghnglaaGreatLsOctC
import Derived.Deep.CutBlock
namespace Go.Proofs.YtmclmccgghnglaaGreat
open Go.RowKit

theorem Tryz.zeroRRow (w : World) : (zeroValue 57).run Tryz.prog w = .ok (.agg #[.int .i64 0, .int .i64 0, .int .u64 0, .int .u64 0, .int .u64 0, .int .u64 0]) w := by kernel_rfl
theorem Tryz.sizeRRow : (Tryz.prog.info? 57).map (·.size) = some 6 := by kernel_rfl
theorem Tryz.infoRRow : (Tryz.prog.info? 57).map (fun i => (i.zero, i.size, i.bytes)) = some (some (.agg #[.int .i64 0, .int .i64 0, .int .u64 0, .int .u64 0, .int .u64 0, .int .u64 0]), 6, 48) := by kernel_rfl
theorem own_mtr (w : World) (B : Nat) (hB : B ≤ w.heap.size) : Own (w.alloc (.cells #[] 57)) B 57 rowE 6 (.slice (some ⟨w.heap.size, 0, none⟩) 0 0) ([] : List LRow) :=
  ⟨by simp, .inr ⟨w.heap.size, 0, #[], rfl, hB, heap_alloc_new _ _, Nat.le_refl _, by unfold maxLen; omega, rfl, rfl⟩⟩
theorem rd_rowB {w : World} {g : Nat} {r : LRow} {e : TypeId} {fr : Nat × Nat} (h : w.heap[g]? = some (.cells (rowC r) e fr)) : Rd w rowE 6 (.slice (some ⟨g, 0, none⟩) 1 1) [r] := by
  refine ⟨_, _, rfl, Nat.le_refl _, by unfold maxLen; omega, fun _ => ⟨_, _, rfl, heap_lt h, fun i hi j hj => ?_⟩⟩
  obtain rfl : i = 0 := by simpa using hi
  rw [Lib.cell_of_heap h]
  simp only [Nat.zero_mul, Nat.zero_add, List.getElem_cons_zero, rowC, rowE]
  rw [List.getElem?_toArray]
theorem head_ne {G L n c k : Nat} (hk : (Value.slice (some ⟨G, 0, none⟩) n c).ownBlock = some k) (h : L < G) : L ≠ k := by
  have h1 : G = k := by injection hk
  omega
/-- What tallageref16.Sorted hands back. -/
def RSortedRet (w : World) (l : List LRow) (e : Ending) (w' : World) : Prop := Below w.heap.size w w' ∧
  ((sortedF l = none ∧ e = .returned (.tuple #[.slice none 0 0, .bool false])) ∨ ∃ v s, sortedF l = some s ∧ e = .returned (.tuple #[v, .bool true]) ∧ Own w' w.heap.size 57 rowE 6 v s)
theorem kLt_lt {a r : LRow} (h : a.e < r.e) : kLt (rkey a) (rkey r) := .inl h
theorem kLt_eq {a r : LRow} (h : a.e = r.e) (h2 : a.t < r.t) : kLt (rkey a) (rkey r) := .inr ⟨h, h2⟩
theorem kLt_not {a r : LRow} (h : ¬ kLt (rkey a) (rkey r)) (h2 : rkey a ≠ rkey r) : kLt (rkey r) (rkey a) := by
  rcases Classical.em (kLt (rkey r) (rkey a)) with z | z
  · exact z
  · exact absurd (kLt_total h z) h2
set_option maxHeartbeats 16000000 in
set_option maxRecDepth 100000 in
theorem rsorted_any (w : World) (ad : Option Addr) (n cap : Nat) (l : List LRow) (hr : Rd w rowE 6 (.slice ad n cap) l) (hok : ∀ r ∈ l, ROk r) (hlen : n < 1000000000) : Calls Tryz.prog 15 #[.slice ad n cap] w (RSortedRet w l) := by
  have hn : n = l.length := hr.size
  have HR := Lib.hid hr; have HOK := Lib.hid hok; have HN := Lib.hid hn
  rcases (show n = 0 ∨ (0 < n ∧ 1024 < n) ∨ (0 < n ∧ n ≤ 1024) by omega) with rfl | ⟨h0, h1⟩ | ⟨h0, h1⟩
  · have HF := Lib.hid (sortedF_len (l := l) (.inl hn.symm))
    clear hr hok hlen hn
    go_enter Tryz.func15, Tryz.ntmps15
    go_wp2_with fail
    go_ret2
    exact ⟨Below.refl _ _, .inl ⟨HF.out, rfl⟩⟩
  · have HF := Lib.hid (sortedF_len (l := l) (.inr (by omega)))
    clear hr hok hlen hn
    go_enter Tryz.func15, Tryz.ntmps15
    go_wp2_with fail
    go_ret2
    exact ⟨Below.refl _ _, .inl ⟨HF.out, rfl⟩⟩
  · have t0 : ((n : Int) == 0) = false := by simp; omega
    have t1 : decide (1024 < (n : Int)) = false := by simp; omega
    have h24 : ¬ 1024 < n := by omega
    clear hr hok hlen hn
    go_enter Tryz.func15, Tryz.ntmps15
    go_wp2_with fail
    clear t0 t1 h24
    go_loopw [4, 18] (fun vo y wr => ∃ (k : Nat) (out : List LRow), y = .int .i64 k ∧ k ≤ n ∧ Hid (Own wr w.heap.size 57 rowE 6 vo out) ∧ Hid (InsAt l k out) ∧ Hid (Below w.heap.size w wr)) (fun _ y _ => n - (intOf y).toNat)
    case atStart => exact ⟨0, [], rfl, by omega, Lib.hid (Own.nil _ _ _ _ _), Lib.hid (InsAt.zero l), Lib.hid (Below.refl _ _)⟩
    case round =>
      obtain ⟨k, out, rfl, hkn, HO, HI, HB⟩ := hrel
      by_cases hlt : k < n
      · have hk : k < l.length := by have := HN.out; omega
        obtain ⟨bb, off, rfl, _, c0, c1, c2, c3, c4, c5⟩ := (HR.out.later HB.out).six k hk
        have hrk := HOK.out _ (List.getElem_mem hk)
        have hol := HI.out.len (Nat.le_of_lt hk)
        obtain ⟨r, hrr⟩ : ∃ r, r = l[k] := ⟨_, rfl⟩
        have hnx := fun (i : Nat) h0 h1 h2 => HI.out.next hk (i := i) h0 h1 h2
        have hdup := fun (i : Nat) hi he => HI.out.dup hk (i := i) hi he
        have hbad := InsAt.bad (l := l) hk
        rw [← hrr] at c0 c1 c2 c3 c4 c5 hrk hnx hdup hbad
        have HRK := Lib.hid hrk; have HNX := Lib.hid hnx; have HDUP := Lib.hid hdup; have HBAD := Lib.hid hbad; have HLT := Lib.hid hlt; have HOL := Lib.hid hol
        clear hrk hnx hdup hbad hrr hk hol HI
        go_wp2_with (refine wpList_alloc_g rfl _ rfl _ _ Tryz.zeroRRow rfl ?_)
        intro X d1 hX
        go_wp2_with (refine wpList_store_row_g (t := 57) (old := #[.int .i64 0, .int .i64 0, .int .u64 0, .int .u64 0, .int .u64 0, .int .u64 0]) rfl 57 _ _ rfl X #[.int .i64 r.e, .int .i64 r.t, .int .u64 (uw0 r.m), .int .u64 (uw1 r.m), .int .u64 (uw2 r.m), .int .u64 (uw3 r.m)] rfl rfl hX.out.cells Tryz.sizeRRow rfl (one_row r) ?_)
        intro w2 h2 k2 z2
        have hb2 : Below wr.heap.size wr w2 := hX.out.below.trans (k2.below (B := wr.heap.size) (fun x hx e => by have := hX.out.eq; omega) hX.out.below.size)
        have HX2 := Lib.hid h2; have HO2 := Lib.hid (HO.out.later hb2); have HB2 := Lib.hid (HB.out.trans (hb2.mono HB.out.size))
        have WX : Hid (w.heap.size ≤ X) := Lib.hid (by rw [hX.out.eq]; exact HB.out.size)
        clear hX h2 k2 z2 hb2 HO HB c0 c1 c2 c3 c4 c5
        have q0 : w2.cell? ⟨X, 0, none⟩ = some (.int .i64 r.e) := Lib.cell_of_heap HX2.out 0
        have q1 : w2.cell? ⟨X, 1, none⟩ = some (.int .i64 r.t) := Lib.cell_of_heap HX2.out 1
        have q2 : w2.cell? ⟨X, 2, none⟩ = some (.int .u64 (uw0 r.m)) := Lib.cell_of_heap HX2.out 2
        have q3 : w2.cell? ⟨X, 3, none⟩ = some (.int .u64 (uw1 r.m)) := Lib.cell_of_heap HX2.out 3
        have q4 : w2.cell? ⟨X, 4, none⟩ = some (.int .u64 (uw2 r.m)) := Lib.cell_of_heap HX2.out 4
        have q5 : w2.cell? ⟨X, 5, none⟩ = some (.int .u64 (uw3 r.m)) := Lib.cell_of_heap HX2.out 5
        by_cases b1 : r.e < 1
        · have HBD := Lib.hid (HBAD.out (by unfold goodR; rw [decide_eq_false (by omega), Bool.false_and]))
          go_wp2_with fail
          go_ret2
          exact ⟨HB2.out, .inl ⟨HBD.out, rfl⟩⟩
        by_cases b2 : 4294967295 < r.e
        · have HBD := Lib.hid (HBAD.out (by unfold goodR; rw [decide_eq_false (show ¬ r.e ≤ 4294967295 by omega)]; simp))
          have b1' : decide (r.e < 1) = false := decide_eq_false b1
          go_wp2_with fail
          go_ret2
          exact ⟨HB2.out, .inl ⟨HBD.out, rfl⟩⟩
        by_cases b3 : r.t < 1
        · have HBD := Lib.hid (HBAD.out (by unfold goodR; rw [decide_eq_false (show ¬ 1 ≤ r.t by omega)]; simp))
          have b1' : decide (r.e < 1) = false := decide_eq_false b1
          have b2' : decide (4294967295 < r.e) = false := decide_eq_false b2
          go_wp2_with fail
          go_ret2
          exact ⟨HB2.out, .inl ⟨HBD.out, rfl⟩⟩
        by_cases b4 : 1000 < r.t
        · have HBD := Lib.hid (HBAD.out (by unfold goodR; rw [decide_eq_false (show ¬ r.t ≤ 1000 by omega)]; simp))
          have b1' : decide (r.e < 1) = false := decide_eq_false b1
          have b2' : decide (4294967295 < r.e) = false := decide_eq_false b2
          have b3' : decide (r.t < 1) = false := decide_eq_false b3
          go_wp2_with fail
          go_ret2
          exact ⟨HB2.out, .inl ⟨HBD.out, rfl⟩⟩
        have b1' : decide (r.e < 1) = false := decide_eq_false b1
        have b2' : decide (4294967295 < r.e) = false := decide_eq_false b2
        have b3' : decide (r.t < 1) = false := decide_eq_false b3
        have b4' : decide (1000 < r.t) = false := decide_eq_false b4
        go_wp2_with fail
        refine (rmAmount_any (uw_is HRK.out.2) _).mono ?_
        rintro e w3 ⟨rfl, hb3⟩
        have HX3 := Lib.hid (below_at2 hb3 HX2.out); have HO3 := Lib.hid (HO2.out.later hb3); have HB3 := Lib.hid (HB2.out.trans (hb3.mono HB2.out.size))
        have HGD : Hid (decide (r.m < uHalf) = goodR r) := Lib.hid (by
          unfold goodR
          rw [decide_eq_true (show 1 ≤ r.e by omega), decide_eq_true (show r.e ≤ 4294967295 by omega), decide_eq_true (show 1 ≤ r.t by omega), decide_eq_true (show r.t ≤ 1000 by omega), Bool.true_and, Bool.true_and, Bool.true_and, Bool.true_and]
          rfl)
        rw [HGD.out]
        clear hb3 HX2 HO2 HB2 q0 q1 q2 q3 q4 q5 b1 b2 b3 b4 b1' b2' b3' b4' HGD
        cases hgr : goodR r with
        | false =>
          have HBD := Lib.hid (HBAD.out hgr)
          clear hgr
          go_wp2_with fail
          go_ret2
          exact ⟨HB3.out, .inl ⟨HBD.out, rfl⟩⟩
        | true =>
          have HG := Lib.hid hgr
          clear hgr HBAD
          obtain ⟨K, hK⟩ : ∃ K, K = out.length := ⟨_, rfl⟩
          obtain ⟨oad, ocap, rfl, _, _⟩ := (HO3.out.rd rowE_len).shape
          rw [← hK] at HO3 ⊢
          have HKL := Lib.hid hK
          clear hK
          go_upto_block 2 with fail
          go_cut [7, 18] from 18 to 118 (fun s7 s18 wx => ∃ i : Nat, s7 = .int .i64 i ∧ s18 = .int .i64 k ∧ i ≤ K ∧ Hid (∀ j (hj : j < out.length), j < i → kLt (rkey out[j]) (rkey r)) ∧ Hid (∀ hl : i < out.length, ¬ kLt (rkey out[i]) (rkey r)) ∧ Hid (Below w3.heap.size w3 wx))
          case first =>
            obtain ⟨w4, hw4⟩ : ∃ w4, w4 = w3 := ⟨_, rfl⟩
            go_wp2_with fail
            go_loopw [7] (fun y wr => ∃ i : Nat, y = .int .i64 i ∧ i ≤ K ∧ Hid (∀ j (hj : j < out.length), j < i → kLt (rkey out[j]) (rkey r)) ∧ Hid (Below w3.heap.size w3 wr)) (fun y _ => K - (intOf y).toNat)
            case atStart => exact ⟨0, rfl, by omega, Lib.hid (fun _ _ h => absurd h (Nat.not_lt_zero _)), Lib.hid (Below.refl _ _)⟩
            case round =>
              obtain ⟨i, rfl, hiK, HL, HB4⟩ := hrel
              have q0 : wr.cell? ⟨X, 0, none⟩ = some (.int .i64 r.e) := Lib.cell_of_heap (below_at2 HB4.out HX3.out) 0
              have q1 : wr.cell? ⟨X, 1, none⟩ = some (.int .i64 r.t) := Lib.cell_of_heap (below_at2 HB4.out HX3.out) 1
              by_cases hi : i < K
              · have hio : i < out.length := by have := HKL.out; omega
                obtain ⟨ob, oo, rfl, p9, p0, p1, p2⟩ := ((HO3.out.rd rowE_len).later HB4.out).six i hio
                have HNL := Lib.hid (show ∀ h : kLt (rkey out[i]) (rkey r), ∀ j (hj : j < out.length), j < i + 1 → kLt (rkey out[j]) (rkey r) from fun h j hj hji => by
                  rcases Nat.lt_or_ge j i with c | c
                  · exact HL.out j hj c
                  · have : j = i := by omega
                    subst this; exact h)
                obtain ⟨x, hx⟩ : ∃ x, x = out[i] := ⟨_, rfl⟩
                rw [← hx] at p0 p1 HNL
                have HX := Lib.hid hx; have HHI := Lib.hid hi
                clear hx p2 p9
                by_cases e1 : x.e < r.e
                · have e1' : decide (x.e < r.e) = true := decide_eq_true e1
                  have HNN := Lib.hid (HNL.out (kLt_lt e1))
                  clear HNL
                  go_wp2_with fail
                  go_quiet (fail)
                  go_wp2_with fail
                  obtain ⟨wq, hwq⟩ : ∃ q, q = World.drewN wr nq := ⟨_, rfl⟩
                  have hbq : Below (World.heap wr).size wr wq := by rw [hwq]; exact below_drewN (Below.refl _ _) _
                  rw [← hwq]
                  have HB5 := Lib.hid (HB4.out.trans (hbq.mono HB4.out.size))
                  clear hbq hwq
                  go_roundw
                  case rel => exact ⟨i + 1, by go_num, by have := HHI.out; omega, HNN, HB5⟩
                  case measure => have := HHI.out; simp [intOf]; omega
                · have e1' : decide (x.e < r.e) = false := decide_eq_false e1
                  by_cases e2 : x.e = r.e
                  · have e2' : (x.e == r.e) = true := by simpa using e2
                    have HE2 := Lib.hid e2
                    clear e2
                    by_cases e3 : x.t < r.t
                    · have e3' : decide (x.t < r.t) = true := decide_eq_true e3
                      have HNN := Lib.hid (HNL.out (kLt_eq HE2.out e3))
                      clear HNL
                      go_wp2_with fail
                      go_quiet (fail)
                      go_wp2_with fail
                      obtain ⟨wq, hwq⟩ : ∃ q, q = World.drewN wr nq := ⟨_, rfl⟩
                      have hbq : Below (World.heap wr).size wr wq := by rw [hwq]; exact below_drewN (Below.refl _ _) _
                      rw [← hwq]
                      have HB5 := Lib.hid (HB4.out.trans (hbq.mono HB4.out.size))
                      clear hbq hwq
                      go_roundw
                      case rel => exact ⟨i + 1, by go_num, by have := HHI.out; omega, HNN, HB5⟩
                      case measure => have := HHI.out; simp [intOf]; omega
                    · have e3' : decide (x.t < r.t) = false := decide_eq_false e3
                      have HNN : Hid (∀ hl : i < out.length, ¬ kLt (rkey out[i]) (rkey r)) := Lib.hid (fun hl h => by
                        rw [← HX.out] at h
                        rcases h with h | ⟨_, h⟩
                        · exact e1 h
                        · exact e3 h)
                      clear HNL
                      go_wp2_with fail
                      go_quiet (fail)
                      go_wp2_with fail
                      obtain ⟨wq, hwq⟩ : ∃ q, q = World.drewN wr nq := ⟨_, rfl⟩
                      have hbq : Below (World.heap wr).size wr wq := by rw [hwq]; exact below_drewN (Below.refl _ _) _
                      rw [← hwq]
                      have HB5 := Lib.hid (HB4.out.trans (hbq.mono HB4.out.size))
                      clear hbq hwq
                      go_meet
                      case rel => exact ⟨i, rfl, rfl, hiK, HL, HNN, HB5⟩
                  · have e2' : (x.e == r.e) = false := by simpa using e2
                    have HNN : Hid (∀ hl : i < out.length, ¬ kLt (rkey out[i]) (rkey r)) := Lib.hid (fun hl h => by
                        rw [← HX.out] at h
                        rcases h with h | ⟨h, _⟩
                        · exact e1 h
                        · exact e2 h)
                    have HE2 := Lib.hid e2
                    clear HNL e2
                    go_wp2_with fail
                    go_quiet (fail)
                    go_wp2_with fail
                    obtain ⟨wq, hwq⟩ : ∃ q, q = World.drewN wr nq := ⟨_, rfl⟩
                    have hbq : Below (World.heap wr).size wr wq := by rw [hwq]; exact below_drewN (Below.refl _ _) _
                    rw [← hwq]
                    have HB5 := Lib.hid (HB4.out.trans (hbq.mono HB4.out.size))
                    clear hbq hwq
                    go_meet
                    case rel => exact ⟨i, rfl, rfl, hiK, HL, HNN, HB5⟩
              · obtain rfl : i = K := by omega
                have HNN : Hid (∀ hl : i < out.length, ¬ kLt (rkey out[i]) (rkey r)) := Lib.hid (fun hl => absurd hl (by have := HKL.out; omega))
                go_wp2_with fail
                go_quiet (fail)
                go_wp2_with fail
                obtain ⟨wq, hwq⟩ : ∃ q, q = World.drewN wr nq := ⟨_, rfl⟩
                have hbq : Below (World.heap wr).size wr wq := by rw [hwq]; exact below_drewN (Below.refl _ _) _
                rw [← hwq]
                have HB5 := Lib.hid (HB4.out.trans (hbq.mono HB4.out.size))
                clear hbq hwq
                go_meet
                case rel => exact ⟨i, rfl, rfl, Nat.le_refl _, HL, HNN, HB5⟩
          case rest =>
            obtain ⟨i, rfl, rfl, hiK, HL, HG2, HB4⟩ := hcut
            have HX4 := Lib.hid (below_at2 HB4.out HX3.out); have HO4 := Lib.hid (HO3.out.later HB4.out); have HB5 := Lib.hid (HB3.out.trans (HB4.out.mono HB3.out.size))
            clear HX3 HO3 HB3 HB4
            have q0 : wc.cell? ⟨X, 0, none⟩ = some (.int .i64 r.e) := Lib.cell_of_heap HX4.out 0
            have q1 : wc.cell? ⟨X, 1, none⟩ = some (.int .i64 r.t) := Lib.cell_of_heap HX4.out 1
            by_cases hi : i < K
            · have hio : i < out.length := by have := HKL.out; omega
              obtain ⟨ob, oo, hoad, p9, p0, p1, p2⟩ := (HO4.out.rd rowE_len).six i hio
              subst hoad
              obtain ⟨x, hx⟩ : ∃ x, x = out[i] := ⟨_, rfl⟩
              have hdup := HDUP.out i hio
              have hg2 := HG2.out hio
              rw [← hx] at p0 p1 hdup hg2
              clear p2 p9
              by_cases e2 : x.e = r.e
              · have e2' : (x.e == r.e) = true := by simpa using e2
                by_cases e3 : x.t = r.t
                · have e3' : (x.t == r.t) = true := by simpa using e3
                  have HBD := Lib.hid (hdup (by unfold rkey; rw [e2, e3]))
                  clear hdup hg2 hx e2 e3
                  go_wp2_with fail
                  go_quiet (fail)
                  go_wp2_with fail
                  obtain ⟨wq, hwq⟩ : ∃ q, q = World.drewN wc nq := ⟨_, rfl⟩
                  have hbq : Below (World.heap wc).size wc wq := by rw [hwq]; exact below_drewN (Below.refl _ _) _
                  rw [← hwq]
                  have HX6 := Lib.hid (below_at2 hbq HX4.out); have HO6 := Lib.hid (HO4.out.later hbq); have HB6 := Lib.hid (HB5.out.trans (hbq.mono HB5.out.size))
                  clear hbq hwq
                  clear HX4 HO4 HB5
                  go_ret2
                  exact ⟨HB6.out, .inl ⟨HBD.out, rfl⟩⟩
                · have e3' : (x.t == r.t) = false := by simpa using e3
                  have HGT : Hid (∀ hl : i < out.length, kLt (rkey r) (rkey out[i])) := Lib.hid (fun hl => by rw [← hx]; exact kLt_not hg2 (fun h => e3 (congrArg Prod.snd h)))
                  clear hdup hg2 hx e2 e3
                  go_wp2_with fail
                  go_quiet (fail)
                  go_wp2_with fail
                  obtain ⟨wq, hwq⟩ : ∃ q, q = World.drewN wc nq := ⟨_, rfl⟩
                  have hbq : Below (World.heap wc).size wc wq := by rw [hwq]; exact below_drewN (Below.refl _ _) _
                  rw [← hwq]
                  have HX6 := Lib.hid (below_at2 hbq HX4.out); have HO6 := Lib.hid (HO4.out.later hbq); have HB6 := Lib.hid (HB5.out.trans (hbq.mono HB5.out.size))
                  clear hbq hwq
                  clear HX4 HO4 HB5
                  obtain ⟨vu, hu1, hu2, hu3⟩ := (HO6.out.rd rowE_len).upto Tryz.underlying31 (sz := 6) Tryz.sizeRRow i (by have := HKL.out; omega)
                  obtain ⟨vd, hd1, hd2, hd3⟩ := (HO6.out.rd rowE_len).from Tryz.underlying31 (sz := 6) Tryz.sizeRRow i (by have := HKL.out; omega)
                  go_upto_region 14 with fail
                  obtain ⟨wz, hwz⟩ : ∃ wz, wz = wq.drew := ⟨_, rfl⟩
                  have hbz : Below wq.heap.size wq wz := by rw [hwz]; exact (Below.refl _ _).drew
                  have hS := below_at2 hbz HX6.out
                  obtain ⟨Z, hZ⟩ : ∃ Z, Z = wz.heap.size := ⟨_, rfl⟩
                  have HSU := Lib.hid hu1; have HSD := Lib.hid hd1
                  have HU0 := Lib.hid (hu2.later hbz); have HD0 := Lib.hid (hd2.later hbz)
                  have HUB := Lib.hid (show ∀ q, vu.ownBlock = some q → q < Z from fun q hq => by have := (HO6.out.lt q (hu3 q hq)).2; have := hbz.size; omega)
                  have HDB := Lib.hid (show ∀ q, vd.ownBlock = some q → q < Z from fun q hq => by have := (HO6.out.lt q (hd3 q hq)).2; have := hbz.size; omega)
                  have HW0 := Lib.hid (HB6.out.trans (hbz.mono HB6.out.size)); have HZ0 := Lib.hid (show Z ≤ wz.heap.size by omega)
                  have HWZ := Lib.hid (show w.heap.size ≤ Z by have := HW0.out.size; omega)
                  have HXZ := Lib.hid (show X < Z by have := heap_lt hS; omega)
                  have HLN := Lib.hid (show out.length ≤ 1024 by have := HOL.out; omega)
                  clear hbz hZ hu1 hu2 hu3 hd1 hd2 hd3 HX6 HO6 HB6
                  refine wp_region_till (fun w' => w'.heap[X]? = some (.cells #[.int .i64 r.e, .int .i64 r.t, .int .u64 (uw0 r.m), .int .u64 (uw1 r.m), .int .u64 (uw2 r.m), .int .u64 (uw3 r.m)] 57 (0, 0))) 13 13 (by kernel_rfl) rfl ?_
                  rw [← hwz]
                  clear hwz
                  refine till_take 1 (some 107) rfl rfl (by kernel_rfl) (by kernel_rfl) (by kernel_rfl) (by kernel_rfl) (by kernel_rfl) (by kernel_rfl) (fun _ _ _ h => h) (.inl ⟨by rfl, fun w' _ => (by go_simp; rfl)⟩) hS ?_
                  go_frame
                  refine till_take 2 (some 108) rfl rfl (by kernel_rfl) (by kernel_rfl) (by kernel_rfl) (by kernel_rfl) (by kernel_rfl) (by kernel_rfl) (fun _ _ _ h => h) (.inl ⟨by rfl, fun w' _ => (by go_simp; rfl)⟩) hS ?_
                  go_frame
                  refine till_take 3 (some 109) rfl rfl (by kernel_rfl) (by kernel_rfl) (by kernel_rfl) (by kernel_rfl) (by kernel_rfl) (by kernel_rfl) (fun _ _ _ h => h) (.inl ⟨by rfl, fun w' hS' => (by have hq := HSU.out w'; go_simp; rfl)⟩) hS ?_
                  go_frame
                  refine till_take 5 (some 111) rfl rfl (by kernel_rfl) (by kernel_rfl) (by kernel_rfl) (by kernel_rfl) (by kernel_rfl) (by kernel_rfl) (fun _ _ _ h => h) (yields_load (by rfl) 57 _ rfl (.pointer (some ⟨X, 0, none⟩)) rfl (.agg #[.int .i64 r.e, .int .i64 r.t, .int .u64 (uw0 r.m), .int .u64 (uw1 r.m), .int .u64 (uw2 r.m), .int .u64 (uw3 r.m)]) (fun w' hS' => load_blk hS' Tryz.underlying57 rfl Tryz.sizeRRow)) hS ?_
                  go_frame
                  refine till_take 8 (some 114) rfl rfl (by kernel_rfl) (by kernel_rfl) (by kernel_rfl) (by kernel_rfl) (by kernel_rfl) (by kernel_rfl) (fun _ _ _ h => h) (.inl ⟨by rfl, fun w' _ => (by go_simp; rfl)⟩) hS ?_
                  go_frame
                  refine till_take 9 (some 115) rfl rfl (by kernel_rfl) (by kernel_rfl) (by kernel_rfl) (by kernel_rfl) (by kernel_rfl) (by kernel_rfl) (fun _ _ _ h => h) (.inl ⟨by rfl, fun w' _ => (by go_simp; rfl)⟩) hS ?_
                  go_frame
                  refine till_take 10 (some 116) rfl rfl (by kernel_rfl) (by kernel_rfl) (by kernel_rfl) (by kernel_rfl) (by kernel_rfl) (by kernel_rfl) (fun _ _ _ h => h) (.inl ⟨by rfl, fun w' hS' => (by have hq := HSD.out w'; go_simp; rfl)⟩) hS ?_
                  go_frame
                  refine till_two 0 6 rfl rfl (by kernel_rfl) (fun K hK => ?_) (fun K hK => ?_)
                  · simp only [List.getElem_toArray, List.getElem_cons_zero]
                    rw [if_pos (by rfl)]
                    go_simp
                    obtain ⟨wt1, hwn⟩ : ∃ z, z = wz.alloc (.cells #[] 57) := ⟨_, rfl⟩
                    obtain ⟨G1, hG⟩ : ∃ G, G = wz.heap.size := ⟨_, rfl⟩
                    rw [← hwn, ← hG]
                    have hb : Below wz.heap.size wz wt1 := by rw [hwn]; exact (Below.refl _ _).alloc (Nat.le_refl _) _
                    have HO1 := Lib.hid (show Own wt1 Z 57 rowE 6 (.slice (some ⟨G1, 0, none⟩) 0 0) ([] : List LRow) by rw [hwn, hG]; exact own_mtr wz Z HZ0.out)
                    have HU1 := Lib.hid (HU0.out.later hb)
                    have HD1 := Lib.hid (HD0.out.later hb)
                    have HW1 := Lib.hid (HW0.out.trans (hb.mono HW0.out.size)); have HZ1 := Lib.hid (Nat.le_trans HZ0.out hb.size)
                    have hSn := below_at2 hb hS
                    refine hK _ _ (fun _ _ => hSn) ?_
                    clear hK hS hwn hG hb HU0 HD0 HW0 HZ0
                    have hS := hSn
                    clear hSn
                    refine till_two 4 6 rfl rfl (by kernel_rfl) (fun K hK => ?_) (fun K hK => ?_)
                    · simp only [List.getElem_toArray, List.getElem_cons_succ, List.getElem_cons_zero]
                      rw [if_pos (by rfl)]
                      refine wp_own_apps (.tmp 106) (.tmp 109) 31 rfl Tryz.underlying31 Tryz.infoRRow rfl (by decide) rowE_len rowE_one HO1.out rfl _ rfl HU1.out (by have := HLN.out; simp only [List.length_take, List.length_nil]; unfold maxLen; omega) (by have := HLN.out; simp only [List.length_take, List.length_nil]; omega) (B := w.heap.size) (w0 := w) HW1.out HWZ.out HZ1.out ?_
                      intro v2 wt2 ho hbw hg
                      have HO2 := Lib.hid ho; have HW2 := Lib.hid hbw; have HZ2 := Lib.hid (Nat.le_trans HZ1.out hg.size)
                      have HU2 := Lib.hid (HO1.out.rdo hg HU1.out HUB.out); have HD2 := Lib.hid (HO1.out.rdo hg HD1.out HDB.out)
                      have hSn := HO1.out.other hg HXZ.out hS
                      refine hK _ _ (fun _ _ => hSn) ?_
                      clear hK hS ho hbw hg HU1 HD1 HW1 HZ1 HO1
                      have hS := hSn
                      clear hSn
                      refine till_one 6 rfl (by kernel_rfl) fun K hK => ?_
                      simp only [List.getElem_toArray, List.getElem_cons_succ, List.getElem_cons_zero]
                      rw [if_pos (by rfl)]
                      go_simp
                      obtain ⟨wt3, hwn⟩ : ∃ z, z = wt2.alloc (.cells #[.int .i64 r.e, .int .i64 r.t, .int .u64 (uw0 r.m), .int .u64 (uw1 r.m), .int .u64 (uw2 r.m), .int .u64 (uw3 r.m)] 57) := ⟨_, rfl⟩
                      obtain ⟨L3, hG⟩ : ∃ G, G = wt2.heap.size := ⟨_, rfl⟩
                      rw [← hwn, ← hG]
                      have hb : Below wt2.heap.size wt2 wt3 := by rw [hwn]; exact (Below.refl _ _).alloc (Nat.le_refl _) _
                      have HL3 := Lib.hid (show wt3.heap[L3]? = some (.cells (rowC r) 57 (0, 0)) by rw [hwn, hG]; exact heap_alloc_new _ _)
                      have HU3 := Lib.hid (HU2.out.later hb)
                      have HD3 := Lib.hid (HD2.out.later hb)
                      have HW3 := Lib.hid (HW2.out.trans (hb.mono HW2.out.size)); have HZ3 := Lib.hid (Nat.le_trans HZ2.out hb.size)
                      have HO3 := Lib.hid (HO2.out.later hb)
                      have HGL3 : Hid (∀ k, (v2 : Value).ownBlock = some k → L3 ≠ k) := Lib.hid (fun k hk => by have := (HO2.out.lt k hk).2; omega)
                      have hSn := below_at2 hb hS
                      refine hK _ _ (fun _ _ => hSn) ?_
                      clear hK hS hwn hG hb HU2 HD2 HW2 HZ2 HO2
                      have hS := hSn
                      clear hSn
                      refine till_one 7 rfl (by kernel_rfl) fun K hK => ?_
                      simp only [List.getElem_toArray, List.getElem_cons_succ, List.getElem_cons_zero]
                      rw [if_pos (by rfl)]
                      refine wp_own_apps (.tmp 110) (.tmp 112) 31 rfl Tryz.underlying31 Tryz.infoRRow rfl (by decide) rowE_len rowE_one HO3.out rfl _ rfl (rd_rowB HL3.out) (by have := HLN.out; simp only [List.length_append, List.length_take, List.length_nil, List.length_singleton]; unfold maxLen; omega) (by have := HLN.out; simp only [List.length_append, List.length_take, List.length_nil, List.length_singleton]; omega) (B := w.heap.size) (w0 := w) HW3.out HWZ.out HZ3.out ?_
                      intro v4 wt4 ho hbw hg
                      have HO4 := Lib.hid ho; have HW4 := Lib.hid hbw; have HZ4 := Lib.hid (Nat.le_trans HZ3.out hg.size)
                      have HU4 := Lib.hid (HO3.out.rdo hg HU3.out HUB.out); have HD4 := Lib.hid (HO3.out.rdo hg HD3.out HDB.out)
                      have hSn := HO3.out.other hg HXZ.out hS
                      refine hK _ _ (fun _ _ => hSn) ?_
                      clear hK hS ho hbw hg HU3 HD3 HW3 HZ3 HO3 HL3 HGL3
                      have hS := hSn
                      clear hSn
                      refine till_one 11 rfl (by kernel_rfl) fun K hK => ?_
                      simp only [List.getElem_toArray, List.getElem_cons_succ, List.getElem_cons_zero]
                      rw [if_pos (by rfl)]
                      refine wp_own_apps (.tmp 113) (.tmp 116) 31 rfl Tryz.underlying31 Tryz.infoRRow rfl (by decide) rowE_len rowE_one HO4.out rfl _ rfl HD4.out (by have := HLN.out; simp only [List.length_append, List.length_take, List.length_drop, List.length_nil, List.length_singleton]; unfold maxLen; omega) (by have := HLN.out; simp only [List.length_append, List.length_take, List.length_drop, List.length_nil, List.length_singleton]; omega) (B := w.heap.size) (w0 := w) HW4.out HWZ.out HZ4.out ?_
                      intro v5 wt5 ho hbw hg
                      have HO5 := Lib.hid ho; have HW5 := Lib.hid hbw; have HZ5 := Lib.hid (Nat.le_trans HZ4.out hg.size)
                      have HU5 := Lib.hid (HO4.out.rdo hg HU4.out HUB.out); have HD5 := Lib.hid (HO4.out.rdo hg HD4.out HDB.out)
                      have hSn := HO4.out.other hg HXZ.out hS
                      refine hK _ _ (fun _ _ => hSn) ?_
                      clear hK hS ho hbw hg HU4 HD4 HW4 HZ4 HO4
                      have hS := hSn
                      clear hSn
                      refine till_take 12 (some 4) rfl rfl (by kernel_rfl) (by kernel_rfl) (by kernel_rfl) (by kernel_rfl) (by kernel_rfl) (by kernel_rfl) (fun _ _ _ h => h) (.inl ⟨by rfl, fun w' _ => (by go_simp; rfl)⟩) hS ?_
                      go_frame
                      refine till_done (by kernel_rfl) ?_ _
                      clear hS
                      have HOF := Lib.hid (show Own wt5 w.heap.size 57 rowE 6 v5 (putAt out i r) from HO5.out.mono HWZ.out)
                      have HIN := Lib.hid (HNX.out i HG.out HL.out HGT.out)
                      go_wp2_with fail
                      go_roundw
                      case rel => exact ⟨k + 1, putAt out i r, by go_num, by have := HLT.out; omega, HOF, HIN, HW5⟩
                      case measure => have := HLT.out; simp [intOf]; omega
                    · simp only [List.getElem_toArray, List.getElem_cons_succ, List.getElem_cons_zero]
                      rw [if_pos (by rfl)]
                      go_simp
                      obtain ⟨wt6, hwn⟩ : ∃ z, z = wt1.alloc (.cells #[.int .i64 r.e, .int .i64 r.t, .int .u64 (uw0 r.m), .int .u64 (uw1 r.m), .int .u64 (uw2 r.m), .int .u64 (uw3 r.m)] 57) := ⟨_, rfl⟩
                      obtain ⟨L6, hG⟩ : ∃ G, G = wt1.heap.size := ⟨_, rfl⟩
                      rw [← hwn, ← hG]
                      have hb : Below wt1.heap.size wt1 wt6 := by rw [hwn]; exact (Below.refl _ _).alloc (Nat.le_refl _) _
                      have HL6 := Lib.hid (show wt6.heap[L6]? = some (.cells (rowC r) 57 (0, 0)) by rw [hwn, hG]; exact heap_alloc_new _ _)
                      have HU6 := Lib.hid (HU1.out.later hb)
                      have HD6 := Lib.hid (HD1.out.later hb)
                      have HW6 := Lib.hid (HW1.out.trans (hb.mono HW1.out.size)); have HZ6 := Lib.hid (Nat.le_trans HZ1.out hb.size)
                      have HO6 := Lib.hid (HO1.out.later hb)
                      have HGL6 : Hid (∀ k, ((.slice (some ⟨G1, 0, none⟩) 0 0) : Value).ownBlock = some k → L6 ≠ k) := Lib.hid (fun k hk => by have := (HO1.out.lt k hk).2; omega)
                      have hSn := below_at2 hb hS
                      refine hK _ _ (fun _ _ => hSn) ?_
                      clear hK hS hwn hG hb HU1 HD1 HW1 HZ1 HO1
                      have hS := hSn
                      clear hSn
                      refine till_one 4 rfl (by kernel_rfl) fun K hK => ?_
                      simp only [List.getElem_toArray, List.getElem_cons_succ, List.getElem_cons_zero]
                      rw [if_pos (by rfl)]
                      refine wp_own_apps (.tmp 106) (.tmp 109) 31 rfl Tryz.underlying31 Tryz.infoRRow rfl (by decide) rowE_len rowE_one HO6.out rfl _ rfl HU6.out (by have := HLN.out; simp only [List.length_take, List.length_nil]; unfold maxLen; omega) (by have := HLN.out; simp only [List.length_take, List.length_nil]; omega) (B := w.heap.size) (w0 := w) HW6.out HWZ.out HZ6.out ?_
                      intro v7 wt7 ho hbw hg
                      have HO7 := Lib.hid ho; have HW7 := Lib.hid hbw; have HZ7 := Lib.hid (Nat.le_trans HZ6.out hg.size)
                      have HU7 := Lib.hid (HO6.out.rdo hg HU6.out HUB.out); have HD7 := Lib.hid (HO6.out.rdo hg HD6.out HDB.out)
                      have HL7 := Lib.hid ((hg.block L6 (heap_lt HL6.out) (fun e => HGL6.out _ e.symm rfl)).trans HL6.out)
                      have hSn := HO6.out.other hg HXZ.out hS
                      refine hK _ _ (fun _ _ => hSn) ?_
                      clear hK hS ho hbw hg HU6 HD6 HW6 HZ6 HO6 HL6 HGL6
                      have hS := hSn
                      clear hSn
                      refine till_one 7 rfl (by kernel_rfl) fun K hK => ?_
                      simp only [List.getElem_toArray, List.getElem_cons_succ, List.getElem_cons_zero]
                      rw [if_pos (by rfl)]
                      refine wp_own_apps (.tmp 110) (.tmp 112) 31 rfl Tryz.underlying31 Tryz.infoRRow rfl (by decide) rowE_len rowE_one HO7.out rfl _ rfl (rd_rowB HL7.out) (by have := HLN.out; simp only [List.length_append, List.length_take, List.length_nil, List.length_singleton]; unfold maxLen; omega) (by have := HLN.out; simp only [List.length_append, List.length_take, List.length_nil, List.length_singleton]; omega) (B := w.heap.size) (w0 := w) HW7.out HWZ.out HZ7.out ?_
                      intro v8 wt8 ho hbw hg
                      have HO8 := Lib.hid ho; have HW8 := Lib.hid hbw; have HZ8 := Lib.hid (Nat.le_trans HZ7.out hg.size)
                      have HU8 := Lib.hid (HO7.out.rdo hg HU7.out HUB.out); have HD8 := Lib.hid (HO7.out.rdo hg HD7.out HDB.out)
                      have hSn := HO7.out.other hg HXZ.out hS
                      refine hK _ _ (fun _ _ => hSn) ?_
                      clear hK hS ho hbw hg HU7 HD7 HW7 HZ7 HO7 HL7
                      have hS := hSn
                      clear hSn
                      refine till_one 11 rfl (by kernel_rfl) fun K hK => ?_
                      simp only [List.getElem_toArray, List.getElem_cons_succ, List.getElem_cons_zero]
                      rw [if_pos (by rfl)]
                      refine wp_own_apps (.tmp 113) (.tmp 116) 31 rfl Tryz.underlying31 Tryz.infoRRow rfl (by decide) rowE_len rowE_one HO8.out rfl _ rfl HD8.out (by have := HLN.out; simp only [List.length_append, List.length_take, List.length_drop, List.length_nil, List.length_singleton]; unfold maxLen; omega) (by have := HLN.out; simp only [List.length_append, List.length_take, List.length_drop, List.length_nil, List.length_singleton]; omega) (B := w.heap.size) (w0 := w) HW8.out HWZ.out HZ8.out ?_
                      intro v9 wt9 ho hbw hg
                      have HO9 := Lib.hid ho; have HW9 := Lib.hid hbw; have HZ9 := Lib.hid (Nat.le_trans HZ8.out hg.size)
                      have HU9 := Lib.hid (HO8.out.rdo hg HU8.out HUB.out); have HD9 := Lib.hid (HO8.out.rdo hg HD8.out HDB.out)
                      have hSn := HO8.out.other hg HXZ.out hS
                      refine hK _ _ (fun _ _ => hSn) ?_
                      clear hK hS ho hbw hg HU8 HD8 HW8 HZ8 HO8
                      have hS := hSn
                      clear hSn
                      refine till_take 12 (some 4) rfl rfl (by kernel_rfl) (by kernel_rfl) (by kernel_rfl) (by kernel_rfl) (by kernel_rfl) (by kernel_rfl) (fun _ _ _ h => h) (.inl ⟨by rfl, fun w' _ => (by go_simp; rfl)⟩) hS ?_
                      go_frame
                      refine till_done (by kernel_rfl) ?_ _
                      clear hS
                      have HOF := Lib.hid (show Own wt9 w.heap.size 57 rowE 6 v9 (putAt out i r) from HO9.out.mono HWZ.out)
                      have HIN := Lib.hid (HNX.out i HG.out HL.out HGT.out)
                      go_wp2_with fail
                      go_roundw
                      case rel => exact ⟨k + 1, putAt out i r, by go_num, by have := HLT.out; omega, HOF, HIN, HW9⟩
                      case measure => have := HLT.out; simp [intOf]; omega
                  · simp only [List.getElem_toArray, List.getElem_cons_succ, List.getElem_cons_zero]
                    rw [if_pos (by rfl)]
                    go_simp
                    obtain ⟨wt10, hwn⟩ : ∃ z, z = wz.alloc (.cells #[.int .i64 r.e, .int .i64 r.t, .int .u64 (uw0 r.m), .int .u64 (uw1 r.m), .int .u64 (uw2 r.m), .int .u64 (uw3 r.m)] 57) := ⟨_, rfl⟩
                    obtain ⟨L10, hG⟩ : ∃ G, G = wz.heap.size := ⟨_, rfl⟩
                    rw [← hwn, ← hG]
                    have hb : Below wz.heap.size wz wt10 := by rw [hwn]; exact (Below.refl _ _).alloc (Nat.le_refl _) _
                    have HL10 := Lib.hid (show wt10.heap[L10]? = some (.cells (rowC r) 57 (0, 0)) by rw [hwn, hG]; exact heap_alloc_new _ _)
                    have HU10 := Lib.hid (HU0.out.later hb)
                    have HD10 := Lib.hid (HD0.out.later hb)
                    have HW10 := Lib.hid (HW0.out.trans (hb.mono HW0.out.size)); have HZ10 := Lib.hid (Nat.le_trans HZ0.out hb.size)
                    have hSn := below_at2 hb hS
                    refine hK _ _ (fun _ _ => hSn) ?_
                    clear hK hS hwn hG hb HU0 HD0 HW0 HZ0
                    have hS := hSn
                    clear hSn
                    refine till_one 0 rfl (by kernel_rfl) fun K hK => ?_
                    simp only [List.getElem_toArray, List.getElem_cons_zero]
                    rw [if_pos (by rfl)]
                    go_simp
                    obtain ⟨wt11, hwn⟩ : ∃ z, z = wt10.alloc (.cells #[] 57) := ⟨_, rfl⟩
                    obtain ⟨G11, hG⟩ : ∃ G, G = wt10.heap.size := ⟨_, rfl⟩
                    rw [← hwn, ← hG]
                    have hb : Below wt10.heap.size wt10 wt11 := by rw [hwn]; exact (Below.refl _ _).alloc (Nat.le_refl _) _
                    have HO11 := Lib.hid (show Own wt11 Z 57 rowE 6 (.slice (some ⟨G11, 0, none⟩) 0 0) ([] : List LRow) by rw [hwn, hG]; exact own_mtr wt10 Z HZ10.out)
                    have HU11 := Lib.hid (HU10.out.later hb)
                    have HD11 := Lib.hid (HD10.out.later hb)
                    have HW11 := Lib.hid (HW10.out.trans (hb.mono HW10.out.size)); have HZ11 := Lib.hid (Nat.le_trans HZ10.out hb.size)
                    have HL11 := Lib.hid (below_at2 hb HL10.out)
                    have HGL11 : Hid (∀ k, (Value.slice (some ⟨G11, 0, none⟩) 0 0).ownBlock = some k → L10 ≠ k) := Lib.hid (fun k hk => head_ne hk (by have := heap_lt HL10.out; omega))
                    have hSn := below_at2 hb hS
                    refine hK _ _ (fun _ _ => hSn) ?_
                    clear hK hS hwn hG hb HU10 HD10 HW10 HZ10 HL10
                    have hS := hSn
                    clear hSn
                    refine till_one 4 rfl (by kernel_rfl) fun K hK => ?_
                    simp only [List.getElem_toArray, List.getElem_cons_succ, List.getElem_cons_zero]
                    rw [if_pos (by rfl)]
                    refine wp_own_apps (.tmp 106) (.tmp 109) 31 rfl Tryz.underlying31 Tryz.infoRRow rfl (by decide) rowE_len rowE_one HO11.out rfl _ rfl HU11.out (by have := HLN.out; simp only [List.length_take, List.length_nil]; unfold maxLen; omega) (by have := HLN.out; simp only [List.length_take, List.length_nil]; omega) (B := w.heap.size) (w0 := w) HW11.out HWZ.out HZ11.out ?_
                    intro v12 wt12 ho hbw hg
                    have HO12 := Lib.hid ho; have HW12 := Lib.hid hbw; have HZ12 := Lib.hid (Nat.le_trans HZ11.out hg.size)
                    have HU12 := Lib.hid (HO11.out.rdo hg HU11.out HUB.out); have HD12 := Lib.hid (HO11.out.rdo hg HD11.out HDB.out)
                    have HL12 := Lib.hid ((hg.block L10 (heap_lt HL11.out) (fun e => HGL11.out _ e.symm rfl)).trans HL11.out)
                    have hSn := HO11.out.other hg HXZ.out hS
                    refine hK _ _ (fun _ _ => hSn) ?_
                    clear hK hS ho hbw hg HU11 HD11 HW11 HZ11 HL11 HO11 HGL11
                    have hS := hSn
                    clear hSn
                    refine till_one 7 rfl (by kernel_rfl) fun K hK => ?_
                    simp only [List.getElem_toArray, List.getElem_cons_succ, List.getElem_cons_zero]
                    rw [if_pos (by rfl)]
                    refine wp_own_apps (.tmp 110) (.tmp 112) 31 rfl Tryz.underlying31 Tryz.infoRRow rfl (by decide) rowE_len rowE_one HO12.out rfl _ rfl (rd_rowB HL12.out) (by have := HLN.out; simp only [List.length_append, List.length_take, List.length_nil, List.length_singleton]; unfold maxLen; omega) (by have := HLN.out; simp only [List.length_append, List.length_take, List.length_nil, List.length_singleton]; omega) (B := w.heap.size) (w0 := w) HW12.out HWZ.out HZ12.out ?_
                    intro v13 wt13 ho hbw hg
                    have HO13 := Lib.hid ho; have HW13 := Lib.hid hbw; have HZ13 := Lib.hid (Nat.le_trans HZ12.out hg.size)
                    have HU13 := Lib.hid (HO12.out.rdo hg HU12.out HUB.out); have HD13 := Lib.hid (HO12.out.rdo hg HD12.out HDB.out)
                    have hSn := HO12.out.other hg HXZ.out hS
                    refine hK _ _ (fun _ _ => hSn) ?_
                    clear hK hS ho hbw hg HU12 HD12 HW12 HZ12 HL12 HO12
                    have hS := hSn
                    clear hSn
                    refine till_one 11 rfl (by kernel_rfl) fun K hK => ?_
                    simp only [List.getElem_toArray, List.getElem_cons_succ, List.getElem_cons_zero]
                    rw [if_pos (by rfl)]
                    refine wp_own_apps (.tmp 113) (.tmp 116) 31 rfl Tryz.underlying31 Tryz.infoRRow rfl (by decide) rowE_len rowE_one HO13.out rfl _ rfl HD13.out (by have := HLN.out; simp only [List.length_append, List.length_take, List.length_drop, List.length_nil, List.length_singleton]; unfold maxLen; omega) (by have := HLN.out; simp only [List.length_append, List.length_take, List.length_drop, List.length_nil, List.length_singleton]; omega) (B := w.heap.size) (w0 := w) HW13.out HWZ.out HZ13.out ?_
                    intro v14 wt14 ho hbw hg
                    have HO14 := Lib.hid ho; have HW14 := Lib.hid hbw; have HZ14 := Lib.hid (Nat.le_trans HZ13.out hg.size)
                    have HU14 := Lib.hid (HO13.out.rdo hg HU13.out HUB.out); have HD14 := Lib.hid (HO13.out.rdo hg HD13.out HDB.out)
                    have hSn := HO13.out.other hg HXZ.out hS
                    refine hK _ _ (fun _ _ => hSn) ?_
                    clear hK hS ho hbw hg HU13 HD13 HW13 HZ13 HO13
                    have hS := hSn
                    clear hSn
                    refine till_take 12 (some 4) rfl rfl (by kernel_rfl) (by kernel_rfl) (by kernel_rfl) (by kernel_rfl) (by kernel_rfl) (by kernel_rfl) (fun _ _ _ h => h) (.inl ⟨by rfl, fun w' _ => (by go_simp; rfl)⟩) hS ?_
                    go_frame
                    refine till_done (by kernel_rfl) ?_ _
                    clear hS
                    have HOF := Lib.hid (show Own wt14 w.heap.size 57 rowE 6 v14 (putAt out i r) from HO14.out.mono HWZ.out)
                    have HIN := Lib.hid (HNX.out i HG.out HL.out HGT.out)
                    go_wp2_with fail
                    go_roundw
                    case rel => exact ⟨k + 1, putAt out i r, by go_num, by have := HLT.out; omega, HOF, HIN, HW14⟩
                    case measure => have := HLT.out; simp [intOf]; omega
              · have e2' : (x.e == r.e) = false := by simpa using e2
                have HGT : Hid (∀ hl : i < out.length, kLt (rkey r) (rkey out[i])) := Lib.hid (fun hl => by rw [← hx]; exact kLt_not hg2 (fun h => e2 (congrArg Prod.fst h)))
                clear hdup hg2 hx e2
                go_wp2_with fail
                go_quiet (fail)
                go_wp2_with fail
                obtain ⟨wq, hwq⟩ : ∃ q, q = World.drewN wc nq := ⟨_, rfl⟩
                have hbq : Below (World.heap wc).size wc wq := by rw [hwq]; exact below_drewN (Below.refl _ _) _
                rw [← hwq]
                have HX6 := Lib.hid (below_at2 hbq HX4.out); have HO6 := Lib.hid (HO4.out.later hbq); have HB6 := Lib.hid (HB5.out.trans (hbq.mono HB5.out.size))
                clear hbq hwq
                clear HX4 HO4 HB5
                obtain ⟨vu, hu1, hu2, hu3⟩ := (HO6.out.rd rowE_len).upto Tryz.underlying31 (sz := 6) Tryz.sizeRRow i (by have := HKL.out; omega)
                obtain ⟨vd, hd1, hd2, hd3⟩ := (HO6.out.rd rowE_len).from Tryz.underlying31 (sz := 6) Tryz.sizeRRow i (by have := HKL.out; omega)
                go_upto_region 14 with fail
                obtain ⟨wz, hwz⟩ : ∃ wz, wz = wq.drew := ⟨_, rfl⟩
                have hbz : Below wq.heap.size wq wz := by rw [hwz]; exact (Below.refl _ _).drew
                have hS := below_at2 hbz HX6.out
                obtain ⟨Z, hZ⟩ : ∃ Z, Z = wz.heap.size := ⟨_, rfl⟩
                have HSU := Lib.hid hu1; have HSD := Lib.hid hd1
                have HU0 := Lib.hid (hu2.later hbz); have HD0 := Lib.hid (hd2.later hbz)
                have HUB := Lib.hid (show ∀ q, vu.ownBlock = some q → q < Z from fun q hq => by have := (HO6.out.lt q (hu3 q hq)).2; have := hbz.size; omega)
                have HDB := Lib.hid (show ∀ q, vd.ownBlock = some q → q < Z from fun q hq => by have := (HO6.out.lt q (hd3 q hq)).2; have := hbz.size; omega)
                have HW0 := Lib.hid (HB6.out.trans (hbz.mono HB6.out.size)); have HZ0 := Lib.hid (show Z ≤ wz.heap.size by omega)
                have HWZ := Lib.hid (show w.heap.size ≤ Z by have := HW0.out.size; omega)
                have HXZ := Lib.hid (show X < Z by have := heap_lt hS; omega)
                have HLN := Lib.hid (show out.length ≤ 1024 by have := HOL.out; omega)
                clear hbz hZ hu1 hu2 hu3 hd1 hd2 hd3 HX6 HO6 HB6
                refine wp_region_till (fun w' => w'.heap[X]? = some (.cells #[.int .i64 r.e, .int .i64 r.t, .int .u64 (uw0 r.m), .int .u64 (uw1 r.m), .int .u64 (uw2 r.m), .int .u64 (uw3 r.m)] 57 (0, 0))) 13 13 (by kernel_rfl) rfl ?_
                rw [← hwz]
                clear hwz
                refine till_take 1 (some 107) rfl rfl (by kernel_rfl) (by kernel_rfl) (by kernel_rfl) (by kernel_rfl) (by kernel_rfl) (by kernel_rfl) (fun _ _ _ h => h) (.inl ⟨by rfl, fun w' _ => (by go_simp; rfl)⟩) hS ?_
                go_frame
                refine till_take 2 (some 108) rfl rfl (by kernel_rfl) (by kernel_rfl) (by kernel_rfl) (by kernel_rfl) (by kernel_rfl) (by kernel_rfl) (fun _ _ _ h => h) (.inl ⟨by rfl, fun w' _ => (by go_simp; rfl)⟩) hS ?_
                go_frame
                refine till_take 3 (some 109) rfl rfl (by kernel_rfl) (by kernel_rfl) (by kernel_rfl) (by kernel_rfl) (by kernel_rfl) (by kernel_rfl) (fun _ _ _ h => h) (.inl ⟨by rfl, fun w' hS' => (by have hq := HSU.out w'; go_simp; rfl)⟩) hS ?_
                go_frame
                refine till_take 5 (some 111) rfl rfl (by kernel_rfl) (by kernel_rfl) (by kernel_rfl) (by kernel_rfl) (by kernel_rfl) (by kernel_rfl) (fun _ _ _ h => h) (yields_load (by rfl) 57 _ rfl (.pointer (some ⟨X, 0, none⟩)) rfl (.agg #[.int .i64 r.e, .int .i64 r.t, .int .u64 (uw0 r.m), .int .u64 (uw1 r.m), .int .u64 (uw2 r.m), .int .u64 (uw3 r.m)]) (fun w' hS' => load_blk hS' Tryz.underlying57 rfl Tryz.sizeRRow)) hS ?_
                go_frame
                refine till_take 8 (some 114) rfl rfl (by kernel_rfl) (by kernel_rfl) (by kernel_rfl) (by kernel_rfl) (by kernel_rfl) (by kernel_rfl) (fun _ _ _ h => h) (.inl ⟨by rfl, fun w' _ => (by go_simp; rfl)⟩) hS ?_
                go_frame
                refine till_take 9 (some 115) rfl rfl (by kernel_rfl) (by kernel_rfl) (by kernel_rfl) (by kernel_rfl) (by kernel_rfl) (by kernel_rfl) (fun _ _ _ h => h) (.inl ⟨by rfl, fun w' _ => (by go_simp; rfl)⟩) hS ?_
                go_frame
                refine till_take 10 (some 116) rfl rfl (by kernel_rfl) (by kernel_rfl) (by kernel_rfl) (by kernel_rfl) (by kernel_rfl) (by kernel_rfl) (fun _ _ _ h => h) (.inl ⟨by rfl, fun w' hS' => (by have hq := HSD.out w'; go_simp; rfl)⟩) hS ?_
                go_frame
                refine till_two 0 6 rfl rfl (by kernel_rfl) (fun K hK => ?_) (fun K hK => ?_)
                · simp only [List.getElem_toArray, List.getElem_cons_zero]
                  rw [if_pos (by rfl)]
                  go_simp
                  obtain ⟨wt1, hwn⟩ : ∃ z, z = wz.alloc (.cells #[] 57) := ⟨_, rfl⟩
                  obtain ⟨G1, hG⟩ : ∃ G, G = wz.heap.size := ⟨_, rfl⟩
                  rw [← hwn, ← hG]
                  have hb : Below wz.heap.size wz wt1 := by rw [hwn]; exact (Below.refl _ _).alloc (Nat.le_refl _) _
                  have HO1 := Lib.hid (show Own wt1 Z 57 rowE 6 (.slice (some ⟨G1, 0, none⟩) 0 0) ([] : List LRow) by rw [hwn, hG]; exact own_mtr wz Z HZ0.out)
                  have HU1 := Lib.hid (HU0.out.later hb)
                  have HD1 := Lib.hid (HD0.out.later hb)
                  have HW1 := Lib.hid (HW0.out.trans (hb.mono HW0.out.size)); have HZ1 := Lib.hid (Nat.le_trans HZ0.out hb.size)
                  have hSn := below_at2 hb hS
                  refine hK _ _ (fun _ _ => hSn) ?_
                  clear hK hS hwn hG hb HU0 HD0 HW0 HZ0
                  have hS := hSn
                  clear hSn
                  refine till_two 4 6 rfl rfl (by kernel_rfl) (fun K hK => ?_) (fun K hK => ?_)
                  · simp only [List.getElem_toArray, List.getElem_cons_succ, List.getElem_cons_zero]
                    rw [if_pos (by rfl)]
                    refine wp_own_apps (.tmp 106) (.tmp 109) 31 rfl Tryz.underlying31 Tryz.infoRRow rfl (by decide) rowE_len rowE_one HO1.out rfl _ rfl HU1.out (by have := HLN.out; simp only [List.length_take, List.length_nil]; unfold maxLen; omega) (by have := HLN.out; simp only [List.length_take, List.length_nil]; omega) (B := w.heap.size) (w0 := w) HW1.out HWZ.out HZ1.out ?_
                    intro v2 wt2 ho hbw hg
                    have HO2 := Lib.hid ho; have HW2 := Lib.hid hbw; have HZ2 := Lib.hid (Nat.le_trans HZ1.out hg.size)
                    have HU2 := Lib.hid (HO1.out.rdo hg HU1.out HUB.out); have HD2 := Lib.hid (HO1.out.rdo hg HD1.out HDB.out)
                    have hSn := HO1.out.other hg HXZ.out hS
                    refine hK _ _ (fun _ _ => hSn) ?_
                    clear hK hS ho hbw hg HU1 HD1 HW1 HZ1 HO1
                    have hS := hSn
                    clear hSn
                    refine till_one 6 rfl (by kernel_rfl) fun K hK => ?_
                    simp only [List.getElem_toArray, List.getElem_cons_succ, List.getElem_cons_zero]
                    rw [if_pos (by rfl)]
                    go_simp
                    obtain ⟨wt3, hwn⟩ : ∃ z, z = wt2.alloc (.cells #[.int .i64 r.e, .int .i64 r.t, .int .u64 (uw0 r.m), .int .u64 (uw1 r.m), .int .u64 (uw2 r.m), .int .u64 (uw3 r.m)] 57) := ⟨_, rfl⟩
                    obtain ⟨L3, hG⟩ : ∃ G, G = wt2.heap.size := ⟨_, rfl⟩
                    rw [← hwn, ← hG]
                    have hb : Below wt2.heap.size wt2 wt3 := by rw [hwn]; exact (Below.refl _ _).alloc (Nat.le_refl _) _
                    have HL3 := Lib.hid (show wt3.heap[L3]? = some (.cells (rowC r) 57 (0, 0)) by rw [hwn, hG]; exact heap_alloc_new _ _)
                    have HU3 := Lib.hid (HU2.out.later hb)
                    have HD3 := Lib.hid (HD2.out.later hb)
                    have HW3 := Lib.hid (HW2.out.trans (hb.mono HW2.out.size)); have HZ3 := Lib.hid (Nat.le_trans HZ2.out hb.size)
                    have HO3 := Lib.hid (HO2.out.later hb)
                    have HGL3 : Hid (∀ k, (v2 : Value).ownBlock = some k → L3 ≠ k) := Lib.hid (fun k hk => by have := (HO2.out.lt k hk).2; omega)
                    have hSn := below_at2 hb hS
                    refine hK _ _ (fun _ _ => hSn) ?_
                    clear hK hS hwn hG hb HU2 HD2 HW2 HZ2 HO2
                    have hS := hSn
                    clear hSn
                    refine till_one 7 rfl (by kernel_rfl) fun K hK => ?_
                    simp only [List.getElem_toArray, List.getElem_cons_succ, List.getElem_cons_zero]
                    rw [if_pos (by rfl)]
                    refine wp_own_apps (.tmp 110) (.tmp 112) 31 rfl Tryz.underlying31 Tryz.infoRRow rfl (by decide) rowE_len rowE_one HO3.out rfl _ rfl (rd_rowB HL3.out) (by have := HLN.out; simp only [List.length_append, List.length_take, List.length_nil, List.length_singleton]; unfold maxLen; omega) (by have := HLN.out; simp only [List.length_append, List.length_take, List.length_nil, List.length_singleton]; omega) (B := w.heap.size) (w0 := w) HW3.out HWZ.out HZ3.out ?_
                    intro v4 wt4 ho hbw hg
                    have HO4 := Lib.hid ho; have HW4 := Lib.hid hbw; have HZ4 := Lib.hid (Nat.le_trans HZ3.out hg.size)
                    have HU4 := Lib.hid (HO3.out.rdo hg HU3.out HUB.out); have HD4 := Lib.hid (HO3.out.rdo hg HD3.out HDB.out)
                    have hSn := HO3.out.other hg HXZ.out hS
                    refine hK _ _ (fun _ _ => hSn) ?_
                    clear hK hS ho hbw hg HU3 HD3 HW3 HZ3 HO3 HL3 HGL3
                    have hS := hSn
                    clear hSn
                    refine till_one 11 rfl (by kernel_rfl) fun K hK => ?_
                    simp only [List.getElem_toArray, List.getElem_cons_succ, List.getElem_cons_zero]
                    rw [if_pos (by rfl)]
                    refine wp_own_apps (.tmp 113) (.tmp 116) 31 rfl Tryz.underlying31 Tryz.infoRRow rfl (by decide) rowE_len rowE_one HO4.out rfl _ rfl HD4.out (by have := HLN.out; simp only [List.length_append, List.length_take, List.length_drop, List.length_nil, List.length_singleton]; unfold maxLen; omega) (by have := HLN.out; simp only [List.length_append, List.length_take, List.length_drop, List.length_nil, List.length_singleton]; omega) (B := w.heap.size) (w0 := w) HW4.out HWZ.out HZ4.out ?_
                    intro v5 wt5 ho hbw hg
                    have HO5 := Lib.hid ho; have HW5 := Lib.hid hbw; have HZ5 := Lib.hid (Nat.le_trans HZ4.out hg.size)
                    have HU5 := Lib.hid (HO4.out.rdo hg HU4.out HUB.out); have HD5 := Lib.hid (HO4.out.rdo hg HD4.out HDB.out)
                    have hSn := HO4.out.other hg HXZ.out hS
                    refine hK _ _ (fun _ _ => hSn) ?_
                    clear hK hS ho hbw hg HU4 HD4 HW4 HZ4 HO4
                    have hS := hSn
                    clear hSn
                    refine till_take 12 (some 4) rfl rfl (by kernel_rfl) (by kernel_rfl) (by kernel_rfl) (by kernel_rfl) (by kernel_rfl) (by kernel_rfl) (fun _ _ _ h => h) (.inl ⟨by rfl, fun w' _ => (by go_simp; rfl)⟩) hS ?_
                    go_frame
                    refine till_done (by kernel_rfl) ?_ _
                    clear hS
                    have HOF := Lib.hid (show Own wt5 w.heap.size 57 rowE 6 v5 (putAt out i r) from HO5.out.mono HWZ.out)
                    have HIN := Lib.hid (HNX.out i HG.out HL.out HGT.out)
                    go_wp2_with fail
                    go_roundw
                    case rel => exact ⟨k + 1, putAt out i r, by go_num, by have := HLT.out; omega, HOF, HIN, HW5⟩
                    case measure => have := HLT.out; simp [intOf]; omega
                  · simp only [List.getElem_toArray, List.getElem_cons_succ, List.getElem_cons_zero]
                    rw [if_pos (by rfl)]
                    go_simp
                    obtain ⟨wt6, hwn⟩ : ∃ z, z = wt1.alloc (.cells #[.int .i64 r.e, .int .i64 r.t, .int .u64 (uw0 r.m), .int .u64 (uw1 r.m), .int .u64 (uw2 r.m), .int .u64 (uw3 r.m)] 57) := ⟨_, rfl⟩
                    obtain ⟨L6, hG⟩ : ∃ G, G = wt1.heap.size := ⟨_, rfl⟩
                    rw [← hwn, ← hG]
                    have hb : Below wt1.heap.size wt1 wt6 := by rw [hwn]; exact (Below.refl _ _).alloc (Nat.le_refl _) _
                    have HL6 := Lib.hid (show wt6.heap[L6]? = some (.cells (rowC r) 57 (0, 0)) by rw [hwn, hG]; exact heap_alloc_new _ _)
                    have HU6 := Lib.hid (HU1.out.later hb)
                    have HD6 := Lib.hid (HD1.out.later hb)
                    have HW6 := Lib.hid (HW1.out.trans (hb.mono HW1.out.size)); have HZ6 := Lib.hid (Nat.le_trans HZ1.out hb.size)
                    have HO6 := Lib.hid (HO1.out.later hb)
                    have HGL6 : Hid (∀ k, ((.slice (some ⟨G1, 0, none⟩) 0 0) : Value).ownBlock = some k → L6 ≠ k) := Lib.hid (fun k hk => by have := (HO1.out.lt k hk).2; omega)
                    have hSn := below_at2 hb hS
                    refine hK _ _ (fun _ _ => hSn) ?_
                    clear hK hS hwn hG hb HU1 HD1 HW1 HZ1 HO1
                    have hS := hSn
                    clear hSn
                    refine till_one 4 rfl (by kernel_rfl) fun K hK => ?_
                    simp only [List.getElem_toArray, List.getElem_cons_succ, List.getElem_cons_zero]
                    rw [if_pos (by rfl)]
                    refine wp_own_apps (.tmp 106) (.tmp 109) 31 rfl Tryz.underlying31 Tryz.infoRRow rfl (by decide) rowE_len rowE_one HO6.out rfl _ rfl HU6.out (by have := HLN.out; simp only [List.length_take, List.length_nil]; unfold maxLen; omega) (by have := HLN.out; simp only [List.length_take, List.length_nil]; omega) (B := w.heap.size) (w0 := w) HW6.out HWZ.out HZ6.out ?_
                    intro v7 wt7 ho hbw hg
                    have HO7 := Lib.hid ho; have HW7 := Lib.hid hbw; have HZ7 := Lib.hid (Nat.le_trans HZ6.out hg.size)
                    have HU7 := Lib.hid (HO6.out.rdo hg HU6.out HUB.out); have HD7 := Lib.hid (HO6.out.rdo hg HD6.out HDB.out)
                    have HL7 := Lib.hid ((hg.block L6 (heap_lt HL6.out) (fun e => HGL6.out _ e.symm rfl)).trans HL6.out)
                    have hSn := HO6.out.other hg HXZ.out hS
                    refine hK _ _ (fun _ _ => hSn) ?_
                    clear hK hS ho hbw hg HU6 HD6 HW6 HZ6 HO6 HL6 HGL6
                    have hS := hSn
                    clear hSn
                    refine till_one 7 rfl (by kernel_rfl) fun K hK => ?_
                    simp only [List.getElem_toArray, List.getElem_cons_succ, List.getElem_cons_zero]
                    rw [if_pos (by rfl)]
                    refine wp_own_apps (.tmp 110) (.tmp 112) 31 rfl Tryz.underlying31 Tryz.infoRRow rfl (by decide) rowE_len rowE_one HO7.out rfl _ rfl (rd_rowB HL7.out) (by have := HLN.out; simp only [List.length_append, List.length_take, List.length_nil, List.length_singleton]; unfold maxLen; omega) (by have := HLN.out; simp only [List.length_append, List.length_take, List.length_nil, List.length_singleton]; omega) (B := w.heap.size) (w0 := w) HW7.out HWZ.out HZ7.out ?_
                    intro v8 wt8 ho hbw hg
                    have HO8 := Lib.hid ho; have HW8 := Lib.hid hbw; have HZ8 := Lib.hid (Nat.le_trans HZ7.out hg.size)
                    have HU8 := Lib.hid (HO7.out.rdo hg HU7.out HUB.out); have HD8 := Lib.hid (HO7.out.rdo hg HD7.out HDB.out)
                    have hSn := HO7.out.other hg HXZ.out hS
                    refine hK _ _ (fun _ _ => hSn) ?_
                    clear hK hS ho hbw hg HU7 HD7 HW7 HZ7 HO7 HL7
                    have hS := hSn
                    clear hSn
                    refine till_one 11 rfl (by kernel_rfl) fun K hK => ?_
                    simp only [List.getElem_toArray, List.getElem_cons_succ, List.getElem_cons_zero]
                    rw [if_pos (by rfl)]
                    refine wp_own_apps (.tmp 113) (.tmp 116) 31 rfl Tryz.underlying31 Tryz.infoRRow rfl (by decide) rowE_len rowE_one HO8.out rfl _ rfl HD8.out (by have := HLN.out; simp only [List.length_append, List.length_take, List.length_drop, List.length_nil, List.length_singleton]; unfold maxLen; omega) (by have := HLN.out; simp only [List.length_append, List.length_take, List.length_drop, List.length_nil, List.length_singleton]; omega) (B := w.heap.size) (w0 := w) HW8.out HWZ.out HZ8.out ?_
                    intro v9 wt9 ho hbw hg
                    have HO9 := Lib.hid ho; have HW9 := Lib.hid hbw; have HZ9 := Lib.hid (Nat.le_trans HZ8.out hg.size)
                    have HU9 := Lib.hid (HO8.out.rdo hg HU8.out HUB.out); have HD9 := Lib.hid (HO8.out.rdo hg HD8.out HDB.out)
                    have hSn := HO8.out.other hg HXZ.out hS
                    refine hK _ _ (fun _ _ => hSn) ?_
                    clear hK hS ho hbw hg HU8 HD8 HW8 HZ8 HO8
                    have hS := hSn
                    clear hSn
                    refine till_take 12 (some 4) rfl rfl (by kernel_rfl) (by kernel_rfl) (by kernel_rfl) (by kernel_rfl) (by kernel_rfl) (by kernel_rfl) (fun _ _ _ h => h) (.inl ⟨by rfl, fun w' _ => (by go_simp; rfl)⟩) hS ?_
                    go_frame
                    refine till_done (by kernel_rfl) ?_ _
                    clear hS
                    have HOF := Lib.hid (show Own wt9 w.heap.size 57 rowE 6 v9 (putAt out i r) from HO9.out.mono HWZ.out)
                    have HIN := Lib.hid (HNX.out i HG.out HL.out HGT.out)
                    go_wp2_with fail
                    go_roundw
                    case rel => exact ⟨k + 1, putAt out i r, by go_num, by have := HLT.out; omega, HOF, HIN, HW9⟩
                    case measure => have := HLT.out; simp [intOf]; omega
                · simp only [List.getElem_toArray, List.getElem_cons_succ, List.getElem_cons_zero]
                  rw [if_pos (by rfl)]
                  go_simp
                  obtain ⟨wt10, hwn⟩ : ∃ z, z = wz.alloc (.cells #[.int .i64 r.e, .int .i64 r.t, .int .u64 (uw0 r.m), .int .u64 (uw1 r.m), .int .u64 (uw2 r.m), .int .u64 (uw3 r.m)] 57) := ⟨_, rfl⟩
                  obtain ⟨L10, hG⟩ : ∃ G, G = wz.heap.size := ⟨_, rfl⟩
                  rw [← hwn, ← hG]
                  have hb : Below wz.heap.size wz wt10 := by rw [hwn]; exact (Below.refl _ _).alloc (Nat.le_refl _) _
                  have HL10 := Lib.hid (show wt10.heap[L10]? = some (.cells (rowC r) 57 (0, 0)) by rw [hwn, hG]; exact heap_alloc_new _ _)
                  have HU10 := Lib.hid (HU0.out.later hb)
                  have HD10 := Lib.hid (HD0.out.later hb)
                  have HW10 := Lib.hid (HW0.out.trans (hb.mono HW0.out.size)); have HZ10 := Lib.hid (Nat.le_trans HZ0.out hb.size)
                  have hSn := below_at2 hb hS
                  refine hK _ _ (fun _ _ => hSn) ?_
                  clear hK hS hwn hG hb HU0 HD0 HW0 HZ0
                  have hS := hSn
                  clear hSn
                  refine till_one 0 rfl (by kernel_rfl) fun K hK => ?_
                  simp only [List.getElem_toArray, List.getElem_cons_zero]
                  rw [if_pos (by rfl)]
                  go_simp
                  obtain ⟨wt11, hwn⟩ : ∃ z, z = wt10.alloc (.cells #[] 57) := ⟨_, rfl⟩
                  obtain ⟨G11, hG⟩ : ∃ G, G = wt10.heap.size := ⟨_, rfl⟩
                  rw [← hwn, ← hG]
                  have hb : Below wt10.heap.size wt10 wt11 := by rw [hwn]; exact (Below.refl _ _).alloc (Nat.le_refl _) _
                  have HO11 := Lib.hid (show Own wt11 Z 57 rowE 6 (.slice (some ⟨G11, 0, none⟩) 0 0) ([] : List LRow) by rw [hwn, hG]; exact own_mtr wt10 Z HZ10.out)
                  have HU11 := Lib.hid (HU10.out.later hb)
                  have HD11 := Lib.hid (HD10.out.later hb)
                  have HW11 := Lib.hid (HW10.out.trans (hb.mono HW10.out.size)); have HZ11 := Lib.hid (Nat.le_trans HZ10.out hb.size)
                  have HL11 := Lib.hid (below_at2 hb HL10.out)
                  have HGL11 : Hid (∀ k, (Value.slice (some ⟨G11, 0, none⟩) 0 0).ownBlock = some k → L10 ≠ k) := Lib.hid (fun k hk => head_ne hk (by have := heap_lt HL10.out; omega))
                  have hSn := below_at2 hb hS
                  refine hK _ _ (fun _ _ => hSn) ?_
                  clear hK hS hwn hG hb HU10 HD10 HW10 HZ10 HL10
                  have hS := hSn
                  clear hSn
                  refine till_one 4 rfl (by kernel_rfl) fun K hK => ?_
                  simp only [List.getElem_toArray, List.getElem_cons_succ, List.getElem_cons_zero]
                  rw [if_pos (by rfl)]
                  refine wp_own_apps (.tmp 106) (.tmp 109) 31 rfl Tryz.underlying31 Tryz.infoRRow rfl (by decide) rowE_len rowE_one HO11.out rfl _ rfl HU11.out (by have := HLN.out; simp only [List.length_take, List.length_nil]; unfold maxLen; omega) (by have := HLN.out; simp only [List.length_take, List.length_nil]; omega) (B := w.heap.size) (w0 := w) HW11.out HWZ.out HZ11.out ?_
                  intro v12 wt12 ho hbw hg
                  have HO12 := Lib.hid ho; have HW12 := Lib.hid hbw; have HZ12 := Lib.hid (Nat.le_trans HZ11.out hg.size)
                  have HU12 := Lib.hid (HO11.out.rdo hg HU11.out HUB.out); have HD12 := Lib.hid (HO11.out.rdo hg HD11.out HDB.out)
                  have HL12 := Lib.hid ((hg.block L10 (heap_lt HL11.out) (fun e => HGL11.out _ e.symm rfl)).trans HL11.out)
                  have hSn := HO11.out.other hg HXZ.out hS
                  refine hK _ _ (fun _ _ => hSn) ?_
                  clear hK hS ho hbw hg HU11 HD11 HW11 HZ11 HL11 HO11 HGL11
                  have hS := hSn
                  clear hSn
                  refine till_one 7 rfl (by kernel_rfl) fun K hK => ?_
                  simp only [List.getElem_toArray, List.getElem_cons_succ, List.getElem_cons_zero]
                  rw [if_pos (by rfl)]
                  refine wp_own_apps (.tmp 110) (.tmp 112) 31 rfl Tryz.underlying31 Tryz.infoRRow rfl (by decide) rowE_len rowE_one HO12.out rfl _ rfl (rd_rowB HL12.out) (by have := HLN.out; simp only [List.length_append, List.length_take, List.length_nil, List.length_singleton]; unfold maxLen; omega) (by have := HLN.out; simp only [List.length_append, List.length_take, List.length_nil, List.length_singleton]; omega) (B := w.heap.size) (w0 := w) HW12.out HWZ.out HZ12.out ?_
                  intro v13 wt13 ho hbw hg
                  have HO13 := Lib.hid ho; have HW13 := Lib.hid hbw; have HZ13 := Lib.hid (Nat.le_trans HZ12.out hg.size)
                  have HU13 := Lib.hid (HO12.out.rdo hg HU12.out HUB.out); have HD13 := Lib.hid (HO12.out.rdo hg HD12.out HDB.out)
                  have hSn := HO12.out.other hg HXZ.out hS
                  refine hK _ _ (fun _ _ => hSn) ?_
                  clear hK hS ho hbw hg HU12 HD12 HW12 HZ12 HL12 HO12
                  have hS := hSn
                  clear hSn
                  refine till_one 11 rfl (by kernel_rfl) fun K hK => ?_
                  simp only [List.getElem_toArray, List.getElem_cons_succ, List.getElem_cons_zero]
                  rw [if_pos (by rfl)]
                  refine wp_own_apps (.tmp 113) (.tmp 116) 31 rfl Tryz.underlying31 Tryz.infoRRow rfl (by decide) rowE_len rowE_one HO13.out rfl _ rfl HD13.out (by have := HLN.out; simp only [List.length_append, List.length_take, List.length_drop, List.length_nil, List.length_singleton]; unfold maxLen; omega) (by have := HLN.out; simp only [List.length_append, List.length_take, List.length_drop, List.length_nil, List.length_singleton]; omega) (B := w.heap.size) (w0 := w) HW13.out HWZ.out HZ13.out ?_
                  intro v14 wt14 ho hbw hg
                  have HO14 := Lib.hid ho; have HW14 := Lib.hid hbw; have HZ14 := Lib.hid (Nat.le_trans HZ13.out hg.size)
                  have HU14 := Lib.hid (HO13.out.rdo hg HU13.out HUB.out); have HD14 := Lib.hid (HO13.out.rdo hg HD13.out HDB.out)
                  have hSn := HO13.out.other hg HXZ.out hS
                  refine hK _ _ (fun _ _ => hSn) ?_
                  clear hK hS ho hbw hg HU13 HD13 HW13 HZ13 HO13
                  have hS := hSn
                  clear hSn
                  refine till_take 12 (some 4) rfl rfl (by kernel_rfl) (by kernel_rfl) (by kernel_rfl) (by kernel_rfl) (by kernel_rfl) (by kernel_rfl) (fun _ _ _ h => h) (.inl ⟨by rfl, fun w' _ => (by go_simp; rfl)⟩) hS ?_
                  go_frame
                  refine till_done (by kernel_rfl) ?_ _
                  clear hS
                  have HOF := Lib.hid (show Own wt14 w.heap.size 57 rowE 6 v14 (putAt out i r) from HO14.out.mono HWZ.out)
                  have HIN := Lib.hid (HNX.out i HG.out HL.out HGT.out)
                  go_wp2_with fail
                  go_roundw
                  case rel => exact ⟨k + 1, putAt out i r, by go_num, by have := HLT.out; omega, HOF, HIN, HW14⟩
                  case measure => have := HLT.out; simp [intOf]; omega
            · have HGT : Hid (∀ hl : i < out.length, kLt (rkey r) (rkey out[i])) := Lib.hid (fun hl => absurd hl (by have := HKL.out; omega))
              go_wp2_with fail
              go_quiet (fail)
              go_wp2_with fail
              obtain ⟨wq, hwq⟩ : ∃ q, q = World.drewN wc nq := ⟨_, rfl⟩
              have hbq : Below (World.heap wc).size wc wq := by rw [hwq]; exact below_drewN (Below.refl _ _) _
              rw [← hwq]
              have HX6 := Lib.hid (below_at2 hbq HX4.out); have HO6 := Lib.hid (HO4.out.later hbq); have HB6 := Lib.hid (HB5.out.trans (hbq.mono HB5.out.size))
              clear hbq hwq
              clear HX4 HO4 HB5
              obtain ⟨vu, hu1, hu2, hu3⟩ := (HO6.out.rd rowE_len).upto Tryz.underlying31 (sz := 6) Tryz.sizeRRow i (by have := HKL.out; omega)
              obtain ⟨vd, hd1, hd2, hd3⟩ := (HO6.out.rd rowE_len).from Tryz.underlying31 (sz := 6) Tryz.sizeRRow i (by have := HKL.out; omega)
              go_upto_region 14 with fail
              obtain ⟨wz, hwz⟩ : ∃ wz, wz = wq.drew := ⟨_, rfl⟩
              have hbz : Below wq.heap.size wq wz := by rw [hwz]; exact (Below.refl _ _).drew
              have hS := below_at2 hbz HX6.out
              obtain ⟨Z, hZ⟩ : ∃ Z, Z = wz.heap.size := ⟨_, rfl⟩
              have HSU := Lib.hid hu1; have HSD := Lib.hid hd1
              have HU0 := Lib.hid (hu2.later hbz); have HD0 := Lib.hid (hd2.later hbz)
              have HUB := Lib.hid (show ∀ q, vu.ownBlock = some q → q < Z from fun q hq => by have := (HO6.out.lt q (hu3 q hq)).2; have := hbz.size; omega)
              have HDB := Lib.hid (show ∀ q, vd.ownBlock = some q → q < Z from fun q hq => by have := (HO6.out.lt q (hd3 q hq)).2; have := hbz.size; omega)
              have HW0 := Lib.hid (HB6.out.trans (hbz.mono HB6.out.size)); have HZ0 := Lib.hid (show Z ≤ wz.heap.size by omega)
              have HWZ := Lib.hid (show w.heap.size ≤ Z by have := HW0.out.size; omega)
              have HXZ := Lib.hid (show X < Z by have := heap_lt hS; omega)
              have HLN := Lib.hid (show out.length ≤ 1024 by have := HOL.out; omega)
              clear hbz hZ hu1 hu2 hu3 hd1 hd2 hd3 HX6 HO6 HB6
              refine wp_region_till (fun w' => w'.heap[X]? = some (.cells #[.int .i64 r.e, .int .i64 r.t, .int .u64 (uw0 r.m), .int .u64 (uw1 r.m), .int .u64 (uw2 r.m), .int .u64 (uw3 r.m)] 57 (0, 0))) 13 13 (by kernel_rfl) rfl ?_
              rw [← hwz]
              clear hwz
              refine till_take 1 (some 107) rfl rfl (by kernel_rfl) (by kernel_rfl) (by kernel_rfl) (by kernel_rfl) (by kernel_rfl) (by kernel_rfl) (fun _ _ _ h => h) (.inl ⟨by rfl, fun w' _ => (by go_simp; rfl)⟩) hS ?_
              go_frame
              refine till_take 2 (some 108) rfl rfl (by kernel_rfl) (by kernel_rfl) (by kernel_rfl) (by kernel_rfl) (by kernel_rfl) (by kernel_rfl) (fun _ _ _ h => h) (.inl ⟨by rfl, fun w' _ => (by go_simp; rfl)⟩) hS ?_
              go_frame
              refine till_take 3 (some 109) rfl rfl (by kernel_rfl) (by kernel_rfl) (by kernel_rfl) (by kernel_rfl) (by kernel_rfl) (by kernel_rfl) (fun _ _ _ h => h) (.inl ⟨by rfl, fun w' hS' => (by have hq := HSU.out w'; go_simp; rfl)⟩) hS ?_
              go_frame
              refine till_take 5 (some 111) rfl rfl (by kernel_rfl) (by kernel_rfl) (by kernel_rfl) (by kernel_rfl) (by kernel_rfl) (by kernel_rfl) (fun _ _ _ h => h) (yields_load (by rfl) 57 _ rfl (.pointer (some ⟨X, 0, none⟩)) rfl (.agg #[.int .i64 r.e, .int .i64 r.t, .int .u64 (uw0 r.m), .int .u64 (uw1 r.m), .int .u64 (uw2 r.m), .int .u64 (uw3 r.m)]) (fun w' hS' => load_blk hS' Tryz.underlying57 rfl Tryz.sizeRRow)) hS ?_
              go_frame
              refine till_take 8 (some 114) rfl rfl (by kernel_rfl) (by kernel_rfl) (by kernel_rfl) (by kernel_rfl) (by kernel_rfl) (by kernel_rfl) (fun _ _ _ h => h) (.inl ⟨by rfl, fun w' _ => (by go_simp; rfl)⟩) hS ?_
              go_frame
              refine till_take 9 (some 115) rfl rfl (by kernel_rfl) (by kernel_rfl) (by kernel_rfl) (by kernel_rfl) (by kernel_rfl) (by kernel_rfl) (fun _ _ _ h => h) (.inl ⟨by rfl, fun w' _ => (by go_simp; rfl)⟩) hS ?_
              go_frame
              refine till_take 10 (some 116) rfl rfl (by kernel_rfl) (by kernel_rfl) (by kernel_rfl) (by kernel_rfl) (by kernel_rfl) (by kernel_rfl) (fun _ _ _ h => h) (.inl ⟨by rfl, fun w' hS' => (by have hq := HSD.out w'; go_simp; rfl)⟩) hS ?_
              go_frame
              refine till_two 0 6 rfl rfl (by kernel_rfl) (fun K hK => ?_) (fun K hK => ?_)
              · simp only [List.getElem_toArray, List.getElem_cons_zero]
                rw [if_pos (by rfl)]
                go_simp
                obtain ⟨wt1, hwn⟩ : ∃ z, z = wz.alloc (.cells #[] 57) := ⟨_, rfl⟩
                obtain ⟨G1, hG⟩ : ∃ G, G = wz.heap.size := ⟨_, rfl⟩
                rw [← hwn, ← hG]
                have hb : Below wz.heap.size wz wt1 := by rw [hwn]; exact (Below.refl _ _).alloc (Nat.le_refl _) _
                have HO1 := Lib.hid (show Own wt1 Z 57 rowE 6 (.slice (some ⟨G1, 0, none⟩) 0 0) ([] : List LRow) by rw [hwn, hG]; exact own_mtr wz Z HZ0.out)
                have HU1 := Lib.hid (HU0.out.later hb)
                have HD1 := Lib.hid (HD0.out.later hb)
                have HW1 := Lib.hid (HW0.out.trans (hb.mono HW0.out.size)); have HZ1 := Lib.hid (Nat.le_trans HZ0.out hb.size)
                have hSn := below_at2 hb hS
                refine hK _ _ (fun _ _ => hSn) ?_
                clear hK hS hwn hG hb HU0 HD0 HW0 HZ0
                have hS := hSn
                clear hSn
                refine till_two 4 6 rfl rfl (by kernel_rfl) (fun K hK => ?_) (fun K hK => ?_)
                · simp only [List.getElem_toArray, List.getElem_cons_succ, List.getElem_cons_zero]
                  rw [if_pos (by rfl)]
                  refine wp_own_apps (.tmp 106) (.tmp 109) 31 rfl Tryz.underlying31 Tryz.infoRRow rfl (by decide) rowE_len rowE_one HO1.out rfl _ rfl HU1.out (by have := HLN.out; simp only [List.length_take, List.length_nil]; unfold maxLen; omega) (by have := HLN.out; simp only [List.length_take, List.length_nil]; omega) (B := w.heap.size) (w0 := w) HW1.out HWZ.out HZ1.out ?_
                  intro v2 wt2 ho hbw hg
                  have HO2 := Lib.hid ho; have HW2 := Lib.hid hbw; have HZ2 := Lib.hid (Nat.le_trans HZ1.out hg.size)
                  have HU2 := Lib.hid (HO1.out.rdo hg HU1.out HUB.out); have HD2 := Lib.hid (HO1.out.rdo hg HD1.out HDB.out)
                  have hSn := HO1.out.other hg HXZ.out hS
                  refine hK _ _ (fun _ _ => hSn) ?_
                  clear hK hS ho hbw hg HU1 HD1 HW1 HZ1 HO1
                  have hS := hSn
                  clear hSn
                  refine till_one 6 rfl (by kernel_rfl) fun K hK => ?_
                  simp only [List.getElem_toArray, List.getElem_cons_succ, List.getElem_cons_zero]
                  rw [if_pos (by rfl)]
                  go_simp
                  obtain ⟨wt3, hwn⟩ : ∃ z, z = wt2.alloc (.cells #[.int .i64 r.e, .int .i64 r.t, .int .u64 (uw0 r.m), .int .u64 (uw1 r.m), .int .u64 (uw2 r.m), .int .u64 (uw3 r.m)] 57) := ⟨_, rfl⟩
                  obtain ⟨L3, hG⟩ : ∃ G, G = wt2.heap.size := ⟨_, rfl⟩
                  rw [← hwn, ← hG]
                  have hb : Below wt2.heap.size wt2 wt3 := by rw [hwn]; exact (Below.refl _ _).alloc (Nat.le_refl _) _
                  have HL3 := Lib.hid (show wt3.heap[L3]? = some (.cells (rowC r) 57 (0, 0)) by rw [hwn, hG]; exact heap_alloc_new _ _)
                  have HU3 := Lib.hid (HU2.out.later hb)
                  have HD3 := Lib.hid (HD2.out.later hb)
                  have HW3 := Lib.hid (HW2.out.trans (hb.mono HW2.out.size)); have HZ3 := Lib.hid (Nat.le_trans HZ2.out hb.size)
                  have HO3 := Lib.hid (HO2.out.later hb)
                  have HGL3 : Hid (∀ k, (v2 : Value).ownBlock = some k → L3 ≠ k) := Lib.hid (fun k hk => by have := (HO2.out.lt k hk).2; omega)
                  have hSn := below_at2 hb hS
                  refine hK _ _ (fun _ _ => hSn) ?_
                  clear hK hS hwn hG hb HU2 HD2 HW2 HZ2 HO2
                  have hS := hSn
                  clear hSn
                  refine till_one 7 rfl (by kernel_rfl) fun K hK => ?_
                  simp only [List.getElem_toArray, List.getElem_cons_succ, List.getElem_cons_zero]
                  rw [if_pos (by rfl)]
                  refine wp_own_apps (.tmp 110) (.tmp 112) 31 rfl Tryz.underlying31 Tryz.infoRRow rfl (by decide) rowE_len rowE_one HO3.out rfl _ rfl (rd_rowB HL3.out) (by have := HLN.out; simp only [List.length_append, List.length_take, List.length_nil, List.length_singleton]; unfold maxLen; omega) (by have := HLN.out; simp only [List.length_append, List.length_take, List.length_nil, List.length_singleton]; omega) (B := w.heap.size) (w0 := w) HW3.out HWZ.out HZ3.out ?_
                  intro v4 wt4 ho hbw hg
                  have HO4 := Lib.hid ho; have HW4 := Lib.hid hbw; have HZ4 := Lib.hid (Nat.le_trans HZ3.out hg.size)
                  have HU4 := Lib.hid (HO3.out.rdo hg HU3.out HUB.out); have HD4 := Lib.hid (HO3.out.rdo hg HD3.out HDB.out)
                  have hSn := HO3.out.other hg HXZ.out hS
                  refine hK _ _ (fun _ _ => hSn) ?_
                  clear hK hS ho hbw hg HU3 HD3 HW3 HZ3 HO3 HL3 HGL3
                  have hS := hSn
                  clear hSn
                  refine till_one 11 rfl (by kernel_rfl) fun K hK => ?_
                  simp only [List.getElem_toArray, List.getElem_cons_succ, List.getElem_cons_zero]
                  rw [if_pos (by rfl)]
                  refine wp_own_apps (.tmp 113) (.tmp 116) 31 rfl Tryz.underlying31 Tryz.infoRRow rfl (by decide) rowE_len rowE_one HO4.out rfl _ rfl HD4.out (by have := HLN.out; simp only [List.length_append, List.length_take, List.length_drop, List.length_nil, List.length_singleton]; unfold maxLen; omega) (by have := HLN.out; simp only [List.length_append, List.length_take, List.length_drop, List.length_nil, List.length_singleton]; omega) (B := w.heap.size) (w0 := w) HW4.out HWZ.out HZ4.out ?_
                  intro v5 wt5 ho hbw hg
                  have HO5 := Lib.hid ho; have HW5 := Lib.hid hbw; have HZ5 := Lib.hid (Nat.le_trans HZ4.out hg.size)
                  have HU5 := Lib.hid (HO4.out.rdo hg HU4.out HUB.out); have HD5 := Lib.hid (HO4.out.rdo hg HD4.out HDB.out)
                  have hSn := HO4.out.other hg HXZ.out hS
                  refine hK _ _ (fun _ _ => hSn) ?_
                  clear hK hS ho hbw hg HU4 HD4 HW4 HZ4 HO4
                  have hS := hSn
                  clear hSn
                  refine till_take 12 (some 4) rfl rfl (by kernel_rfl) (by kernel_rfl) (by kernel_rfl) (by kernel_rfl) (by kernel_rfl) (by kernel_rfl) (fun _ _ _ h => h) (.inl ⟨by rfl, fun w' _ => (by go_simp; rfl)⟩) hS ?_
                  go_frame
                  refine till_done (by kernel_rfl) ?_ _
                  clear hS
                  have HOF := Lib.hid (show Own wt5 w.heap.size 57 rowE 6 v5 (putAt out i r) from HO5.out.mono HWZ.out)
                  have HIN := Lib.hid (HNX.out i HG.out HL.out HGT.out)
                  go_wp2_with fail
                  go_roundw
                  case rel => exact ⟨k + 1, putAt out i r, by go_num, by have := HLT.out; omega, HOF, HIN, HW5⟩
                  case measure => have := HLT.out; simp [intOf]; omega
                · simp only [List.getElem_toArray, List.getElem_cons_succ, List.getElem_cons_zero]
                  rw [if_pos (by rfl)]
                  go_simp
                  obtain ⟨wt6, hwn⟩ : ∃ z, z = wt1.alloc (.cells #[.int .i64 r.e, .int .i64 r.t, .int .u64 (uw0 r.m), .int .u64 (uw1 r.m), .int .u64 (uw2 r.m), .int .u64 (uw3 r.m)] 57) := ⟨_, rfl⟩
                  obtain ⟨L6, hG⟩ : ∃ G, G = wt1.heap.size := ⟨_, rfl⟩
                  rw [← hwn, ← hG]
                  have hb : Below wt1.heap.size wt1 wt6 := by rw [hwn]; exact (Below.refl _ _).alloc (Nat.le_refl _) _
                  have HL6 := Lib.hid (show wt6.heap[L6]? = some (.cells (rowC r) 57 (0, 0)) by rw [hwn, hG]; exact heap_alloc_new _ _)
                  have HU6 := Lib.hid (HU1.out.later hb)
                  have HD6 := Lib.hid (HD1.out.later hb)
                  have HW6 := Lib.hid (HW1.out.trans (hb.mono HW1.out.size)); have HZ6 := Lib.hid (Nat.le_trans HZ1.out hb.size)
                  have HO6 := Lib.hid (HO1.out.later hb)
                  have HGL6 : Hid (∀ k, ((.slice (some ⟨G1, 0, none⟩) 0 0) : Value).ownBlock = some k → L6 ≠ k) := Lib.hid (fun k hk => by have := (HO1.out.lt k hk).2; omega)
                  have hSn := below_at2 hb hS
                  refine hK _ _ (fun _ _ => hSn) ?_
                  clear hK hS hwn hG hb HU1 HD1 HW1 HZ1 HO1
                  have hS := hSn
                  clear hSn
                  refine till_one 4 rfl (by kernel_rfl) fun K hK => ?_
                  simp only [List.getElem_toArray, List.getElem_cons_succ, List.getElem_cons_zero]
                  rw [if_pos (by rfl)]
                  refine wp_own_apps (.tmp 106) (.tmp 109) 31 rfl Tryz.underlying31 Tryz.infoRRow rfl (by decide) rowE_len rowE_one HO6.out rfl _ rfl HU6.out (by have := HLN.out; simp only [List.length_take, List.length_nil]; unfold maxLen; omega) (by have := HLN.out; simp only [List.length_take, List.length_nil]; omega) (B := w.heap.size) (w0 := w) HW6.out HWZ.out HZ6.out ?_
                  intro v7 wt7 ho hbw hg
                  have HO7 := Lib.hid ho; have HW7 := Lib.hid hbw; have HZ7 := Lib.hid (Nat.le_trans HZ6.out hg.size)
                  have HU7 := Lib.hid (HO6.out.rdo hg HU6.out HUB.out); have HD7 := Lib.hid (HO6.out.rdo hg HD6.out HDB.out)
                  have HL7 := Lib.hid ((hg.block L6 (heap_lt HL6.out) (fun e => HGL6.out _ e.symm rfl)).trans HL6.out)
                  have hSn := HO6.out.other hg HXZ.out hS
                  refine hK _ _ (fun _ _ => hSn) ?_
                  clear hK hS ho hbw hg HU6 HD6 HW6 HZ6 HO6 HL6 HGL6
                  have hS := hSn
                  clear hSn
                  refine till_one 7 rfl (by kernel_rfl) fun K hK => ?_
                  simp only [List.getElem_toArray, List.getElem_cons_succ, List.getElem_cons_zero]
                  rw [if_pos (by rfl)]
                  refine wp_own_apps (.tmp 110) (.tmp 112) 31 rfl Tryz.underlying31 Tryz.infoRRow rfl (by decide) rowE_len rowE_one HO7.out rfl _ rfl (rd_rowB HL7.out) (by have := HLN.out; simp only [List.length_append, List.length_take, List.length_nil, List.length_singleton]; unfold maxLen; omega) (by have := HLN.out; simp only [List.length_append, List.length_take, List.length_nil, List.length_singleton]; omega) (B := w.heap.size) (w0 := w) HW7.out HWZ.out HZ7.out ?_
                  intro v8 wt8 ho hbw hg
                  have HO8 := Lib.hid ho; have HW8 := Lib.hid hbw; have HZ8 := Lib.hid (Nat.le_trans HZ7.out hg.size)
                  have HU8 := Lib.hid (HO7.out.rdo hg HU7.out HUB.out); have HD8 := Lib.hid (HO7.out.rdo hg HD7.out HDB.out)
                  have hSn := HO7.out.other hg HXZ.out hS
                  refine hK _ _ (fun _ _ => hSn) ?_
                  clear hK hS ho hbw hg HU7 HD7 HW7 HZ7 HO7 HL7
                  have hS := hSn
                  clear hSn
                  refine till_one 11 rfl (by kernel_rfl) fun K hK => ?_
                  simp only [List.getElem_toArray, List.getElem_cons_succ, List.getElem_cons_zero]
                  rw [if_pos (by rfl)]
                  refine wp_own_apps (.tmp 113) (.tmp 116) 31 rfl Tryz.underlying31 Tryz.infoRRow rfl (by decide) rowE_len rowE_one HO8.out rfl _ rfl HD8.out (by have := HLN.out; simp only [List.length_append, List.length_take, List.length_drop, List.length_nil, List.length_singleton]; unfold maxLen; omega) (by have := HLN.out; simp only [List.length_append, List.length_take, List.length_drop, List.length_nil, List.length_singleton]; omega) (B := w.heap.size) (w0 := w) HW8.out HWZ.out HZ8.out ?_
                  intro v9 wt9 ho hbw hg
                  have HO9 := Lib.hid ho; have HW9 := Lib.hid hbw; have HZ9 := Lib.hid (Nat.le_trans HZ8.out hg.size)
                  have HU9 := Lib.hid (HO8.out.rdo hg HU8.out HUB.out); have HD9 := Lib.hid (HO8.out.rdo hg HD8.out HDB.out)
                  have hSn := HO8.out.other hg HXZ.out hS
                  refine hK _ _ (fun _ _ => hSn) ?_
                  clear hK hS ho hbw hg HU8 HD8 HW8 HZ8 HO8
                  have hS := hSn
                  clear hSn
                  refine till_take 12 (some 4) rfl rfl (by kernel_rfl) (by kernel_rfl) (by kernel_rfl) (by kernel_rfl) (by kernel_rfl) (by kernel_rfl) (fun _ _ _ h => h) (.inl ⟨by rfl, fun w' _ => (by go_simp; rfl)⟩) hS ?_
                  go_frame
                  refine till_done (by kernel_rfl) ?_ _
                  clear hS
                  have HOF := Lib.hid (show Own wt9 w.heap.size 57 rowE 6 v9 (putAt out i r) from HO9.out.mono HWZ.out)
                  have HIN := Lib.hid (HNX.out i HG.out HL.out HGT.out)
                  go_wp2_with fail
                  go_roundw
                  case rel => exact ⟨k + 1, putAt out i r, by go_num, by have := HLT.out; omega, HOF, HIN, HW9⟩
                  case measure => have := HLT.out; simp [intOf]; omega
              · simp only [List.getElem_toArray, List.getElem_cons_succ, List.getElem_cons_zero]
                rw [if_pos (by rfl)]
                go_simp
                obtain ⟨wt10, hwn⟩ : ∃ z, z = wz.alloc (.cells #[.int .i64 r.e, .int .i64 r.t, .int .u64 (uw0 r.m), .int .u64 (uw1 r.m), .int .u64 (uw2 r.m), .int .u64 (uw3 r.m)] 57) := ⟨_, rfl⟩
                obtain ⟨L10, hG⟩ : ∃ G, G = wz.heap.size := ⟨_, rfl⟩
                rw [← hwn, ← hG]
                have hb : Below wz.heap.size wz wt10 := by rw [hwn]; exact (Below.refl _ _).alloc (Nat.le_refl _) _
                have HL10 := Lib.hid (show wt10.heap[L10]? = some (.cells (rowC r) 57 (0, 0)) by rw [hwn, hG]; exact heap_alloc_new _ _)
                have HU10 := Lib.hid (HU0.out.later hb)
                have HD10 := Lib.hid (HD0.out.later hb)
                have HW10 := Lib.hid (HW0.out.trans (hb.mono HW0.out.size)); have HZ10 := Lib.hid (Nat.le_trans HZ0.out hb.size)
                have hSn := below_at2 hb hS
                refine hK _ _ (fun _ _ => hSn) ?_
                clear hK hS hwn hG hb HU0 HD0 HW0 HZ0
                have hS := hSn
                clear hSn
                refine till_one 0 rfl (by kernel_rfl) fun K hK => ?_
                simp only [List.getElem_toArray, List.getElem_cons_zero]
                rw [if_pos (by rfl)]
                go_simp
                obtain ⟨wt11, hwn⟩ : ∃ z, z = wt10.alloc (.cells #[] 57) := ⟨_, rfl⟩
                obtain ⟨G11, hG⟩ : ∃ G, G = wt10.heap.size := ⟨_, rfl⟩
                rw [← hwn, ← hG]
                have hb : Below wt10.heap.size wt10 wt11 := by rw [hwn]; exact (Below.refl _ _).alloc (Nat.le_refl _) _
                have HO11 := Lib.hid (show Own wt11 Z 57 rowE 6 (.slice (some ⟨G11, 0, none⟩) 0 0) ([] : List LRow) by rw [hwn, hG]; exact own_mtr wt10 Z HZ10.out)
                have HU11 := Lib.hid (HU10.out.later hb)
                have HD11 := Lib.hid (HD10.out.later hb)
                have HW11 := Lib.hid (HW10.out.trans (hb.mono HW10.out.size)); have HZ11 := Lib.hid (Nat.le_trans HZ10.out hb.size)
                have HL11 := Lib.hid (below_at2 hb HL10.out)
                have HGL11 : Hid (∀ k, (Value.slice (some ⟨G11, 0, none⟩) 0 0).ownBlock = some k → L10 ≠ k) := Lib.hid (fun k hk => head_ne hk (by have := heap_lt HL10.out; omega))
                have hSn := below_at2 hb hS
                refine hK _ _ (fun _ _ => hSn) ?_
                clear hK hS hwn hG hb HU10 HD10 HW10 HZ10 HL10
                have hS := hSn
                clear hSn
                refine till_one 4 rfl (by kernel_rfl) fun K hK => ?_
                simp only [List.getElem_toArray, List.getElem_cons_succ, List.getElem_cons_zero]
                rw [if_pos (by rfl)]
                refine wp_own_apps (.tmp 106) (.tmp 109) 31 rfl Tryz.underlying31 Tryz.infoRRow rfl (by decide) rowE_len rowE_one HO11.out rfl _ rfl HU11.out (by have := HLN.out; simp only [List.length_take, List.length_nil]; unfold maxLen; omega) (by have := HLN.out; simp only [List.length_take, List.length_nil]; omega) (B := w.heap.size) (w0 := w) HW11.out HWZ.out HZ11.out ?_
                intro v12 wt12 ho hbw hg
                have HO12 := Lib.hid ho; have HW12 := Lib.hid hbw; have HZ12 := Lib.hid (Nat.le_trans HZ11.out hg.size)
                have HU12 := Lib.hid (HO11.out.rdo hg HU11.out HUB.out); have HD12 := Lib.hid (HO11.out.rdo hg HD11.out HDB.out)
                have HL12 := Lib.hid ((hg.block L10 (heap_lt HL11.out) (fun e => HGL11.out _ e.symm rfl)).trans HL11.out)
                have hSn := HO11.out.other hg HXZ.out hS
                refine hK _ _ (fun _ _ => hSn) ?_
                clear hK hS ho hbw hg HU11 HD11 HW11 HZ11 HL11 HO11 HGL11
                have hS := hSn
                clear hSn
                refine till_one 7 rfl (by kernel_rfl) fun K hK => ?_
                simp only [List.getElem_toArray, List.getElem_cons_succ, List.getElem_cons_zero]
                rw [if_pos (by rfl)]
                refine wp_own_apps (.tmp 110) (.tmp 112) 31 rfl Tryz.underlying31 Tryz.infoRRow rfl (by decide) rowE_len rowE_one HO12.out rfl _ rfl (rd_rowB HL12.out) (by have := HLN.out; simp only [List.length_append, List.length_take, List.length_nil, List.length_singleton]; unfold maxLen; omega) (by have := HLN.out; simp only [List.length_append, List.length_take, List.length_nil, List.length_singleton]; omega) (B := w.heap.size) (w0 := w) HW12.out HWZ.out HZ12.out ?_
                intro v13 wt13 ho hbw hg
                have HO13 := Lib.hid ho; have HW13 := Lib.hid hbw; have HZ13 := Lib.hid (Nat.le_trans HZ12.out hg.size)
                have HU13 := Lib.hid (HO12.out.rdo hg HU12.out HUB.out); have HD13 := Lib.hid (HO12.out.rdo hg HD12.out HDB.out)
                have hSn := HO12.out.other hg HXZ.out hS
                refine hK _ _ (fun _ _ => hSn) ?_
                clear hK hS ho hbw hg HU12 HD12 HW12 HZ12 HL12 HO12
                have hS := hSn
                clear hSn
                refine till_one 11 rfl (by kernel_rfl) fun K hK => ?_
                simp only [List.getElem_toArray, List.getElem_cons_succ, List.getElem_cons_zero]
                rw [if_pos (by rfl)]
                refine wp_own_apps (.tmp 113) (.tmp 116) 31 rfl Tryz.underlying31 Tryz.infoRRow rfl (by decide) rowE_len rowE_one HO13.out rfl _ rfl HD13.out (by have := HLN.out; simp only [List.length_append, List.length_take, List.length_drop, List.length_nil, List.length_singleton]; unfold maxLen; omega) (by have := HLN.out; simp only [List.length_append, List.length_take, List.length_drop, List.length_nil, List.length_singleton]; omega) (B := w.heap.size) (w0 := w) HW13.out HWZ.out HZ13.out ?_
                intro v14 wt14 ho hbw hg
                have HO14 := Lib.hid ho; have HW14 := Lib.hid hbw; have HZ14 := Lib.hid (Nat.le_trans HZ13.out hg.size)
                have HU14 := Lib.hid (HO13.out.rdo hg HU13.out HUB.out); have HD14 := Lib.hid (HO13.out.rdo hg HD13.out HDB.out)
                have hSn := HO13.out.other hg HXZ.out hS
                refine hK _ _ (fun _ _ => hSn) ?_
                clear hK hS ho hbw hg HU13 HD13 HW13 HZ13 HO13
                have hS := hSn
                clear hSn
                refine till_take 12 (some 4) rfl rfl (by kernel_rfl) (by kernel_rfl) (by kernel_rfl) (by kernel_rfl) (by kernel_rfl) (by kernel_rfl) (fun _ _ _ h => h) (.inl ⟨by rfl, fun w' _ => (by go_simp; rfl)⟩) hS ?_
                go_frame
                refine till_done (by kernel_rfl) ?_ _
                clear hS
                have HOF := Lib.hid (show Own wt14 w.heap.size 57 rowE 6 v14 (putAt out i r) from HO14.out.mono HWZ.out)
                have HIN := Lib.hid (HNX.out i HG.out HL.out HGT.out)
                go_wp2_with fail
                go_roundw
                case rel => exact ⟨k + 1, putAt out i r, by go_num, by have := HLT.out; omega, HOF, HIN, HW14⟩
                case measure => have := HLT.out; simp [intOf]; omega
      · obtain rfl : k = n := by omega
        have HY := Lib.hid (InsAt.done (l := l) (out := out) (by have := HI.out; rw [HN.out] at this; exact this) (by have := HN.out; omega) (by have := HN.out; omega))
        go_wp2_with fail
        go_ret2
        exact ⟨HB.out, .inr ⟨_, out, HY.out, rfl, HO.out⟩⟩
end Go.Proofs.YtmclmccgghnglaaGreat
