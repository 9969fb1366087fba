/- Law 13: DueOnce (code). No condition. -/
import Derived.Test.YthnjakomkdlglaaDueP
import Derived.Deep.QuietTactic
import Derived.BigQuiet
import Derived.WalkSmall
namespace Go.Proofs.Ythnjakomkdlglaa
open Go.RowKit

/-- The blocks as numbers. -/
def blU (l : List UInt8) : List Int := l.map fun c => (c.toNat : Int)
theorem blU_len (l : List UInt8) : (blU l).length = l.length := by simp [blU]
theorem blU_at {l : List UInt8} {i : Nat} (h : i < l.length) : bbD (blU l) i = (l[i].toNat : Int) := by
  unfold bbD blU
  rw [List.getD_eq_getElem?_getD, List.getElem?_map, List.getElem?_eq_getElem h]; rfl
theorem blU_bl {l : List UInt8} (h : l.length ≤ 80) : Bl (blU l) := ⟨by rw [blU_len]; exact h, fun x hx => by
  obtain ⟨c, _, rfl⟩ := List.mem_map.1 hx
  have := c.toNat_lt
  omega⟩
/-- The row that was seen last. -/
def LastR (bl : List Int) (A : List Nat) (j : Nat) (lb la : Int) : Prop := (j = 0 ∧ lb = -1 ∧ la = -1) ∨ (0 < j ∧ ∃ h : j - 1 < A.length, lb = bbD bl (A[j - 1]'h) ∧ la = ((A[j - 1]'h : Nat) : Int))
theorem LastR.next {bl : List Int} {nw bk : Int} {A : List Nat} {j : Nat} {lb la : Int} (h : LastR bl A j lb la) (hT : Took bl nw bk A) (hB : Bl bl) (hj : j < A.length) :
    lb ≤ bbD bl A[j] ∧ (bbD bl A[j] = lb → la < ((A[j] : Nat) : Int)) ∧ LastR bl A (j + 1) (bbD bl A[j]) ((A[j] : Nat) : Int) := by
  have hb := hB.bb A[j]
  refine ⟨?_, ?_, .inr ⟨by omega, by simpa using hj, by simp, by simp⟩⟩
  · rcases h with ⟨_, h, _⟩ | ⟨h0, h1, h2, _⟩
    · omega
    · have := List.pairwise_iff_getElem.1 hT.ord (j - 1) j h1 hj (by omega)
      rw [h2]
      rcases this with h | ⟨h, _⟩ <;> omega
  · rcases h with ⟨_, _, h⟩ | ⟨h0, h1, h2, h3⟩
    · intro _; omega
    · have := List.pairwise_iff_getElem.1 hT.ord (j - 1) j h1 hj (by omega)
      rw [h2, h3]
      rcases this with h | ⟨_, h⟩
      · intro e; omega
      · intro _; omega
/-- How many were due among the first. -/
def wantN (bl : List Int) (has : Bool) (now : Int) (i : Nat) : Nat := (bl.take i).countP fun b => has && decide (b ≤ now)
theorem want_zero (bl : List Int) (has : Bool) (now : Int) : wantN bl has now 0 = 0 := rfl
theorem want_succ {bl : List Int} {has : Bool} {now : Int} {i : Nat} (hi : i < bl.length) : wantN bl has now (i + 1) = wantN bl has now i + (if (has && decide (bbD bl i ≤ now)) = true then 1 else 0) := by
  unfold wantN
  have e : bbD bl i = bl[i] := by unfold bbD; rw [List.getD_eq_getElem?_getD, List.getElem?_eq_getElem hi]; rfl
  rw [List.take_succ_eq_append_getElem hi, List.countP_append, List.countP_singleton, e]
theorem want_le (bl : List Int) (has : Bool) (now : Int) (i : Nat) : wantN bl has now i ≤ i := by
  unfold wantN
  refine Nat.le_trans List.countP_le_length ?_
  rw [List.length_take]; omega
/-- The block up to which all was taken. -/
def upTo (i : Nat) (now : Int) : Int := if i = 0 then -1 else now
theorem want_left {bl : List Int} (hB : Bl bl) {i : Nat} {now : Int} : leftN bl (upTo i now) + wantN bl (decide (0 < i)) now bl.length = bl.length := by
  unfold wantN upTo
  rw [List.take_length]
  by_cases h : i = 0
  · subst h
    rw [if_pos rfl, left_all hB]
    have : bl.countP (fun b => decide (0 < 0) && decide (b ≤ now)) = 0 := by
      rw [List.countP_eq_zero]; intro x _; simp
    omega
  · rw [if_neg h, decide_eq_true (by omega)]
    have := left_want now bl
    simpa using this

set_option maxHeartbeats 16000000 in
set_option maxRecDepth 100000 in
theorem once13_any {w : World} {v1 v2 : Value} {l1 l2 : List UInt8} (h1 : Rd w u8E 1 v1 l1) (h2 : Rd w u8E 1 v2 l2) :
    Calls Try.prog 4 #[v1, v2] w (Ret w (.bool true)) := by
  obtain ⟨ad1, cap1, rfl, c1, c1'⟩ := h1.shape
  obtain ⟨ad2, cap2, rfl, c2, c2'⟩ := h2.shape
  obtain ⟨n1, hn1⟩ : ∃ q, q = l1.length := ⟨_, rfl⟩
  obtain ⟨n2, hn2⟩ : ∃ q, q = l2.length := ⟨_, rfl⟩
  rw [← hn1] at h1 c1 ⊢
  rw [← hn2] at h2 c2 ⊢
  have H1 := Lib.hid h1; have H2 := Lib.hid h2; have HN1 := Lib.hid hn1; have HN2 := Lib.hid hn2
  clear h1 h2 hn1 hn2
  have big : ∀ e w2, e = Ending.returned (.bool true) ∧ Below w.heap.size w w2 → Ret w (.bool true) e w2 := fun _ _ h => h
  by_cases g1 : 80 < n1
  · go_enter Try.func4, Try.ntmps4
    go_wp2_with fail
    refine (lives13_any _).mono ?_
    rintro e w2 ⟨rfl, hb⟩
    have HB := Lib.hid hb
    clear hb big
    go_wp2_with fail
    go_ret
    exact ⟨rfl, HB.out⟩
  by_cases g2 : 80 < n2
  · go_enter Try.func4, Try.ntmps4
    go_wp2_with fail
    refine (lives13_any _).mono ?_
    rintro e w2 ⟨rfl, hb⟩
    have HB := Lib.hid hb
    clear hb big
    go_wp2_with fail
    go_ret
    exact ⟨rfl, HB.out⟩
  have P80 : Hid (n1 ≤ 80 ∧ n2 ≤ 80) := Lib.hid (by omega)
  have g1' : decide (80 < (n1 : Int)) = false := decide_eq_false (by omega)
  have g2' : decide (80 < (n2 : Int)) = false := decide_eq_false (by omega)
  obtain ⟨bl, hbl⟩ : ∃ q, q = blU l1 := ⟨_, rfl⟩
  have HBL := Lib.hid hbl
  have HB80 : Hid (Bl bl) := Lib.hid (by rw [hbl]; exact blU_bl (by rw [← HN1.out]; omega))
  have HBN : Hid (bl.length = n1) := Lib.hid (by rw [hbl, blU_len, HN1.out])
  go_enter Try.func4, Try.ntmps4
  go_wp2_with fail
  clear big g1 g2 hbl g1' g2'
  refine (snew_any _).mono ?_
  rintro e w3 ⟨g, F, rfl, q1, hb3, q3⟩
  have OI : Hid (One w w3 g PS.new) := Lib.hid ⟨F, q1, q3, hb3⟩
  clear q1 hb3 q3
  go_wp2_with fail
  go_loopw [31] (fun vi wr => ∃ (i : Nat) (s : PS), vi = .int .i64 i ∧ i ≤ n1 ∧ Hid (∃ nf, DJ bl nf i (fun _ => true) s) ∧ Hid (s.sz ≤ 4 * i) ∧ Hid (One w wr g s)) (fun vi _ => n1 - (intOf vi).toNat)
  case atStart => exact ⟨0, _, rfl, Nat.zero_le _, Lib.hid ⟨_, DJ.new bl⟩, Lib.hid (Nat.le_refl _), OI⟩
  case round =>
    clear OI
    obtain ⟨i, s, rfl, hin, HD, HZ, OI⟩ := hrel
    by_cases hlt : i < n1
    · obtain ⟨b1, o1, rfl, hb1, hc1⟩ := H1.out.at i (by rw [← HN1.out]; exact hlt)
      have hc1' := (OI.out.below.cell (p := ⟨b1, o1 + i, none⟩) hb1).trans hc1
      obtain ⟨b, hb⟩ : ∃ q : Nat, q = (l1[i]'(by rw [← HN1.out]; exact hlt)).toNat := ⟨_, rfl⟩
      have hd1 : wr.cell? ⟨b1, o1 + i, none⟩ = some (.int .u8 (b : Int)) := by rw [hc1', hb]; rfl
      have hb256 : b < 256 := by rw [hb]; exact UInt8.toNat_lt _
      have HBB : Hid (bbD bl i = (b : Int)) := Lib.hid (by rw [HBL.out, blU_at (by rw [← HN1.out]; exact hlt), hb])
      have HJL := Lib.hid hlt
      clear hc1 hc1' hb
      obtain ⟨s2, hs2⟩ : ∃ q, q = s.dadd (b : Int) [(b : Int), (i : Int)] := ⟨_, rfl⟩
      have HADD : Hid ((∀ r ∈ rowsT (underP s.t (keyF 26 [(b : Int)])), 0 ≤ r.1.2 ∧ r.1.2 < 1000000000000) ∧ getI (getP (s.dput (b : Int) (daddN s (b : Int)) [(b : Int), (i : Int)]).t) (keyF 27 []) < 1000000000000 ∧ ∃ nf, DJ bl nf (i + 1) (fun _ => true) s2) := Lib.hid (by
        obtain ⟨nf, hd⟩ := HD.out
        have h9 := hd.add HB80.out (by rw [HBN.out]; exact HJL.out)
        rw [HBB.out, ← hs2] at h9
        exact h9)
      have HOK : Hid (Fit s ∧ ∀ b, TabOk (underP s.t b)) := Lib.hid (by
        obtain ⟨nf, hd⟩ := HD.out
        exact hd.ok HB80.out (by rw [HBN.out]; exact hin) (by have := HZ.out; have := P80.out.1; omega))
      have HZ2 : Hid (s2.sz ≤ 4 * (i + 1)) := Lib.hid (by
        have h1 := HZ.out
        have h2 := sz_setRow s (keyF 26 [(b : Int), daddN s (b : Int)]) [(b : Int), (i : Int)]
        have h3 := sz_setInt (s.dput (b : Int) (daddN s (b : Int)) [(b : Int), (i : Int)]) (keyF 27 []) (getI (getP (s.dput (b : Int) (daddN s (b : Int)) [(b : Int), (i : Int)]).t) (keyF 27 []) + 1)
        have h4 : s2 = (s.dput (b : Int) (daddN s (b : Int)) [(b : Int), (i : Int)]).setInt (keyF 27 []) (getI (getP (s.dput (b : Int) (daddN s (b : Int)) [(b : Int), (i : Int)]).t) (keyF 27 []) + 1) := hs2
        rw [h4]
        unfold PS.dput at h3 ⊢
        omega)
      have HS2 := Lib.hid hs2
      clear hs2 HD
      have hi80 : i ≤ 80 := by have := P80.out.1; omega
      go_wp2_with fail
      clear hd1 hlt hin
      obtain ⟨wa, hwa⟩ : ∃ wq, wq = World.alloc wr (.cells #[.int .i64 (b : Int), .int .i64 (i : Int)] 3) := ⟨_, rfl⟩
      obtain ⟨gi, hgi⟩ : ∃ gi, gi = (World.heap wr).size := ⟨_, rfl⟩
      rw [← hwa, ← hgi]
      have OL : Hid (Own wa 0 3 intE 1 (.slice (some ⟨gi, 0, none⟩) 2 2) [(b : Int), (i : Int)]) := Lib.hid (own_lit (l := [(b : Int), (i : Int)]) (by rw [hwa, hgi]; exact heap_alloc_new _ _) (Nat.zero_le _) (by unfold maxLen; simp))
      have hb : Below (World.heap wr).size wr wa := by rw [hwa]; exact below_new _ _
      clear hwa hgi
      have Om := Lib.hid (OI.out.later hb)
      clear hb OI
      have OI := Om
      clear Om
      refine (OI.out.add fun F hs => dadd_any hs (by have := HZ.out; have := P80.out.1; have := HJL.out; omega) HOK.out.1 (bk := (b : Int)) (by omega) (by omega) (own_rd OL.out) (by simp) (fun x hx => by
        have := P80.out.1; have := HJL.out
        simp only [List.mem_cons, List.not_mem_nil, or_false] at hx
        rcases hx with rfl | rfl <;> omega) (decide_eq_true ⟨by simp, fun x hx => by
        simp only [List.mem_cons, List.not_mem_nil, or_false] at hx
        rcases hx with rfl | rfl <;> omega⟩) rfl (HOK.out.2 _) HADD.out.1 HADD.out.2.1).mono ?_
      rw [← HS2.out]
      rintro e wb ⟨rfl, o⟩
      have Om := Lib.hid o
      clear o OI OL
      have OI := Om
      clear Om
      go_wp2_with fail
      go_roundw
      case rel => exact ⟨i + 1, s2, by go_num, HJL.out, Lib.hid HADD.out.2.2, HZ2, OI⟩
      case measure => have := HJL.out; simp [intOf]; omega
    · obtain rfl : n1 = i := by omega
      clear hlt hin
      have HDN : Hid (DN bl (upTo 0 0) s) := Lib.hid (by
        obtain ⟨nf, hd⟩ := HD.out
        rw [← HBN.out] at hd
        exact hd.all HB80.out)
      have HTK : Hid (0 + leftN bl (upTo 0 0) = n1) := Lib.hid (by
        have := left_all HB80.out
        rw [show upTo 0 0 = -1 from rfl, this, HBN.out]; omega)
      have HZ2 : Hid (s.sz ≤ 400 + 300 * 0) := Lib.hid (by have := HZ.out; have := P80.out.1; omega)
      clear HD HZ
      go_wp2_with fail
      go_loopw [8, 9, 48] (fun vn vt vi wr => ∃ (i nw tk : Nat) (s : PS), vn = .int .i64 nw ∧ vt = .int .i64 tk ∧ vi = .int .i64 i ∧ i ≤ n2 ∧ nw ≤ 256 * i ∧ Hid (DN bl (upTo i nw) s) ∧ Hid (tk + leftN bl (upTo i nw) = n1) ∧ Hid (s.sz ≤ 400 + 300 * i) ∧ Hid (One w wr g s)) (fun _ _ vi _ => n2 - (intOf vi).toNat)
      case atStart => exact ⟨0, 0, 0, s, rfl, rfl, rfl, Nat.zero_le _, by omega, HDN, HTK, HZ2, OI⟩
      case round =>
        clear OI HDN HTK HZ2
        obtain ⟨k, nw, tk, s, rfl, rfl, rfl, hkn, hnw, HD, HT, HZ, OI⟩ := hrel
        by_cases hlt : k < n2
        · obtain ⟨b2, o2, rfl, hb2, hc2⟩ := H2.out.at k (by rw [← HN2.out]; exact hlt)
          have hc2' := (OI.out.below.cell (p := ⟨b2, o2 + k, none⟩) hb2).trans hc2
          obtain ⟨c, hc⟩ : ∃ q : Nat, q = (l2[k]'(by rw [← HN2.out]; exact hlt)).toNat := ⟨_, rfl⟩
          have hd2 : wr.cell? ⟨b2, o2 + k, none⟩ = some (.int .u8 (c : Int)) := by rw [hc2', hc]; rfl
          have hc256 : c < 256 := by rw [hc]; exact UInt8.toNat_lt _
          have HJL := Lib.hid hlt
          obtain ⟨now, hnow⟩ : ∃ q, q = nw + c := ⟨_, rfl⟩
          have qn : (nw : Int) + (c : Int) = (now : Int) := by omega
          have hnb : now ≤ 20736 := by have := P80.out.2; omega
          have HNOW : Hid (now ≤ 256 * (k + 1)) := Lib.hid (by omega)
          obtain ⟨s2, hs2⟩ : ∃ q, q = takeS s (takeL (now : Int) (rowsT (underP s.t (keyF 26 [])))) := ⟨_, rfl⟩
          have hle : upTo k nw ≤ (now : Int) := by unfold upTo; split <;> omega
          obtain ⟨t1, A, t2, t3, t4, t5⟩ := HD.out.take HB80.out hle
          rw [← hs2] at t4 t5
          have HOK : Hid (Fit s ∧ ∀ b, TabOk (underP s.t b)) := Lib.hid (HD.out.ok HB80.out (by have := HZ.out; have := P80.out.2; omega))
          have T1 := Lib.hid t1; have T2 := Lib.hid t2; have T3 := Lib.hid t3; have T4 := Lib.hid t4
          have HZ2 : Hid (s2.sz ≤ 400 + 300 * (k + 1)) := Lib.hid (by have := HZ.out; omega)
          have HTL : Hid ((underP s.t (keyF 26 [])).length < 1000000000) := Lib.hid (by
            refine Nat.lt_of_le_of_lt (List.length_filter_le _ _) ?_
            have := HZ.out; have := P80.out.2
            unfold PS.sz at this
            have h9 : s.t.length ≤ s.sz := Nat.le_add_right _ _
            omega)
          have HS2 := Lib.hid hs2
          have HAL : Hid (A.length ≤ 80) := Lib.hid (by have h8 := t3.len; have h9 := HT.out; have := P80.out.1; omega)
          clear hc2 hc2' hc hnow hle t1 t2 t3 t4 t5 hs2 hnw
          have hk80 : k ≤ 80 := by have := P80.out.2; omega
          go_wp2_with fail
          clear hd2 hlt hkn qn
          refine (OI.out.take fun F hs => dtake_any hs (by have := HZ.out; have := P80.out.2; have := HJL.out; omega) HOK.out.1 rfl (HOK.out.2 _) HTL.out T1.out (now : Int)).mono ?_
          rw [T2.out, ← HS2.out]
          rintro e w4 ⟨v, rfl, rv, o⟩
          obtain ⟨xs, r1, r2, r3⟩ := rv.rd
          have HX2 : Hid (xs.map (·.2) = A.map (fun j => [bbD bl j, (j : Int)])) := Lib.hid r2
          have HXL : Hid (xs.length = A.length) := Lib.hid (by have := congrArg List.length r2; simpa using this)
          obtain ⟨ad, cap, rfl, c3, c3'⟩ := r1.shape
          obtain ⟨na, hna⟩ : ∃ q, q = A.length := ⟨_, rfl⟩
          have hl9 : (xs.map (·.1)).length = na := by rw [List.length_map, HXL.out, hna]
          rw [hl9] at r1 c3 ⊢
          have HNA := Lib.hid hna
          have hna80 : na ≤ 80 := by rw [hna]; exact HAL.out
          have HR1 : Hid (Rd w4 vE 1 (.slice ad na cap) (xs.map (·.1))) := Lib.hid r1
          have HR3 : Hid (∀ x ∈ xs, Rd w4 intE 1 x.1 x.2) := Lib.hid r3
          have Om := Lib.hid o
          clear o rv r1 r2 r3 OI hna hl9
          have OI := Om
          clear Om
          go_wp2_with fail
          go_loopw [9, 12, 13, 60] (fun vt vb va vj wr => ∃ (j : Nat) (tj : Nat) (lb la : Int), vt = .int .i64 tj ∧ vb = .int .i64 lb ∧ va = .int .i64 la ∧ vj = .int .i64 j ∧ j ≤ na ∧ Hid (tj = tk + j) ∧ Hid (LastR bl A j lb la) ∧ Hid (One w wr g s2) ∧ Hid (Rd wr vE 1 (.slice ad na cap) (xs.map (·.1))) ∧ Hid (∀ x ∈ xs, Rd wr intE 1 x.1 x.2)) (fun _ _ _ vj _ => na - (intOf vj).toNat)
          case atStart => exact ⟨0, tk, -1, -1, rfl, rfl, rfl, rfl, Nat.zero_le _, Lib.hid rfl, Lib.hid (.inl ⟨rfl, rfl, rfl⟩), OI, HR1, HR3⟩
          case round =>
            clear OI HR1 HR3
            obtain ⟨j, tj, lb, la, rfl, rfl, rfl, rfl, hjn, HTJ, HLR, OI, HR1, HR3⟩ := hrel
            by_cases hj : j < na
            · have hjA : j < A.length := by rw [← HNA.out]; exact hj
              have hjx : j < xs.length := by rw [HXL.out]; exact hjA
              obtain ⟨a, ha⟩ : ∃ q : Nat, q = A[j] := ⟨_, rfl⟩
              have hxa : xs[j].2 = [bbD bl a, (a : Int)] := by
                have h9 := congrArg (fun q => q[j]?) HX2.out
                simp only [List.getElem?_map, List.getElem?_eq_getElem hjx, List.getElem?_eq_getElem hjA, Option.map_some, Option.some.injEq] at h9
                rw [h9, ha]
              obtain ⟨xv, hxv⟩ : ∃ q, q = xs[j].1 := ⟨_, rfl⟩
              obtain ⟨p1, u1, rfl, hp1, hcv⟩ := HR1.out.at j (by rw [List.length_map]; exact hjx)
              have hcv' : wr.cell? ⟨p1, u1 + j, none⟩ = some xv := by rw [hcv, List.getElem_map, ← hxv]; rfl
              have hrx := HR3.out xs[j] (List.getElem_mem hjx)
              rw [hxa, ← hxv] at hrx
              obtain ⟨px, cx, ex, cx1, cx2⟩ := hrx.shape
              rw [show [bbD bl a, (a : Int)].length = 2 from rfl] at ex cx1
              subst ex
              obtain ⟨pb, po, rfl, hpb, hx0⟩ := hrx.at 0 (by simp)
              obtain ⟨_, _, e9, _, hx1⟩ := hrx.at 1 (by simp)
              cases e9
              obtain ⟨b, hbn⟩ : ∃ q : Nat, (q : Int) = bbD bl a := ⟨(bbD bl a).toNat, by have := (HB80.out.bb a).1; omega⟩
              have hin := T3.out.inn a (by rw [ha]; exact List.getElem_mem hjA)
              have hnx := HLR.out.next T3.out HB80.out hjA
              rw [← ha, ← hbn] at hnx
              rw [← hbn] at hin
              have k0 : wr.cell? ⟨pb, po, none⟩ = some (.int .i64 (b : Int)) := by rw [hbn]; simpa [intE] using hx0
              have k1 : wr.cell? ⟨pb, po + 1, none⟩ = some (.int .i64 (a : Int)) := by simpa [intE] using hx1
              have haN : a < n1 := by rw [← HBN.out]; exact hin.1
              obtain ⟨b1, o1, rfl, hb1, hc1⟩ := H1.out.at a (by rw [← HN1.out]; exact haN)
              have hc1' := (OI.out.below.cell (p := ⟨b1, o1 + a, none⟩) hb1).trans hc1
              have hbl9 := blU_at (l := l1) (i := a) (by rw [← HN1.out]; exact haN)
              rw [← HBL.out, ← hbn] at hbl9
              have k2 : wr.cell? ⟨b1, o1 + a, none⟩ = some (.int .u8 (b : Int)) := by
                rw [hc1', hbl9]; rfl
              have HTJ2 : Hid (tj + 1 = tk + (j + 1)) := Lib.hid (by have := HTJ.out; omega)
              have HLR2 : Hid (LastR bl A (j + 1) (b : Int) (a : Int)) := Lib.hid hnx.2.2
              have HJJ := Lib.hid hj
              have q1 : ¬ now < b := by have := hin.2; omega
              have q1' : decide (now < b) = false := decide_eq_false q1
              have q2 : ¬ (b : Int) < lb := by have := hnx.1; omega
              have q2' : decide ((b : Int) < lb) = false := decide_eq_false q2
              have q4 : ¬ (a : Int) < 0 := by omega
              have q4' : decide ((a : Int) < 0) = false := decide_eq_false q4
              have q5 : ¬ n1 ≤ a := by omega
              have q5' : decide (n1 ≤ a) = false := decide_eq_false q5
              have q6 : a < n1 := by omega
              have q7 : b < 256 := by have := (HB80.out.bb a).2; omega
              have q8 : tj ≤ 1000 := by have h1 := HTJ.out; have h2 := HT.out; have := P80.out.1; omega
              have q3 : (b : Int) = lb → la < (a : Int) := hnx.2.1
              clear hxa hcv hrx hx0 hx1 hc1 hc1' hbl9 hnx hin ha hxv hbn hjA hjx HTJ HLR hj hjn haN
              by_cases heq : (b : Int) = lb
              · have q3' := q3 heq
                have e1 : ((b : Int) == lb) = true := by simpa using heq
                have e2 : decide ((a : Int) ≤ la) = false := decide_eq_false (by omega)
                have e3 : ¬ (a : Int) ≤ la := by omega
                clear q3 heq
                go_wp2_with fail
                go_quiet (fail)
                go_wp2_with fail
                clear k2 hb1
                obtain ⟨wq, hwq⟩ : ∃ q, q = World.drewN wr nq := ⟨_, rfl⟩
                have hbq : Below (World.heap wr).size wr wq := by rw [hwq]; exact below_drewN (Below.refl _ _) _
                rw [← hwq]
                have OIm := Lib.hid (OI.out.later hbq); have HR1m := Lib.hid (HR1.out.later hbq); have HR3m : Hid (∀ x ∈ xs, Rd wq intE 1 x.1 x.2) := Lib.hid (fun x hx => (HR3.out x hx).later hbq)
                have k0m := (hbq.cell (p := ⟨pb, po, none⟩) hpb).trans k0
                have k1m := (hbq.cell (p := ⟨pb, po + 1, none⟩) hpb).trans k1
                have hpbm : pb < (World.heap wq).size := Nat.lt_of_lt_of_le hpb hbq.size
                clear hbq hwq OI HR1 HR3 k0 k1 hpb
                have OI := OIm; have HR1 := HR1m; have HR3 := HR3m; have k0 := k0m; have k1 := k1m; have hpb := hpbm
                clear OIm HR1m HR3m k0m k1m hpbm
                go_quiet (fail)
                go_wp2_with fail
                obtain ⟨wy, hwq⟩ : ∃ q, q = World.drewN wq nq := ⟨_, rfl⟩
                have hbq : Below (World.heap wq).size wq wy := by rw [hwq]; exact below_drewN (Below.refl _ _) _
                rw [← hwq]
                have OIm := Lib.hid (OI.out.later hbq); have HR1m := Lib.hid (HR1.out.later hbq); have HR3m : Hid (∀ x ∈ xs, Rd wy intE 1 x.1 x.2) := Lib.hid (fun x hx => (HR3.out x hx).later hbq)
                have k0m := (hbq.cell (p := ⟨pb, po, none⟩) hpb).trans k0
                have k1m := (hbq.cell (p := ⟨pb, po + 1, none⟩) hpb).trans k1
                have hpbm : pb < (World.heap wy).size := Nat.lt_of_lt_of_le hpb hbq.size
                clear hbq hwq OI HR1 HR3 k0 k1 hpb
                have OI := OIm; have HR1 := HR1m; have HR3 := HR3m; have k0 := k0m; have k1 := k1m; have hpb := hpbm
                clear OIm HR1m HR3m k0m k1m hpbm
                go_roundw
                case rel => exact ⟨j + 1, tj + 1, (b : Int), (a : Int), by first | rfl | go_num, rfl, rfl, by go_num, by have := HJJ.out; omega, HTJ2, HLR2, OI, HR1, HR3⟩
                case measure => have := HJJ.out; simp [intOf]; omega
              · have e1 : ((b : Int) == lb) = false := by simpa using heq
                clear q3 heq
                go_wp2_with fail
                go_quiet (fail)
                go_wp2_with fail
                clear k2 hb1
                obtain ⟨wq, hwq⟩ : ∃ q, q = World.drewN wr nq := ⟨_, rfl⟩
                have hbq : Below (World.heap wr).size wr wq := by rw [hwq]; exact below_drewN (Below.refl _ _) _
                rw [← hwq]
                have OIm := Lib.hid (OI.out.later hbq); have HR1m := Lib.hid (HR1.out.later hbq); have HR3m : Hid (∀ x ∈ xs, Rd wq intE 1 x.1 x.2) := Lib.hid (fun x hx => (HR3.out x hx).later hbq)
                have k0m := (hbq.cell (p := ⟨pb, po, none⟩) hpb).trans k0
                have k1m := (hbq.cell (p := ⟨pb, po + 1, none⟩) hpb).trans k1
                have hpbm : pb < (World.heap wq).size := Nat.lt_of_lt_of_le hpb hbq.size
                clear hbq hwq OI HR1 HR3 k0 k1 hpb
                have OI := OIm; have HR1 := HR1m; have HR3 := HR3m; have k0 := k0m; have k1 := k1m; have hpb := hpbm
                clear OIm HR1m HR3m k0m k1m hpbm
                go_quiet (fail)
                go_wp2_with fail
                obtain ⟨wy, hwq⟩ : ∃ q, q = World.drewN wq nq := ⟨_, rfl⟩
                have hbq : Below (World.heap wq).size wq wy := by rw [hwq]; exact below_drewN (Below.refl _ _) _
                rw [← hwq]
                have OIm := Lib.hid (OI.out.later hbq); have HR1m := Lib.hid (HR1.out.later hbq); have HR3m : Hid (∀ x ∈ xs, Rd wy intE 1 x.1 x.2) := Lib.hid (fun x hx => (HR3.out x hx).later hbq)
                have k0m := (hbq.cell (p := ⟨pb, po, none⟩) hpb).trans k0
                have k1m := (hbq.cell (p := ⟨pb, po + 1, none⟩) hpb).trans k1
                have hpbm : pb < (World.heap wy).size := Nat.lt_of_lt_of_le hpb hbq.size
                clear hbq hwq OI HR1 HR3 k0 k1 hpb
                have OI := OIm; have HR1 := HR1m; have HR3 := HR3m; have k0 := k0m; have k1 := k1m; have hpb := hpbm
                clear OIm HR1m HR3m k0m k1m hpbm
                go_roundw
                case rel => exact ⟨j + 1, tj + 1, (b : Int), (a : Int), by first | rfl | go_num, rfl, rfl, by go_num, by have := HJJ.out; omega, HTJ2, HLR2, OI, HR1, HR3⟩
                case measure => have := HJJ.out; simp [intOf]; omega
            · obtain rfl : j = na := by omega
              have HTT : Hid (tj + leftN bl (upTo (k + 1) now) = n1) := Lib.hid (by
                have h1 := HTJ.out; have h2 := HT.out; have h3 := T3.out.len; have h4 := HNA.out
                rw [show upTo (k + 1) (now : Int) = (now : Int) from rfl]
                omega)
              clear hj hjn HR1 HR3 HT HTJ HLR
              go_wp2_with fail
              go_roundw
              case rel => exact ⟨k + 1, now, tj, s2, rfl, rfl, by go_num, HJL.out, HNOW.out, T4, HTT, HZ2, OI⟩
              case measure => have := HJL.out; simp [intOf]; omega
        · obtain rfl : k = n2 := by omega
          have HNW : Hid (nw ≤ 256 * k) := Lib.hid hnw
          clear hlt hkn hnw
          go_wp2_with fail
          clear HNW
          go_loopw [16, 134] (fun vw vi wq => ∃ i wn : Nat, vw = .int .i64 wn ∧ vi = .int .i64 i ∧ i ≤ n1 ∧ wn ≤ i ∧ Hid (wn = wantN bl (decide (0 < k)) nw i) ∧ Hid (One w wq g s)) (fun _ vi _ => n1 - (intOf vi).toNat)
          case atStart => exact ⟨0, 0, rfl, rfl, Nat.zero_le _, Nat.le_refl _, Lib.hid rfl, OI⟩
          case round =>
            clear OI
            obtain ⟨i, wn, rfl, rfl, hin, hwi, HW, OI⟩ := hrel
            by_cases hlt : i < n1
            · obtain ⟨b1, o1, rfl, hb1, hc1⟩ := H1.out.at i (by rw [← HN1.out]; exact hlt)
              have hc1' := (OI.out.below.cell (p := ⟨b1, o1 + i, none⟩) hb1).trans hc1
              obtain ⟨b, hb⟩ : ∃ q : Nat, q = (l1[i]'(by rw [← HN1.out]; exact hlt)).toNat := ⟨_, rfl⟩
              have hd1 : wr.cell? ⟨b1, o1 + i, none⟩ = some (.int .u8 (b : Int)) := by rw [hc1', hb]; rfl
              have hb256 : b < 256 := by rw [hb]; exact UInt8.toNat_lt _
              have HBB : Hid (bbD bl i = (b : Int)) := Lib.hid (by rw [HBL.out, blU_at (by rw [← HN1.out]; exact hlt), hb])
              have HJL := Lib.hid hlt
              have HWS : Hid (wantN bl (decide (0 < k)) nw (i + 1) = wn + (if (decide (0 < k) && decide ((b : Int) ≤ (nw : Int))) = true then 1 else 0)) := Lib.hid (by
                rw [want_succ (by rw [HBN.out]; exact hlt), HW.out, HBB.out])
              have hi80 : i ≤ 80 := by have := P80.out.1; omega
              have HWI := Lib.hid hwi
              clear hc1 hc1' hb HW
              by_cases hk0 : 0 < k
              · by_cases hbn : b ≤ nw
                · have HW2 : Hid (wn + 1 = wantN bl (decide (0 < k)) nw (i + 1)) := Lib.hid (by rw [HWS.out, decide_eq_true hk0, decide_eq_true (by omega)]; rfl)
                  have k1 : decide (0 < k) = true := decide_eq_true hk0
                  have k2 : decide (b ≤ nw) = true := decide_eq_true hbn
                  clear HWS hlt hin
                  go_wp2_with fail
                  go_roundw
                  case rel => exact ⟨i + 1, wn + 1, by first | rfl | go_num, by go_num, HJL.out, by have := HWI.out; omega, HW2, OI⟩
                  case measure => have := HJL.out; simp [intOf]; omega
                · have HW2 : Hid (wn = wantN bl (decide (0 < k)) nw (i + 1)) := Lib.hid (by rw [HWS.out, decide_eq_true hk0, decide_eq_false (by omega)]; rfl)
                  have k1 : decide (0 < k) = true := decide_eq_true hk0
                  have k2 : decide (b ≤ nw) = false := decide_eq_false hbn
                  clear HWS hlt hin
                  go_wp2_with fail
                  go_roundw
                  case rel => exact ⟨i + 1, wn, rfl, by go_num, HJL.out, by have := HWI.out; omega, HW2, OI⟩
                  case measure => have := HJL.out; simp [intOf]; omega
              · have HW2 : Hid (wn = wantN bl (decide (0 < k)) nw (i + 1)) := Lib.hid (by rw [HWS.out, decide_eq_false hk0]; rfl)
                have k1 : decide (0 < k) = false := decide_eq_false hk0
                clear HWS hlt hin
                go_wp2_with fail
                go_roundw
                case rel => exact ⟨i + 1, wn, rfl, by go_num, HJL.out, by have := HWI.out; omega, HW2, OI⟩
                case measure => have := HJL.out; simp [intOf]; omega
            · have hin1 : i = n1 := by omega
              have hwl := want_left HB80.out (i := k) (now := (nw : Int))
              have hw9 := HW.out
              have ht9 := HT.out
              rw [hin1] at hw9
              rw [HBN.out] at hwl
              obtain ⟨lf, hlf⟩ : ∃ q, q = leftN bl (upTo k nw) := ⟨_, rfl⟩
              rw [← hlf] at hwl ht9
              rw [← hw9] at hwl
              have hwt : wn = tk := by omega
              subst hwt
              have HGI : Hid (getI (getP s.t) (keyF 27 []) = (lf : Int)) := Lib.hid (by rw [HD.out.len, hlf])
              have HFT : Hid (Fit s) := Lib.hid (HD.out.ok HB80.out (by have := HZ.out; have := P80.out.2; omega)).1
              have qlf : (n1 : Int) - (wn : Int) = (lf : Int) := by omega
              have hn80 : n1 ≤ 80 := P80.out.1
              clear hw9 ht9 hwl hlf HW HT HD HZ hwi hin
              go_wp2_with fail
              obtain ⟨F9, hF9⟩ := OI.out.get
              have hL9 := dlen_any (Look.of_st hF9) HFT.out.f
              rw [HGI.out] at hL9
              refine hL9.mono ?_
              rintro e w8 ⟨rfl, hb⟩
              have Om := Lib.hid (OI.out.later hb)
              clear hb OI hF9 hL9
              have OI := Om
              clear Om
              go_wp2_with fail
              refine (lives13_any _).mono ?_
              rintro e w9 ⟨rfl, hb⟩
              have HB := Lib.hid (OI.out.below.trans (hb.mono OI.out.below.size))
              clear hb OI
              go_wp2_with fail
              go_ret
              exact ⟨rfl, HB.out⟩
end Go.Proofs.Ythnjakomkdlglaa
