/- Same of the document's store: no condition. -/
import Derived.Test.YthnjakomkdlglaaRstF
namespace Go.Proofs.Ythnjakomkdlglaa
open Go.RowKit

theorem Rd.pair {w : World} {ad : Option Addr} {n cap : Nat} {t : Tab} (h : Rd w pairE 2 (.slice ad n cap) t) (i : Nat) (hi : i < t.length) :
    ∃ g off, ad = some ⟨g, off, none⟩ ∧ g < w.heap.size ∧ w.cell? ⟨g, off + i * 2, none⟩ = some (.string (bs t[i].1)) ∧ w.cell? ⟨g, off + i * 2 + 1, none⟩ = some (.string (bs t[i].2)) := by
  have hne : t ≠ [] := by rintro rfl; simp at hi
  obtain ⟨ax, cx, e3, _, _, h3⟩ := h
  obtain ⟨b, off, e4, hb, h5⟩ := h3 hne
  exact ⟨b, off, (Value.slice.inj e3).1.trans e4, hb, h5 i hi 0 (by decide), h5 i hi 1 (by decide)⟩
def SameRet (w : World) (r : Bool) (x : Ending) (w' : World) : Prop := x = .returned (.bool r) ∧ Below w.heap.size w w'
theorem take_step {a b : Tab} {i : Nat} (h : a.take i = b.take i) (ha : i < a.length) (hb : i < b.length) (h1 : a[i].1 = b[i].1) (h2 : a[i].2 = b[i].2) : a.take (i + 1) = b.take (i + 1) := by
  rw [List.take_succ_eq_append_getElem ha, List.take_succ_eq_append_getElem hb, h]
  congr 2
  exact Prod.ext h1 h2

set_option maxHeartbeats 8000000 in
set_option maxRecDepth 100000 in
theorem rsame_any {w : World} {v1 v2 : Value} {a b : Tab} (h1 : Rd w pairE 2 v1 a) (h2 : Rd w pairE 2 v2 b) (hla : a.length < 1099511627776) (hlb : b.length < 1099511627776) :
    Calls Try.prog 22 #[v1, v2] w (SameRet w (decide (a = b))) := by
  obtain ⟨ad1, cap1, e1, l1, l1'⟩ := h1.shape
  obtain ⟨ad2, cap2, e2, l2, l2'⟩ := h2.shape
  obtain ⟨n, hn⟩ : ∃ n, n = a.length := ⟨_, rfl⟩
  obtain ⟨m, hm⟩ : ∃ m, m = b.length := ⟨_, rfl⟩
  rw [← hn] at e1 l1 hla
  rw [← hm] at e2 l2 hlb
  subst e1 e2
  obtain ⟨r, hr⟩ : ∃ r, r = decide (a = b) := ⟨_, rfl⟩
  rw [← hr]
  have H1 := Lib.hid h1; have H2 := Lib.hid h2; have HN := Lib.hid hn; have HM := Lib.hid hm; have HR := Lib.hid hr
  clear h1 h2 hn hm hr
  by_cases hnm : n = m
  · subst hnm
    go_enter Try.func22, Try.ntmps22
    go_wp2_with fail
    go_loopw [5, 13] (fun _ vi wr => ∃ (i : Nat), vi = .int .i64 i ∧ i ≤ n ∧ Hid (a.take i = b.take i) ∧ Hid (Below w.heap.size w wr)) (fun _ vi _ => n - (intOf vi).toNat)
    case atStart => exact ⟨0, rfl, Nat.zero_le _, Lib.hid rfl, Lib.hid (Below.refl _ _)⟩
    case round =>
      obtain ⟨i, rfl, hin, TT, BW⟩ := hrel
      by_cases hlt : i < n
      · have hia : i < a.length := by rw [← HN.out]; exact hlt
        have hib : i < b.length := by rw [← HM.out]; exact hlt
        obtain ⟨g1, o1, rfl, hg1, p0, p1⟩ := Rd.pair H1.out i hia
        obtain ⟨g2, o2, rfl, hg2, q0, q1⟩ := Rd.pair H2.out i hib
        have hstep := take_step TT.out hia hib
        have hneq : a = b → a[i].1 = b[i].1 ∧ a[i].2 = b[i].2 := fun e => by subst e; exact ⟨rfl, rfl⟩
        obtain ⟨x, hx⟩ : ∃ x, x = a[i] := ⟨_, rfl⟩
        obtain ⟨y, hy⟩ : ∃ y, y = b[i] := ⟨_, rfl⟩
        rw [← hx] at p0 p1 hstep hneq
        rw [← hy] at q0 q1 hstep hneq
        have P0 := (BW.out.cell (p := ⟨g1, o1 + i * 2, none⟩) hg1).trans p0
        have P1 := (BW.out.cell (p := ⟨g1, o1 + i * 2 + 1, none⟩) hg1).trans p1
        have Q0 := (BW.out.cell (p := ⟨g2, o2 + i * 2, none⟩) hg2).trans q0
        have Q1 := (BW.out.cell (p := ⟨g2, o2 + i * 2 + 1, none⟩) hg2).trans q1
        have hS : (fun w' : World => w'.cell? ⟨g1, o1 + i * 2, none⟩ = some (.string (bs x.1)) ∧ w'.cell? ⟨g1, o1 + i * 2 + 1, none⟩ = some (.string (bs x.2)) ∧ w'.cell? ⟨g2, o2 + i * 2, none⟩ = some (.string (bs y.1)) ∧ w'.cell? ⟨g2, o2 + i * 2 + 1, none⟩ = some (.string (bs y.2))) wr.drew := ⟨P0, P1, Q0, Q1⟩
        have HS := Lib.hid hS
        have HST := Lib.hid hstep; have HNE := Lib.hid hneq; have HLT := Lib.hid hlt
        have hbd : Below w.heap.size w wr.drew := BW.out.drew
        have HBD := Lib.hid hbd
        have hii : (i : Int) < (n : Int) := by omega
        clear hx hy p0 p1 q0 q1 P0 P1 Q0 Q1 hS hstep hneq hg1 hg2 hia hib hbd
        have hcase : (∃ c1 : x.1 = y.1, x.2 = y.2) ∨ (x.1 ≠ y.1) ∨ (∃ c1 : x.1 = y.1, x.2 ≠ y.2) := by
          by_cases c1 : x.1 = y.1
          · by_cases c2 : x.2 = y.2
            · exact .inl ⟨c1, c2⟩
            · exact .inr (.inr ⟨c1, c2⟩)
          · exact .inr (.inl c1)
        rcases hcase with ⟨c1, c2⟩ | c1 | ⟨c1, c2⟩
        · have g1' : ((bs x.1).toList == (bs y.1).toList) = true := by rw [c1]; simp
          have g2' : ((bs x.2).toList == (bs y.2).toList) = true := by rw [c2]; simp
          have T1 := Lib.hid (HST.out c1 c2)
          clear c1 c2
          go_wp2_with fail
          have hS := HS.out
          refine wp_region_till (fun w' => w'.cell? ⟨g1, o1 + i * 2, none⟩ = some (.string (bs x.1)) ∧ w'.cell? ⟨g1, o1 + i * 2 + 1, none⟩ = some (.string (bs x.2)) ∧ w'.cell? ⟨g2, o2 + i * 2, none⟩ = some (.string (bs y.1)) ∧ w'.cell? ⟨g2, o2 + i * 2 + 1, none⟩ = some (.string (bs y.2))) 9 9 (by kernel_rfl) rfl ?_
          refine till_take 0 (some 16) rfl rfl (by kernel_rfl) (by kernel_rfl) (by kernel_rfl) (by kernel_rfl) (by kernel_rfl) (by kernel_rfl) (fun _ _ _ h => h) (.inl ⟨by rfl, fun w' _ => (by go_simp; rfl)⟩) hS ?_
          go_frame
          refine till_take 1 (some 17) rfl rfl (by kernel_rfl) (by kernel_rfl) (by kernel_rfl) (by kernel_rfl) (by kernel_rfl) (by kernel_rfl) (fun _ _ _ h => h) (.inl ⟨by rfl, fun w' _ => (by go_simp; rfl)⟩) hS ?_
          go_frame
          refine till_take 2 (some 18) rfl rfl (by kernel_rfl) (by kernel_rfl) (by kernel_rfl) (by kernel_rfl) (by kernel_rfl) (by kernel_rfl) (fun _ _ _ h => h) (.inl ⟨by rfl, fun w' _ => (by go_simp; rfl)⟩) hS ?_
          go_frame
          refine till_take 3 (some 19) rfl rfl (by kernel_rfl) (by kernel_rfl) (by kernel_rfl) (by kernel_rfl) (by kernel_rfl) (by kernel_rfl) (fun _ _ _ h => h) (.inl ⟨by rfl, fun w' hS' => (by have hc : w'.cell? ⟨g1, o1 + i * 2, none⟩ = _ := hS'.1; have hc1 : w'.cell? ⟨g1, o1 + i * 2 + 1, none⟩ = _ := hS'.2.1; go_simp; rfl)⟩) hS ?_
          go_frame
          refine till_take 4 (some 20) rfl rfl (by kernel_rfl) (by kernel_rfl) (by kernel_rfl) (by kernel_rfl) (by kernel_rfl) (by kernel_rfl) (fun _ _ _ h => h) (.inl ⟨by rfl, fun w' _ => (by go_simp; rfl)⟩) hS ?_
          go_frame
          refine till_take 5 (some 21) rfl rfl (by kernel_rfl) (by kernel_rfl) (by kernel_rfl) (by kernel_rfl) (by kernel_rfl) (by kernel_rfl) (fun _ _ _ h => h) (.inl ⟨by rfl, fun w' _ => (by go_simp; rfl)⟩) hS ?_
          go_frame
          refine till_take 6 (some 22) rfl rfl (by kernel_rfl) (by kernel_rfl) (by kernel_rfl) (by kernel_rfl) (by kernel_rfl) (by kernel_rfl) (fun _ _ _ h => h) (.inl ⟨by rfl, fun w' _ => (by go_simp; rfl)⟩) hS ?_
          go_frame
          refine till_take 7 (some 23) rfl rfl (by kernel_rfl) (by kernel_rfl) (by kernel_rfl) (by kernel_rfl) (by kernel_rfl) (by kernel_rfl) (fun _ _ _ h => h) (.inl ⟨by rfl, fun w' hS' => (by have hc : w'.cell? ⟨g2, o2 + i * 2, none⟩ = _ := hS'.2.2.1; have hc1 : w'.cell? ⟨g2, o2 + i * 2 + 1, none⟩ = _ := hS'.2.2.2; go_simp; rfl)⟩) hS ?_
          go_frame
          refine till_take 8 (some 24) rfl rfl (by kernel_rfl) (by kernel_rfl) (by kernel_rfl) (by kernel_rfl) (by kernel_rfl) (by kernel_rfl) (fun _ _ _ h => h) (.inl ⟨by rfl, fun w' _ => (by go_simp; rfl)⟩) hS ?_
          go_frame
          clear hS
          refine till_done (by kernel_rfl) ?_ _
          go_wp2_with fail
          go_roundw
          case rel => exact ⟨i + 1, by go_num, Nat.succ_le_of_lt HLT.out, T1, HBD⟩
          case measure => have hh : i < n := HLT.out; simp [intOf]; omega
        · have g1' : ((bs x.1).toList == (bs y.1).toList) = false := by rw [toList_bs, toList_bs, beq_eq_false_iff_ne]; exact c1
          have hr0 : r = false := by rw [HR.out, decide_eq_false_iff_not]; exact fun e => c1 (HNE.out e).1
          clear c1
          subst hr0
          go_wp2_with fail
          have hS := HS.out
          refine wp_region_till (fun w' => w'.cell? ⟨g1, o1 + i * 2, none⟩ = some (.string (bs x.1)) ∧ w'.cell? ⟨g1, o1 + i * 2 + 1, none⟩ = some (.string (bs x.2)) ∧ w'.cell? ⟨g2, o2 + i * 2, none⟩ = some (.string (bs y.1)) ∧ w'.cell? ⟨g2, o2 + i * 2 + 1, none⟩ = some (.string (bs y.2))) 9 9 (by kernel_rfl) rfl ?_
          refine till_take 0 (some 16) rfl rfl (by kernel_rfl) (by kernel_rfl) (by kernel_rfl) (by kernel_rfl) (by kernel_rfl) (by kernel_rfl) (fun _ _ _ h => h) (.inl ⟨by rfl, fun w' _ => (by go_simp; rfl)⟩) hS ?_
          go_frame
          refine till_take 1 (some 17) rfl rfl (by kernel_rfl) (by kernel_rfl) (by kernel_rfl) (by kernel_rfl) (by kernel_rfl) (by kernel_rfl) (fun _ _ _ h => h) (.inl ⟨by rfl, fun w' _ => (by go_simp; rfl)⟩) hS ?_
          go_frame
          refine till_take 2 (some 18) rfl rfl (by kernel_rfl) (by kernel_rfl) (by kernel_rfl) (by kernel_rfl) (by kernel_rfl) (by kernel_rfl) (fun _ _ _ h => h) (.inl ⟨by rfl, fun w' _ => (by go_simp; rfl)⟩) hS ?_
          go_frame
          refine till_take 3 (some 19) rfl rfl (by kernel_rfl) (by kernel_rfl) (by kernel_rfl) (by kernel_rfl) (by kernel_rfl) (by kernel_rfl) (fun _ _ _ h => h) (.inl ⟨by rfl, fun w' hS' => (by have hc : w'.cell? ⟨g1, o1 + i * 2, none⟩ = _ := hS'.1; have hc1 : w'.cell? ⟨g1, o1 + i * 2 + 1, none⟩ = _ := hS'.2.1; go_simp; rfl)⟩) hS ?_
          go_frame
          refine till_take 4 (some 20) rfl rfl (by kernel_rfl) (by kernel_rfl) (by kernel_rfl) (by kernel_rfl) (by kernel_rfl) (by kernel_rfl) (fun _ _ _ h => h) (.inl ⟨by rfl, fun w' _ => (by go_simp; rfl)⟩) hS ?_
          go_frame
          refine till_take 5 (some 21) rfl rfl (by kernel_rfl) (by kernel_rfl) (by kernel_rfl) (by kernel_rfl) (by kernel_rfl) (by kernel_rfl) (fun _ _ _ h => h) (.inl ⟨by rfl, fun w' _ => (by go_simp; rfl)⟩) hS ?_
          go_frame
          refine till_take 6 (some 22) rfl rfl (by kernel_rfl) (by kernel_rfl) (by kernel_rfl) (by kernel_rfl) (by kernel_rfl) (by kernel_rfl) (fun _ _ _ h => h) (.inl ⟨by rfl, fun w' _ => (by go_simp; rfl)⟩) hS ?_
          go_frame
          refine till_take 7 (some 23) rfl rfl (by kernel_rfl) (by kernel_rfl) (by kernel_rfl) (by kernel_rfl) (by kernel_rfl) (by kernel_rfl) (fun _ _ _ h => h) (.inl ⟨by rfl, fun w' hS' => (by have hc : w'.cell? ⟨g2, o2 + i * 2, none⟩ = _ := hS'.2.2.1; have hc1 : w'.cell? ⟨g2, o2 + i * 2 + 1, none⟩ = _ := hS'.2.2.2; go_simp; rfl)⟩) hS ?_
          go_frame
          refine till_take 8 (some 24) rfl rfl (by kernel_rfl) (by kernel_rfl) (by kernel_rfl) (by kernel_rfl) (by kernel_rfl) (by kernel_rfl) (fun _ _ _ h => h) (.inl ⟨by rfl, fun w' _ => (by go_simp; rfl)⟩) hS ?_
          go_frame
          clear hS
          refine till_done (by kernel_rfl) ?_ _
          go_wp2_with fail
          go_ret
          exact ⟨rfl, HBD.out⟩
        · have g1' : ((bs x.1).toList == (bs y.1).toList) = true := by rw [c1]; simp
          have g2' : ((bs x.2).toList == (bs y.2).toList) = false := by rw [toList_bs, toList_bs, beq_eq_false_iff_ne]; exact c2
          have hr0 : r = false := by rw [HR.out, decide_eq_false_iff_not]; exact fun e => c2 (HNE.out e).2
          clear c1 c2
          subst hr0
          go_wp2_with fail
          have hS := HS.out
          refine wp_region_till (fun w' => w'.cell? ⟨g1, o1 + i * 2, none⟩ = some (.string (bs x.1)) ∧ w'.cell? ⟨g1, o1 + i * 2 + 1, none⟩ = some (.string (bs x.2)) ∧ w'.cell? ⟨g2, o2 + i * 2, none⟩ = some (.string (bs y.1)) ∧ w'.cell? ⟨g2, o2 + i * 2 + 1, none⟩ = some (.string (bs y.2))) 9 9 (by kernel_rfl) rfl ?_
          refine till_take 0 (some 16) rfl rfl (by kernel_rfl) (by kernel_rfl) (by kernel_rfl) (by kernel_rfl) (by kernel_rfl) (by kernel_rfl) (fun _ _ _ h => h) (.inl ⟨by rfl, fun w' _ => (by go_simp; rfl)⟩) hS ?_
          go_frame
          refine till_take 1 (some 17) rfl rfl (by kernel_rfl) (by kernel_rfl) (by kernel_rfl) (by kernel_rfl) (by kernel_rfl) (by kernel_rfl) (fun _ _ _ h => h) (.inl ⟨by rfl, fun w' _ => (by go_simp; rfl)⟩) hS ?_
          go_frame
          refine till_take 2 (some 18) rfl rfl (by kernel_rfl) (by kernel_rfl) (by kernel_rfl) (by kernel_rfl) (by kernel_rfl) (by kernel_rfl) (fun _ _ _ h => h) (.inl ⟨by rfl, fun w' _ => (by go_simp; rfl)⟩) hS ?_
          go_frame
          refine till_take 3 (some 19) rfl rfl (by kernel_rfl) (by kernel_rfl) (by kernel_rfl) (by kernel_rfl) (by kernel_rfl) (by kernel_rfl) (fun _ _ _ h => h) (.inl ⟨by rfl, fun w' hS' => (by have hc : w'.cell? ⟨g1, o1 + i * 2, none⟩ = _ := hS'.1; have hc1 : w'.cell? ⟨g1, o1 + i * 2 + 1, none⟩ = _ := hS'.2.1; go_simp; rfl)⟩) hS ?_
          go_frame
          refine till_take 4 (some 20) rfl rfl (by kernel_rfl) (by kernel_rfl) (by kernel_rfl) (by kernel_rfl) (by kernel_rfl) (by kernel_rfl) (fun _ _ _ h => h) (.inl ⟨by rfl, fun w' _ => (by go_simp; rfl)⟩) hS ?_
          go_frame
          refine till_take 5 (some 21) rfl rfl (by kernel_rfl) (by kernel_rfl) (by kernel_rfl) (by kernel_rfl) (by kernel_rfl) (by kernel_rfl) (fun _ _ _ h => h) (.inl ⟨by rfl, fun w' _ => (by go_simp; rfl)⟩) hS ?_
          go_frame
          refine till_take 6 (some 22) rfl rfl (by kernel_rfl) (by kernel_rfl) (by kernel_rfl) (by kernel_rfl) (by kernel_rfl) (by kernel_rfl) (fun _ _ _ h => h) (.inl ⟨by rfl, fun w' _ => (by go_simp; rfl)⟩) hS ?_
          go_frame
          refine till_take 7 (some 23) rfl rfl (by kernel_rfl) (by kernel_rfl) (by kernel_rfl) (by kernel_rfl) (by kernel_rfl) (by kernel_rfl) (fun _ _ _ h => h) (.inl ⟨by rfl, fun w' hS' => (by have hc : w'.cell? ⟨g2, o2 + i * 2, none⟩ = _ := hS'.2.2.1; have hc1 : w'.cell? ⟨g2, o2 + i * 2 + 1, none⟩ = _ := hS'.2.2.2; go_simp; rfl)⟩) hS ?_
          go_frame
          refine till_take 8 (some 24) rfl rfl (by kernel_rfl) (by kernel_rfl) (by kernel_rfl) (by kernel_rfl) (by kernel_rfl) (by kernel_rfl) (fun _ _ _ h => h) (.inl ⟨by rfl, fun w' _ => (by go_simp; rfl)⟩) hS ?_
          go_frame
          clear hS
          refine till_done (by kernel_rfl) ?_ _
          go_wp2_with fail
          go_ret
          exact ⟨rfl, HBD.out⟩
      · have hr1 : r = true := by
          have h8 := TT.out
          rw [List.take_of_length_le (by rw [← HN.out]; omega), List.take_of_length_le (by rw [← HM.out]; omega)] at h8
          rw [HR.out, decide_eq_true_iff]; exact h8
        subst hr1
        go_wp2_with fail
        go_ret
        exact ⟨rfl, BW.out⟩
  · have hr0 : r = false := by
      rw [HR.out, decide_eq_false_iff_not]
      intro e
      apply hnm
      rw [HN.out, HM.out, e]
    subst hr0
    have j0 : ¬ n = m := hnm
    clear hnm
    go_enter Try.func22, Try.ntmps22
    go_wp2_with fail
    go_ret
    exact ⟨rfl, Below.refl _ _⟩
end Go.Proofs.Ythnjakomkdlglaa
