/- Under of the document's store: no condition. -/
import Derived.Test.YthnjakomkdlglaaRstD
namespace Go.Proofs.Ythnjakomkdlglaa
open Go.RowKit

theorem Try.zeroPairE (w : World) : (zeroValue 99).run Try.prog w = .ok (.agg #[.string (bs []), .string (bs [])]) w := by kernel_rfl
theorem prefix_take (a b : Txt) : ((bs (a.take b.length)).toList == (bs b).toList) = b.isPrefixOf a := by
  rw [toList_bs, toList_bs, Bool.eq_iff_iff, beq_iff_eq, List.isPrefixOf_iff_prefix, List.prefix_iff_eq_take]
  exact ⟨fun h => h.symm, fun h => h.symm⟩
theorem under_take {t : Tab} {b : Txt} {i : Nat} (hi : i < t.length) : underP (t.take (i + 1)) b = underP (t.take i) b ++ (if b.isPrefixOf t[i].1 then [t[i]] else []) := by
  rw [List.take_succ_eq_append_getElem hi, under_append]
  congr 1
  unfold underP
  rw [List.filter_cons]
  rfl

set_option maxHeartbeats 8000000 in
set_option maxRecDepth 100000 in
theorem runder_any {w : World} {g : Nat} {s : PS} {F : List Nat} (h : RS w g s F) (htl : s.t.length < 1099511627776) (b : Txt) :
    Calls Try.prog 85 #[.pointer (some ⟨g, 0, none⟩), .string (bs b)] w (CloneRet w 99 pairE 2 (underP s.t b)) := by
  obtain ⟨vL, vP, h, _⟩ := h
  obtain ⟨ad, cap, hvL, h1, h2⟩ := h.list.shape
  obtain ⟨n, hn⟩ : ∃ n, n = s.t.length := ⟨_, rfl⟩
  have HTL := Lib.hid htl
  rw [← hn] at hvL h1 htl
  subst hvL
  have c0 : w.cell? ⟨g, 0, none⟩ = some (.slice ad n cap) := Lib.cell_of_heap h.head 0
  have H := Lib.hid h; have HN := Lib.hid hn
  obtain ⟨m, hm⟩ : ∃ m, m = b.length := ⟨_, rfl⟩
  have hb : (bs b).size = m := by rw [bs_size, hm]
  have HM := Lib.hid hm
  clear h hn hm
  go_enter Try.func85, Try.ntmps85
  go_wp2_with fail
  go_loopw [5, 7, 13] (fun vo _ vi wr => ∃ (i : Nat), vi = .int .i64 i ∧ i ≤ n ∧ Hid (LO wr 99 pairE 2 vo (underP (s.t.take i) b)) ∧ Hid (Below w.heap.size w wr) ∧ Hid (∀ k, vo.ownBlock = some k → w.heap.size ≤ k)) (fun _ _ vi _ => n - (intOf vi).toNat)
  case atStart => exact ⟨0, rfl, Nat.zero_le _, Lib.hid (LO.nil _ _ _ _), Lib.hid (Below.refl _ _), Lib.hid fun k e => by cases e⟩
  case round =>
    obtain ⟨i, rfl, hin, LOO, BW, OW⟩ := hrel
    by_cases hlt : i < n
    · have hi : i < s.t.length := by rw [← HN.out]; exact hlt
      obtain ⟨gL, hadL, hgL, q0, q1⟩ := H.out.list.pair i hi
      subst hadL
      have q0' := (BW.out.cell (p := ⟨gL, i * 2, none⟩) hgL).trans q0
      have q1' := (BW.out.cell (p := ⟨gL, i * 2 + 1, none⟩) hgL).trans q1
      have hut := under_take (b := b) hi
      obtain ⟨x, hx⟩ : ∃ x, x = s.t[i] := ⟨_, rfl⟩
      rw [← hx] at q0' q1' hut
      obtain ⟨k, v⟩ := x
      simp only at q0' q1' hut
      obtain ⟨nk, hnk⟩ : ∃ nk, nk = k.length := ⟨_, rfl⟩
      have ha : (bs k).size = nk := by rw [bs_size, hnk]
      have hle : (underP (s.t.take i) b).length ≤ s.t.length := by
        have h9 : (underP (s.t.take i) b).length ≤ (s.t.take i).length := List.length_filter_le _ _
        rw [List.length_take] at h9; omega
      have HUT := Lib.hid hut; have HNK := Lib.hid hnk; have HLE := Lib.hid hle; have HLT := Lib.hid hlt
      clear hx q0 q1 hgL hut hnk hi hle
      go_wp2_with (refine wpList_alloc_g rfl _ rfl _ _ Try.zeroPairE rfl ?_)
      intro R w1 h1
      go_wp2_with (refine wpList_store_row_g (t := 99) (old := #[.string (bs []), .string (bs [])]) rfl 99 _ _ rfl R #[.string (bs k), .string (bs v)] rfl rfl h1.out.cells Try.sizePair rfl (by simp [Value.oneCell']) ?_)
      intro w2 h2' k12 z12
      have hb12 : Below wr.heap.size wr w2 := h1.out.below.trans (k12.below (B := wr.heap.size) (fun x hx e => by have := h1.out.eq; omega) h1.out.below.size)
      have r0 : w2.cell? ⟨R, 0, none⟩ = some (.string (bs k)) := Lib.cell_of_heap h2' 0
      have r1 : w2.cell? ⟨R, 1, none⟩ = some (.string (bs v)) := Lib.cell_of_heap h2' 1
      have HB12 := Lib.hid hb12
      have hbw2 : Below w.heap.size w w2 := BW.out.trans (hb12.mono BW.out.size)
      have HBW2 := Lib.hid hbw2
      clear h1 h2' k12 z12 hb12 hbw2 q0' q1'
      by_cases hmn : m ≤ nk
      · have hext : (bs k).extract 0 m = bs (k.take m) := by rw [bs_extract]; simp
        have hres : ((bs (k.take m)).toList == (bs b).toList) = b.isPrefixOf k := by rw [HM.out]; exact prefix_take k b
        have hmi : (m : Int) ≤ (nk : Int) := by omega
        cases hpre : b.isPrefixOf k with
        | true =>
          rw [hpre] at hres
          have hu2 : underP (s.t.take (i + 1)) b = underP (s.t.take i) b ++ [(k, v)] := by rw [HUT.out, if_pos hpre]
          have HU2 := Lib.hid hu2
          have hbal : Below w2.heap.size w2 (w2.alloc (.cells #[.string (bs k), .string (bs v)] 99)) := (Below.refl _ _).alloc (Nat.le_refl _) _
          have HBAL := Lib.hid hbal
          clear hbal hu2 hpre
          go_wp2_with (at_builtin; refine lo_app1 (enc := pairE) rfl _ _ 42 42 rfl Try.underlying42 Try.underlying42 Try.infoPair rfl (by decide) pairE_len ((LOO.out.later HB12.out).later HBAL.out) rfl (k, v) (pairE_ones [(k, v)] _ List.mem_cons_self) w2.heap.size #[.string (bs k), .string (bs v)] 99 (heap_alloc_new _ _) rfl rfl (by have := HLE.out; have := HTL.out; unfold maxLen; omega) (by have := HLE.out; have := HTL.out; omega) ?_)
          intro v' w4 s1 s2 s3
          have hb4 : Below w.heap.size w w4 := (HBW2.out.trans (HBAL.out.mono HBW2.out.size)).trans (s2.below (B := w.heap.size) (fun q hq e => by have := OW.out q e; omega) (Nat.le_trans HBW2.out.size HBAL.out.size))
          have ho4 : ∀ k, v'.ownBlock = some k → w.heap.size ≤ k := by
            intro k e
            rcases s3 with h | ⟨q, h, h'⟩
            · exact OW.out k (by rw [← h]; exact e)
            · rw [e] at h; cases h; exact Nat.le_trans (Nat.le_trans HBW2.out.size HBAL.out.size) h'
          rw [← HU2.out] at s1
          have S1 := Lib.hid s1; have HB4 := Lib.hid hb4; have HO4 := Lib.hid ho4
          clear s1 s2 s3 hb4 ho4 r0 r1
          go_wp2_with fail
          go_roundw
          case rel => exact ⟨i + 1, by go_num, Nat.succ_le_of_lt HLT.out, S1, HB4, HO4⟩
          case measure => have hh : i < n := HLT.out; simp [intOf]; omega
        | false =>
          rw [hpre] at hres
          have hu2 : underP (s.t.take (i + 1)) b = underP (s.t.take i) b := by rw [HUT.out, if_neg (by rw [hpre]; simp), List.append_nil]
          have S1 := Lib.hid (hu2 ▸ LOO.out.later HB12.out)
          clear hu2 hpre
          go_wp2_with fail
          go_roundw
          case rel => exact ⟨i + 1, by go_num, Nat.succ_le_of_lt HLT.out, S1, HBW2, OW⟩
          case measure => have hh : i < n := HLT.out; simp [intOf]; omega
      · have hpre : b.isPrefixOf k = false := by
          rw [Bool.eq_false_iff]
          intro h2
          rw [List.isPrefixOf_iff_prefix] at h2
          have h3 := h2.length_le
          rw [← HM.out, ← HNK.out] at h3
          exact hmn h3
        have hu2 : underP (s.t.take (i + 1)) b = underP (s.t.take i) b := by rw [HUT.out, if_neg (by rw [hpre]; simp), List.append_nil]
        have S1 := Lib.hid (hu2 ▸ LOO.out.later HB12.out)
        clear hu2 hpre
        go_wp2_with fail
        go_roundw
        case rel => exact ⟨i + 1, by go_num, Nat.succ_le_of_lt HLT.out, S1, HBW2, OW⟩
        case measure => have hh : i < n := HLT.out; simp [intOf]; omega
    · have h8 := LOO.out
      rw [List.take_of_length_le (by rw [← HN.out]; omega)] at h8
      have HF := Lib.hid h8
      clear h8
      go_wp2_with fail
      go_ret
      exact ⟨_, rfl, HF.out, BW.out, OW.out⟩
end Go.Proofs.Ythnjakomkdlglaa
