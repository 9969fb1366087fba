/- StoreLast: no condition. -/
import Derived.Test.YtggcmaegmkjedaaLawG
namespace Go.Proofs.Ytggcmaegmkjedaa
open Go.RowKit

theorem getP_set (s : PS) (k v q : Txt) : getP (s.set k v).t q = if k = q ∧ k ≠ [] then some v else getP s.t q := by
  unfold PS.set
  by_cases h : k = [] ∨ getP s.t k = some v
  · rw [if_pos h]
    by_cases h2 : k = q ∧ k ≠ []
    · rw [if_pos h2]
      rcases h with h | h
      · exact absurd h h2.2
      · rw [← h2.1]; exact h
    · rw [if_neg h2]
  · rw [if_neg h]
    have h1 : k ≠ [] := fun e => h (.inl e)
    show getP (layP s.t k v true) q = _
    rw [getP_lay]
    by_cases h2 : k = q
    · have h3 : k = q ∧ k ≠ [] := ⟨h2, h1⟩
      rw [if_pos h2, if_pos h3]; rfl
    · rw [if_neg h2, if_neg fun e => h2 e.1]
theorem getP_sdel (s : PS) (k q : Txt) : getP (s.del k).t q = if k = q then none else getP s.t q := by
  unfold PS.del
  by_cases h : getP s.t k = none
  · rw [if_pos h]
    by_cases h2 : k = q
    · rw [if_pos h2, ← h2]; exact h
    · rw [if_neg h2]
  · rw [if_neg h]
    show getP (layP s.t k [] false) q = _
    rw [getP_lay]; rfl
theorem eq_txt (a b : Txt) : ((bs a).toList == (bs b).toList) = decide (a = b) := by
  rw [toList_bs, toList_bs, Bool.eq_iff_iff, beq_iff_eq, decide_eq_true_iff]

set_option maxHeartbeats 8000000 in
set_option maxRecDepth 100000 in
theorem last_any {w : World} {v1 : Value} {l : List ActP} (key b : Txt) (h1 : Rd w actE 4 v1 l) :
    Calls Try.prog 5 #[v1, .string (bs key), .string (bs b)] w (Ret w (.bool true)) := by
  obtain ⟨ad1, cap1, e1, c1, c1'⟩ := h1.shape
  obtain ⟨n, hn⟩ : ∃ n, n = l.length := ⟨_, rfl⟩
  obtain ⟨mb, hmb⟩ : ∃ mb, mb = b.length := ⟨_, rfl⟩
  have hbz : (bs b).size = mb := by rw [bs_size, hmb]
  rw [← hn] at e1 c1
  subst e1
  have H1 := Lib.hid h1; have HN := Lib.hid hn; have HMB := Lib.hid hmb
  clear h1 hn hmb
  go_enter Try.func5, Try.ntmps5
  go_wp2_with fail
  refine (light_any H1.out).mono ?_
  rintro e w1 ⟨r, rfl, hr, hb⟩
  cases r with
  | false =>
    have HB := Lib.hid hb
    clear hr hb
    go_wp2_with fail
    refine (lives_any _).mono ?_
    rintro e w2 ⟨rfl, hb2⟩
    have HB2 := Lib.hid (HB.out.trans (hb2.mono HB.out.size))
    clear hb2
    go_wp2_with fail
    go_ret
    exact ⟨rfl, HB2.out⟩
  | true =>
  have hl := hr rfl
  rw [← HN.out] at hl
  have HL := Lib.hid hl; have HB := Lib.hid hb
  clear hr hb hl
  go_wp2_with fail
  refine (snew_any _).mono ?_
  rintro e w3 ⟨g, F, rfl, q1, hb3, q3⟩
  have HM0 : Hid (Mine w.heap.size w3 g PS.new) := Lib.hid ⟨F, q1, fun x hx => Nat.le_trans HB.out.size (q3 x hx)⟩
  have HB3 := Lib.hid (HB.out.trans (hb3.mono HB.out.size))
  clear q1 hb3 q3 HB
  go_wp2_with fail
  go_loopw [8, 9, 24] (fun v8 v9 vi wr => ∃ (i : Nat) (s : PS), vi = .int .i64 i ∧ v8 = .string (bs ((getP s.t key).getD [])) ∧ v9 = .bool (getP s.t key).isSome ∧ i ≤ n ∧ Hid (sizePS s ≤ 2 * i) ∧ Hid (Mine w.heap.size wr g s) ∧ Hid (Below w.heap.size w wr)) (fun _ _ vi _ => n - (intOf vi).toNat)
  case atStart => exact ⟨0, PS.new, rfl, rfl, rfl, Nat.zero_le _, Lib.hid (Nat.le_refl _), HM0, HB3⟩
  case round =>
    clear HM0 HB3
    obtain ⟨i, s, rfl, rfl, rfl, hin, SZ, MO, BW⟩ := hrel
    obtain ⟨o, ho⟩ : ∃ o, o = getP s.t key := ⟨_, rfl⟩
    rw [← ho]
    obtain ⟨x8, hx8⟩ : ∃ x, x = o.getD [] := ⟨_, rfl⟩
    obtain ⟨x9, hx9⟩ : ∃ x, x = o.isSome := ⟨_, rfl⟩
    rw [← hx8, ← hx9]
    have HO := Lib.hid ho; have X8 := Lib.hid hx8; have X9 := Lib.hid hx9
    clear ho hx8 hx9
    by_cases hlt : i < n
    · skip
      have hi : i < l.length := by rw [← HN.out]; exact hlt
      obtain ⟨gL, off, rfl, hgL, q0, q1, q2, q3⟩ := Rd.act H1.out i hi
      have q0' := (BW.out.cell (p := ⟨gL, off + i * 4, none⟩) hgL).trans q0
      have q1' := (BW.out.cell (p := ⟨gL, off + i * 4 + 1, none⟩) hgL).trans q1
      have q2' := (BW.out.cell (p := ⟨gL, off + i * 4 + 2, none⟩) hgL).trans q2
      have q3' := (BW.out.cell (p := ⟨gL, off + i * 4 + 3, none⟩) hgL).trans q3
      obtain ⟨a, ha⟩ : ∃ a, a = l[i] := ⟨_, rfl⟩
      rw [← ha] at q0' q1' q2' q3'
      have hsz2 : s.t.length + s.past.length ≤ 600 := by
        have h5 := SZ.out
        have h6 := HL.out
        unfold sizePS at h5
        omega
      have HSZ := Lib.hid hsz2; have HLT := Lib.hid hlt
      clear ha q0 q1 q2 q3 hgL hi hsz2
      go_wp2_with (refine wpList_alloc_g rfl _ rfl _ _ Try.zeroAct rfl ?_)
      intro R w5 h5
      go_wp2_with (refine wpList_store_row_g (t := 39) (old := #[.int .i64 0, .string (bs []), .string (bs []), .int .i64 0]) rfl 39 _ _ rfl R #[.int .i64 a.kind, .string (bs a.key), .string (bs a.value), .int .i64 a.n] rfl rfl h5.out.cells Try.sizeAct rfl (by simp [Value.oneCell']) ?_)
      intro w6 hx6 k56 z56
      have hb56 : Below wr.heap.size wr w6 := h5.out.below.trans (k56.below (B := wr.heap.size) (fun x hx e => by have := h5.out.eq; omega) h5.out.below.size)
      have q0 : w6.cell? ⟨R, 0, none⟩ = some (.int .i64 a.kind) := Lib.cell_of_heap hx6 0
      have q1 : w6.cell? ⟨R, 1, none⟩ = some (.string (bs a.key)) := Lib.cell_of_heap hx6 1
      have q2 : w6.cell? ⟨R, 2, none⟩ = some (.string (bs a.value)) := Lib.cell_of_heap hx6 2
      have q3 : w6.cell? ⟨R, 3, none⟩ = some (.int .i64 a.n) := Lib.cell_of_heap hx6 3
      have HX6 := Lib.hid hx6
      clear h5 hx6 k56 z56 q0' q1' q2' q3'
      have MO6 := Lib.hid (MO.out.later hb56); have BW6 := Lib.hid (BW.out.trans (hb56.mono BW.out.size))
      clear hb56 MO BW
      obtain ⟨F, p1, p2⟩ := MO6.out
      have P1 := Lib.hid p1; have P2 := Lib.hid p2
      clear p1 p2 MO6
      by_cases hk0 : a.kind = 0
      · have j0 : (a.kind == 0) = true := by simpa using hk0
        have hgs := getP_set s a.key a.value key
        have hsz := size_set s a.key a.value
        clear hk0
        go_wp2_with fail
        refine (sset_any P1.out (by have := HSZ.out; omega) (by have := HSZ.out; omega) a.key a.value).mono ?_
        intro e w7 hr
        obtain ⟨rfl, M7, B7⟩ := Mine.next BW6.out P2.out hr
        have hk7 := hr.2
        obtain ⟨_, _, k67, _⟩ := hk7
        have hx7 := k67.at HX6.out (fun hx => st_box P1.out HX6.out hx)
        obtain ⟨z, hz⟩ : ∃ z, z = s.set a.key a.value := ⟨_, rfl⟩
        rw [← hz] at M7 hgs hsz
        have r1 : w7.cell? ⟨R, 1, none⟩ = some (.string (bs a.key)) := Lib.cell_of_heap hx7 1
        have r2 : w7.cell? ⟨R, 2, none⟩ = some (.string (bs a.value)) := Lib.cell_of_heap hx7 2
        have M7 := Lib.hid M7; have B7 := Lib.hid B7; have HG := Lib.hid hgs; have HSZ2 := Lib.hid hsz
        clear hr k67 hx7 hgs hsz q0 q1 q2 q3 P1 P2 BW6 HX6
        clear hz
        by_cases hkk : a.key = key
        · have j1 : ((bs a.key).toList == (bs key).toList) = true := by rw [eq_txt]; exact decide_eq_true hkk
          by_cases hke : key = []
          · subst hke
            have j2 : (!(bs ([] : Txt)).toList.isEmpty) = false := by rw [toList_bs]; rfl
            have hz : getP z.t [] = o := by rw [HG.out, if_neg (by rw [hkk]; simp), HO.out]
            have HZ := Lib.hid hz
            clear hz hkk
            go_wp2_with fail
            go_roundw
            case rel => exact ⟨i + 1, z, by go_num, by rw [HZ.out, X8.out], by rw [HZ.out, X9.out], Nat.succ_le_of_lt HLT.out, Lib.hid (by have h7 := HSZ2.out; have h8 := SZ.out; omega), M7, B7⟩
            case measure => have hh : i < n := HLT.out; simp [intOf]; omega
          · have j2 : (bs key).toList ≠ [] := by rw [toList_bs]; exact hke
            have j3 : (!(bs key).toList.isEmpty) = true := by rw [toList_bs]; cases key <;> simp_all
            have hz : getP z.t key = some a.value := by rw [HG.out, if_pos ⟨hkk, by rw [hkk]; exact hke⟩]
            have HZ := Lib.hid hz
            clear hz hkk hke
            go_wp2_with fail
            go_roundw
            case rel => exact ⟨i + 1, z, by go_num, by rw [HZ.out]; rfl, by rw [HZ.out]; rfl, Nat.succ_le_of_lt HLT.out, Lib.hid (by have h7 := HSZ2.out; have h8 := SZ.out; omega), M7, B7⟩
            case measure => have hh : i < n := HLT.out; simp [intOf]; omega
        · have j1 : ((bs a.key).toList == (bs key).toList) = false := by rw [eq_txt]; exact decide_eq_false hkk
          have hz : getP z.t key = o := by rw [HG.out, if_neg fun e => hkk e.1, HO.out]
          have HZ := Lib.hid hz
          clear hz hkk
          go_wp2_with fail
          go_roundw
          case rel => exact ⟨i + 1, z, by go_num, by rw [HZ.out, X8.out], by rw [HZ.out, X9.out], Nat.succ_le_of_lt HLT.out, Lib.hid (by have h7 := HSZ2.out; have h8 := SZ.out; omega), M7, B7⟩
          case measure => have hh : i < n := HLT.out; simp [intOf]; omega
      by_cases hk1 : a.kind = 1
      · have j0 : (a.kind == 0) = false := by simpa using hk0
        have j1 : (a.kind == 1) = true := by simpa using hk1
        have hgs := getP_sdel s a.key key
        have hsz := size_del s a.key
        clear hk0 hk1
        go_wp2_with fail
        refine (sdel_any P1.out (by have := HSZ.out; omega) (by have := HSZ.out; omega) a.key).mono ?_
        intro e w7 hr
        obtain ⟨rfl, M7, B7⟩ := Mine.next BW6.out P2.out hr
        have hk7 := hr.2
        obtain ⟨_, _, k67, _⟩ := hk7
        have hx7 := k67.at HX6.out (fun hx => st_box P1.out HX6.out hx)
        obtain ⟨z, hz⟩ : ∃ z, z = s.del a.key := ⟨_, rfl⟩
        rw [← hz] at M7 hgs hsz
        have r1 : w7.cell? ⟨R, 1, none⟩ = some (.string (bs a.key)) := Lib.cell_of_heap hx7 1
        have r2 : w7.cell? ⟨R, 2, none⟩ = some (.string (bs a.value)) := Lib.cell_of_heap hx7 2
        have M7 := Lib.hid M7; have B7 := Lib.hid B7; have HG := Lib.hid hgs; have HSZ2 := Lib.hid hsz
        clear hr k67 hx7 hgs hsz q0 q1 q2 q3 P1 P2 BW6 HX6
        clear hz
        by_cases hkk : a.key = key
        · have j1 : ((bs a.key).toList == (bs key).toList) = true := by rw [eq_txt]; exact decide_eq_true hkk
          have hz : getP z.t key = none := by rw [HG.out, if_pos hkk]
          have HZ := Lib.hid hz
          clear hz hkk
          go_wp2_with fail
          go_roundw
          case rel => exact ⟨i + 1, z, by go_num, by rw [HZ.out]; rfl, by rw [HZ.out]; rfl, Nat.succ_le_of_lt HLT.out, Lib.hid (by have h7 := HSZ2.out; have h8 := SZ.out; omega), M7, B7⟩
          case measure => have hh : i < n := HLT.out; simp [intOf]; omega
        · have j1 : ((bs a.key).toList == (bs key).toList) = false := by rw [eq_txt]; exact decide_eq_false hkk
          have hz : getP z.t key = o := by rw [HG.out, if_neg hkk, HO.out]
          have HZ := Lib.hid hz
          clear hz hkk
          go_wp2_with fail
          go_roundw
          case rel => exact ⟨i + 1, z, by go_num, by rw [HZ.out, X8.out], by rw [HZ.out, X9.out], Nat.succ_le_of_lt HLT.out, Lib.hid (by have h7 := HSZ2.out; have h8 := SZ.out; omega), M7, B7⟩
          case measure => have hh : i < n := HLT.out; simp [intOf]; omega
      · have j0 : (a.kind == 0) = false := by simpa using hk0
        have j1 : (a.kind == 1) = false := by simpa using hk1
        clear hk0 hk1
        have M7 : Hid (Mine w.heap.size w6 g s) := Lib.hid ⟨F, P1.out, P2.out⟩
        go_wp2_with fail
        go_roundw
        case rel => exact ⟨i + 1, s, by go_num, by rw [X8.out, HO.out], by rw [X9.out, HO.out], Nat.succ_le_of_lt HLT.out, Lib.hid (by have h8 := SZ.out; omega), M7, BW6⟩
        case measure => have hh : i < n := HLT.out; simp [intOf]; omega
    · have hsz2 : s.t.length + s.past.length ≤ 600 := by
        have h5 := SZ.out
        have h6 := HL.out
        unfold sizePS at h5
        omega
      have HSZ := Lib.hid hsz2
      obtain ⟨F1, p1, p2⟩ := MO.out
      have P1 := Lib.hid p1
      clear hsz2 MO p1 p2
      go_wp2_with fail
      refine (sget_any P1.out key).mono ?_
      rw [← HO.out, ← X8.out, ← X9.out]
      rintro e w8 ⟨rfl, rfl⟩
      obtain ⟨wl, hwl⟩ : ∃ wl, wl = wr := ⟨_, rfl⟩
      subst hwl
      go_wp2_with fail
      refine (sall_any P1.out (by have := HSZ.out; omega)).mono ?_
      rintro e wB ⟨vB, rfl, hlB, hbB, hnB⟩
      obtain ⟨adB, capB, eB, lB1, lB2⟩ := hlB.shape
      obtain ⟨nB, hnnB⟩ : ∃ nB, nB = s.t.length := ⟨_, rfl⟩
      rw [← hnnB] at eB lB1
      subst eB
      have LB := Lib.hid hlB; have PB := Lib.hid (P1.out.later hbB); have KB := Lib.hid (BW.out.trans (hbB.mono BW.out.size)); have HNB := Lib.hid hnnB
      clear hlB hnB hbB hnnB BW P1
      go_wp2_with fail
      clear hlt hin
      go_loopw [14, 68] (fun vo vi wq => ∃ (i c : Nat), vi = .int .i64 i ∧ vo = .int .i64 c ∧ i ≤ nB ∧ c ≤ i ∧ Hid (c = (underP (s.t.take i) b).length) ∧ Hid (Below wB.heap.size wB wq)) (fun _ vi _ => nB - (intOf vi).toNat)
      case atStart => exact ⟨0, 0, rfl, rfl, Nat.zero_le _, Nat.zero_le _, Lib.hid rfl, Lib.hid (Below.refl _ _)⟩
      case round =>
        obtain ⟨i, c, rfl, rfl, hin, hci, HC, CW⟩ := hrel
        by_cases hlt : i < nB
        · have hi : i < s.t.length := by rw [← HNB.out]; exact hlt
          obtain ⟨gB, hadB, hgB, q0, q1⟩ := LB.out.pair i hi
          subst hadB
          have q0' := (CW.out.cell (p := ⟨gB, i * 2, none⟩) hgB).trans q0
          have q1' := (CW.out.cell (p := ⟨gB, i * 2 + 1, none⟩) hgB).trans q1
          have hut := under_take (b := b) hi
          obtain ⟨p, hp⟩ : ∃ p, p = s.t[i] := ⟨_, rfl⟩
          rw [← hp] at q0' q1' hut
          obtain ⟨k, v⟩ := p
          simp only at q0' q1' hut
          obtain ⟨nk, hnk⟩ : ∃ nk, nk = k.length := ⟨_, rfl⟩
          have hkz : (bs k).size = nk := by rw [bs_size, hnk]
          have HUT := Lib.hid hut; have HNK := Lib.hid hnk; have HLT := Lib.hid hlt
          clear hp q0 q1 hut hnk hi
          go_wp2_with (refine wpList_alloc_g rfl _ rfl _ _ Try.zeroPairE rfl ?_)
          intro R w5 h5
          go_wp2_with (refine wpList_store_row_g (t := 48) (old := #[.string (bs []), .string (bs [])]) rfl 48 _ _ rfl R #[.string (bs k), .string (bs v)] rfl rfl h5.out.cells Try.sizePair rfl (by simp [Value.oneCell']) ?_)
          intro w6 hx6 k56 z56
          have hb56 : Below wr.heap.size wr w6 := h5.out.below.trans (k56.below (B := wr.heap.size) (fun x hx e => by have := h5.out.eq; omega) h5.out.below.size)
          have r0 : w6.cell? ⟨R, 0, none⟩ = some (.string (bs k)) := Lib.cell_of_heap hx6 0
          have r1 : w6.cell? ⟨R, 1, none⟩ = some (.string (bs v)) := Lib.cell_of_heap hx6 1
          have CW6 := Lib.hid (CW.out.trans (hb56.mono CW.out.size))
          clear h5 hx6 k56 z56 hb56 q0' q1' CW
          by_cases hmn : mb ≤ nk
          · have hext : (bs k).extract 0 mb = bs (k.take mb) := by rw [bs_extract]; simp
            have hres : ((bs (k.take mb)).toList == (bs b).toList) = b.isPrefixOf k := by rw [HMB.out]; exact prefix_take k b
            have hmi : (mb : Int) ≤ (nk : Int) := by omega
            cases hpre : b.isPrefixOf k with
            | true =>
              rw [hpre] at hres
              have hc2 : c + 1 = (underP (s.t.take (i + 1)) b).length := by rw [HUT.out, if_pos hpre, List.length_append, ← HC.out]; rfl
              have HC2 := Lib.hid hc2
              clear hpre hc2
              go_wp2_with fail
              go_roundw
              case rel => exact ⟨i + 1, c + 1, by go_num, by go_num, Nat.succ_le_of_lt HLT.out, by omega, HC2, CW6⟩
              case measure => have hh : i < nB := HLT.out; simp [intOf]; omega
            | false =>
              rw [hpre] at hres
              have hc2 : c = (underP (s.t.take (i + 1)) b).length := by rw [HUT.out, if_neg (by rw [hpre]; simp), List.append_nil, ← HC.out]
              have HC2 := Lib.hid hc2
              clear hpre hc2
              go_wp2_with fail
              go_roundw
              case rel => exact ⟨i + 1, c, by go_num, rfl, Nat.succ_le_of_lt HLT.out, by omega, HC2, CW6⟩
              case measure => have hh : i < nB := HLT.out; simp [intOf]; omega
          · have hpre : b.isPrefixOf k = false := by
              rw [Bool.eq_false_iff]
              intro h2
              rw [List.isPrefixOf_iff_prefix] at h2
              have h3 := h2.length_le
              rw [← HMB.out, ← HNK.out] at h3
              exact hmn h3
            have hc2 : c = (underP (s.t.take (i + 1)) b).length := by rw [HUT.out, if_neg (by rw [hpre]; simp), List.append_nil, ← HC.out]
            have HC2 := Lib.hid hc2
            clear hpre hc2
            go_wp2_with fail
            go_roundw
            case rel => exact ⟨i + 1, c, by go_num, rfl, Nat.succ_le_of_lt HLT.out, by omega, HC2, CW6⟩
            case measure => have hh : i < nB := HLT.out; simp [intOf]; omega
        · obtain ⟨wn, hwn⟩ : ∃ wn, wn = wr := ⟨_, rfl⟩
          subst hwn
          have hc2 : c = (underP s.t b).length := by
            have h8 := HC.out
            rwa [List.take_of_length_le (by rw [← HNB.out]; omega)] at h8
          have HC2 := Lib.hid hc2
          have PN := Lib.hid (PB.out.later CW.out); have KN := Lib.hid (KB.out.trans (CW.out.mono KB.out.size))
          clear PB CW KB hc2 HC
          have g1 : ((bs x8).toList == (bs x8).toList) = true := by simp
          go_wp2_with fail
          clear hlt
          refine (sunder_any PN.out (by have := HSZ.out; omega) b).mono ?_
          rintro e wC ⟨vC, rfl, hlC, hbC, _⟩
          obtain ⟨adC, capC, eC, _, _⟩ := hlC.shape
          rw [← HC2.out] at eC
          subst eC
          have KC := Lib.hid (KN.out.trans (hbC.mono KN.out.size))
          clear hlC hbC KN
          go_wp2_with fail
          refine (lives_any _).mono ?_
          rintro e wE ⟨rfl, hbE⟩
          have KE := Lib.hid (KC.out.trans (hbE.mono KC.out.size))
          clear hbE
          go_wp2_with fail
          go_ret
          exact ⟨rfl, KE.out⟩
end Go.Proofs.Ytggcmaegmkjedaa
