/- LeafBack's plain law: rows in order, their groups; the claim of a row is opened by the root. No condition. tallagelaw16.lives (code). No condition. -/
import Derived.Test.YtmclmccgghnglaaGreatLsLeaO
import Derived.Test.YtmclmccgghnglaaGreatLsLeaN
import Derived.Test.YtmclmccgghnglaaGreatLs20
namespace Go.Proofs.YtmclmccgghnglaaGreat
section
open Go.RowKit

theorem sortR_keys (l : List LRow) : (sortR l).map rkey = sortK (l.map rkey) := by
  unfold sortR
  rw [List.map_map]
  exact (List.map_congr_left fun k _ => by rfl).trans (List.map_id _)
/-- Rows in order, each key once. -/
def SortedR (s : List LRow) : Prop := s.Pairwise fun a b => kLt (rkey a) (rkey b)
theorem sortR_sorted {l : List LRow} (h : (l.map rkey).Nodup) : SortedR (sortR l) := by
  have h1 : (sortK (l.map rkey)).Nodup := (sortK_perm _).nodup_iff.2 h
  have h2 := sortK_sorted (l.map rkey)
  have h3 : (sortK (l.map rkey)).Pairwise kLt := (h2.and h1).imp fun {a b} ⟨x, y⟩ => by
    rcases Classical.em (kLt a b) with z | z
    · exact z
    · exact absurd (kLt_total z x) y
  rw [← sortR_keys, List.pairwise_map] at h3
  exact h3
theorem sortedF_sorted {l s : List LRow} (h : sortedF l = some s) : SortedR s := by
  obtain ⟨h1, rfl, _⟩ := sortedF_mem h
  exact sortR_sorted h1.2.2
theorem SortedR.inj {s : List LRow} (h : SortedR s) {a b : LRow} (ha : a ∈ s) (hb : b ∈ s) (hk : rkey a = rkey b) : a = b := by
  obtain ⟨i, hi, rfl⟩ := List.mem_iff_getElem.1 ha
  obtain ⟨j, hj, rfl⟩ := List.mem_iff_getElem.1 hb
  have hp := List.pairwise_iff_getElem.1 h
  rcases Nat.lt_trichotomy i j with c | c | c
  · have := hp i j hi hj c; rw [hk] at this; exact absurd this (kLt_irrefl _)
  · subst c; rfl
  · have := hp j i hj hi c; rw [hk] at this; exact absurd this (kLt_irrefl _)
theorem SortedR.le {s : List LRow} (h : SortedR s) : s.Pairwise fun a b => a.e ≤ b.e := h.imp fun {a b} k => by unfold kLt rkey at k; simp only [] at k; omega
theorem groups_all (l : List LRow) (hs : l.Pairwise fun a b => a.e ≤ b.e) : (∀ g ∈ groupsF l, g.2 = l.filter fun r => decide (r.e = g.1)) ∧ ((groupsF l).map (·.1)).Pairwise (· < ·) ∧ (∀ r ∈ l, r.e ∈ (groupsF l).map (·.1)) := by
  revert hs
  refine groupsF_ind (C := fun l => l.Pairwise (fun a b => a.e ≤ b.e) → (∀ g ∈ groupsF l, g.2 = l.filter fun r => decide (r.e = g.1)) ∧ ((groupsF l).map (·.1)).Pairwise (· < ·) ∧ (∀ r ∈ l, r.e ∈ (groupsF l).map (·.1))) ?_ ?_ l.length l (Nat.le_refl _)
  · intro _; rw [groupsF_nil]; exact ⟨fun g h => by simp at h, List.Pairwise.nil, fun r h => by simp at h⟩
  · intro r l ih hs
    rw [List.pairwise_cons] at hs
    obtain ⟨hs1, hs2⟩ := hs
    obtain ⟨k, hk⟩ : ∃ k, k = lead r.e l := ⟨_, rfl⟩
    have hT : ∀ x ∈ l.take k, x.e = r.e := fun x hx => by
      obtain ⟨j, hj, rfl⟩ := List.mem_iff_getElem.1 hx
      rw [List.length_take] at hj
      rw [List.getElem_take]
      exact lead_at r.e l j (by omega) (by omega)
    have hD : ∀ x ∈ l.drop k, r.e < x.e := fun x hx => by
      obtain ⟨j, hj, rfl⟩ := List.mem_iff_getElem.1 hx
      rw [List.length_drop] at hj
      rw [List.getElem_drop]
      have hkl : k < l.length := by omega
      have h1 : l[k].e ≠ r.e := by subst hk; exact lead_end r.e l hkl
      have h2 := hs1 l[k] (List.getElem_mem hkl)
      have h3 : l[k].e ≤ l[k + j].e := by
        rcases Nat.eq_zero_or_pos j with rfl | hj0
        · exact Int.le_refl _
        · exact List.pairwise_iff_getElem.1 hs2 k (k + j) hkl (by omega) (by omega)
      omega
    obtain ⟨i1, i2, i3⟩ := ih (hs2.sublist (List.drop_sublist _ _))
    rw [← hk] at i1 i2 i3
    rw [groupsF_cons, ← hk]
    have hg1 : ∀ g ∈ groupsF (l.drop k), r.e < g.1 := fun g hg => by
      obtain ⟨a, _, c⟩ := (groupsF_mem (l.drop k)).2 g hg
      obtain ⟨x, hx⟩ := List.exists_mem_of_ne_nil _ a
      obtain ⟨c1, c2⟩ := c x hx
      rw [← c2]; exact hD x c1
    refine ⟨fun g hg => ?_, ?_, fun x hx => ?_⟩
    · rcases List.mem_cons.1 hg with rfl | hg
      · rw [List.filter_cons_of_pos (by simp)]
        congr 1
        conv => rhs; rw [← List.take_append_drop k l, List.filter_append]
        rw [List.filter_eq_self.2 (fun x hx => by simp [hT x hx]), List.filter_eq_nil_iff.2 (fun x hx => by have := hD x hx; simp; omega), List.append_nil]
      · have hlt := hg1 g hg
        rw [i1 g hg, List.filter_cons_of_neg (by simp; omega)]
        conv => rhs; rw [← List.take_append_drop k l, List.filter_append]
        rw [show (l.take k).filter (fun r => decide (r.e = g.1)) = [] from List.filter_eq_nil_iff.2 (fun x hx => by have := hT x hx; simp; omega), List.nil_append]
    · rw [List.map_cons, List.pairwise_cons]
      exact ⟨fun x hx => by obtain ⟨g, hg, rfl⟩ := List.mem_map.1 hx; exact hg1 g hg, i2⟩
    · rw [List.map_cons]
      rcases List.mem_cons.1 hx with rfl | hx
      · simp
      · rw [← List.take_append_drop k l] at hx
        rcases List.mem_append.1 hx with h | h
        · rw [hT x h]; simp
        · exact List.mem_cons_of_mem _ (i3 x h)
theorem find_at {α : Type} (p : α → Bool) {l : List α} {x : α} (hx : x ∈ l) (hp : p x = true) : ∃ (i : Nat) (h : i < l.length), l.findIdx? p = some i ∧ p l[i] = true := by
  cases h : l.findIdx? p with
  | none => have := List.findIdx?_eq_none_iff.1 h x hx; rw [hp] at this; cases this
  | some i => obtain ⟨h1, h2, _⟩ := List.findIdx?_eq_some_iff_getElem.1 h; exact ⟨i, h1, rfl, h2⟩
theorem tAt_get (l : List (List UInt8)) (i : Nat) (h : i < l.length) : tAt l i = l[i] := by unfold tAt; rw [List.getD_eq_getElem?_getD, List.getElem?_eq_getElem h]; rfl
theorem openAll_ok {rows : List LRow} (hr : ∀ r ∈ rows, ROk r) (hn : rows.length ≤ 1024) : ∀ {ts : List Int} {lv : List CLf}, openAll rows ts = some lv → (∀ t ∈ ts, t < 9223372036854775808) → ∀ x ∈ lv, x.t < 9223372036854775808 ∧ x.i < 9223372036854775808 ∧ x.m < 2 ^ 256 ∧ All32 x.p := by
  intro ts
  induction ts with
  | nil => intro lv h _ x hx; cases h; simp at hx
  | cons t ts ih =>
    intro lv h ht x hx
    unfold openAll at h
    cases ho : open1 rows t with
    | none => rw [ho] at h; cases h
    | some y =>
      cases hs : openAll rows ts with
      | none => rw [ho, hs] at h; cases h
      | some ys =>
        rw [ho, hs] at h; cases h
        rcases List.mem_cons.1 hx with rfl | hx
        · unfold open1 at ho
          cases hf : rows.findIdx? (fun r => decide (r.t = t)) with
          | none => rw [hf] at ho; cases ho
          | some i =>
            rw [hf] at ho; simp only [] at ho
            cases hri : rows[i]? with
            | none => rw [hri] at ho; cases ho
            | some r =>
              rw [hri] at ho; cases ho
              obtain ⟨hi, hri2⟩ := List.getElem?_eq_some_iff.1 hri
              refine ⟨ht t (by simp), ?_, (hr r (by rw [← hri2]; exact List.getElem_mem hi)).2, proofF_32 _ _ _⟩
              show (i : Int) < 9223372036854775808
              omega
        · exact ih hs (fun u hu => ht u (by simp [hu])) x hx
theorem claimR_ok {l : List LRow} {e : Int} {ts : List Int} {c : CCl} (h : claimR l e ts = .ok c) (hr : ∀ r ∈ l, ROk r) (he : e < 9223372036854775808) (ht : ∀ t ∈ ts, t < 9223372036854775808) : COk c := by
  unfold claimR at h
  cases hs : sortedF l with
  | none => rw [hs] at h; cases h
  | some s =>
    rw [hs] at h; simp only [] at h
    split at h
    · cases h
    · obtain ⟨k1, _, k3⟩ := sort_ok hs hr
      cases hq : (groupsF s).findIdx? (fun g => decide (g.1 = e)) with
      | none => rw [hq] at h; cases h
      | some q =>
        rw [hq] at h; simp only [] at h
        cases hg : (groupsF s)[q]? with
        | none => rw [hg] at h; cases h
        | some g =>
          rw [hg] at h; simp only [] at h
          obtain ⟨hqn, hgq⟩ := List.getElem?_eq_some_iff.1 hg
          have hgm : g ∈ groupsF s := by rw [← hgq]; exact List.getElem_mem hqn
          have hgn := (groupsF_mem s)
          cases ho : openAll g.2 ts with
          | none => rw [ho] at h; cases h
          | some lv =>
            rw [ho] at h; cases h
            refine ⟨rootF_32 _ _, he, ?_, proofF_32 _ _ _, openAll_ok (groups_ok k1 g hgm).2 (Nat.le_trans (hgn.2 g hgm).2.1 k3) ho ht⟩
            show (q : Int) < 9223372036854775808
            have := hgn.1; omega
/-- The claim of a row is opened by the root, and says what the row says. -/
theorem back_law {l s : List LRow} (h : sortedF l = some s) {row : LRow} (hr : row ∈ s) : ∃ (c : CCl) (i : Int) (p : List (List UInt8)), claimR l row.e [row.t] = .ok c ∧ c.e = row.e ∧ c.lv = [⟨i, row.t, row.m, p⟩] ∧ c.p.length = depthF (tableL s).length ∧ (∃ n, 1 ≤ n ∧ n ≤ s.length ∧ p.length = depthF n) ∧ openR c (rootT l).1 = 0 := by
  have hso := sortedF_sorted h
  obtain ⟨h1, _, _, h4⟩ := sortedF_mem h
  obtain ⟨g1, g2, g3⟩ := groups_all s hso.le
  obtain ⟨g, hg, hge⟩ := List.mem_map.1 (g3 row hr)
  obtain ⟨q, hq, hqf, hqe⟩ := find_at (fun g : Int × List LRow => decide (g.1 = row.e)) hg (by simpa using hge)
  have hqe2 : (groupsF s)[q].1 = row.e := by simpa using hqe
  obtain ⟨gg, hgg⟩ : ∃ gg, gg = (groupsF s)[q] := ⟨_, rfl⟩
  have hgq : (groupsF s)[q]? = some gg := by rw [hgg]; exact List.getElem?_eq_getElem hq
  have hgm : gg ∈ groupsF s := by rw [hgg]; exact List.getElem_mem hq
  rw [← hgg] at hqe2
  have hfil := g1 _ hgm
  have hmem : row ∈ gg.2 := by rw [hfil, hqe2]; exact List.mem_filter.2 ⟨hr, by simp⟩
  obtain ⟨i, hi2, hif, hit⟩ := find_at (fun r : LRow => decide (r.t = row.t)) hmem (by simp)
  have hit2 : gg.2[i].t = row.t := by simpa using hit
  obtain ⟨m1, m2, m3⟩ := (groupsF_mem s).2 _ hgm
  have hx := m3 _ (List.getElem_mem hi2)
  have hrow : gg.2[i] = row := hso.inj hx.1 hr (by unfold rkey; rw [hx.2, hqe2, hit2])
  have hlen : s.length ≤ 1024 := by rw [h4]; exact h1.1.2
  have hrow2 : gg.2[i]? = some row := by rw [List.getElem?_eq_getElem hi2, hrow]
  have ho : open1 gg.2 row.t = some ⟨i, row.t, row.m, proofF 2 (leavesG gg.2) i⟩ := by
    unfold open1; rw [hif]; simp only []; rw [hrow2]
  have hc : claimR l row.e [row.t] = .ok ⟨0, q, row.e, rootF 2 (leavesG gg.2), proofF 1 (tableL s) q, [⟨i, row.t, row.m, proofF 2 (leavesG gg.2) i⟩], row.e⟩ := by
    unfold claimR
    rw [h]; simp only []
    rw [if_neg (by simp), hqf]; simp only []
    rw [hgq]; simp only []
    simp only [openAll, ho]
  refine ⟨_, _, _, hc, rfl, rfl, proofF_length _ _ _, ⟨gg.2.length, by omega, m2, by rw [← leavesG_len]; exact proofF_length _ _ _⟩, ?_⟩
  have hrt : (rootT l).1 = rootF 1 (tableL s) := by unfold rootT; rw [h]
  have c1 := check_back (k := 1) (.inl rfl) (tableL s) q (by rw [tableL_len]; exact hq) (table_1024 hlen)
  rw [tAt_get _ _ (by rw [tableL_len]; exact hq)] at c1
  have e1 : (tableL s)[q]'(by rw [tableL_len]; exact hq) = earL row.e (rootF 2 (leavesG gg.2)) := by
    unfold tableL earLeaf; rw [List.getElem_map, ← hgg, hqe2]
  rw [e1] at c1
  have c2 := check_back (k := 2) (.inr rfl) (leavesG gg.2) i (by rw [leavesG_len]; exact hi2) (by rw [leavesG_len]; omega)
  rw [tAt_get _ _ (by rw [leavesG_len]; exact hi2)] at c2
  have e2 : (leavesG gg.2)[i]'(by rw [leavesG_len]; exact hi2) = tokL row.t row.m := by
    unfold leavesG; rw [List.getElem_map]; rw [List.getElem?_eq_getElem hi2] at hrow2; rw [Option.some.inj hrow2]
  rw [e2] at c2
  rw [show (1 : Int).toNat = 1 from rfl] at c1
  rw [show (2 : Int).toNat = 2 from rfl] at c2
  unfold openR
  rw [if_neg (by simp), hrt]
  simp only []
  rw [if_pos c1]
  unfold openL leafChk
  rw [if_pos c2]; rfl
end
section
open Go.RowKit

abbrev row0 : LRow := ⟨7, 1, 10⟩
theorem sortOk0 : SortOk [row0] := by decide
theorem sort0 : sortedF [row0] = some [row0] := by
  rw [sortedF_yes sortOk0]
  have h1 := sortR_len [row0]
  have h2 := sortR_mem sortOk0.2.2
  cases hs : sortR [row0] with
  | nil => rw [hs] at h1; cases h1
  | cons r tl =>
    rw [hs] at h1 h2
    have h3 : tl = [] := List.eq_nil_of_length_eq_zero (by simpa using h1)
    have h4 : r = row0 := by simpa using h2 r (by simp)
    rw [h3, h4]
theorem depthF_1 : depthF 1 = 0 := by unfold depthF; exact bitsN_zero
theorem lives_back : ∃ (cix ce cto i : Int) (ch : List UInt8) (crt : Int), claimR [row0] 7 [1] = .ok ⟨crt, cix, ce, ch, [], [⟨i, 1, 10, []⟩], cto⟩ ∧ openR ⟨crt, cix, ce, ch, [], [⟨i, 1, 10, []⟩], cto⟩ (rootT [row0]).1 = 0 := by
  obtain ⟨c, i, p, h1, h2, h3, h4, ⟨n, n1, n2, n3⟩, h5⟩ := back_law sort0 (row := row0) (by simp)
  have hn : n = 1 := by simp at n2; omega
  subst hn
  have hp : p = [] := List.eq_nil_of_length_eq_zero (by rw [n3, depthF_1])
  have hcp : c.p = [] := List.eq_nil_of_length_eq_zero (by
    rw [h4]
    have t1 := table_ne (s := [row0]) (by simp)
    have t2 : (tableL [row0]).length ≤ 1 := by rw [tableL_len]; exact (groupsF_mem [row0]).1
    have t3 : (tableL [row0]).length = 1 := by
      rcases Nat.eq_zero_or_pos (tableL [row0]).length with z | z
      · exact absurd (List.eq_nil_of_length_eq_zero z) t1
      · omega
    rw [t3, depthF_1])
  obtain ⟨crt, cix, ce, ch, cp, clv, cto⟩ := c
  simp only [] at h2 h3 hcp
  subst hp hcp h3
  exact ⟨cix, ce, cto, i, ch, crt, h1, h5⟩
theorem rok0 : ∀ r ∈ [row0], ROk r := by
  intro r hr
  obtain rfl : r = row0 := by simpa using hr
  exact ⟨by unfold I64k; decide, by show (10 : Nat) < uMax; decide⟩
set_option maxHeartbeats 16000000 in
set_option maxRecDepth 100000 in
theorem lives16_any (w : World) : Calls Tryz.prog 13 #[] w (Ret w (.bool true)) := by
  obtain ⟨cix, ce, cto, i, ch, crt, hcl, hop⟩ := lives_back
  have hcok := claimR_ok hcl rok0 (by decide) (by decide)
  have HCL := Lib.hid hcl; have HOP := Lib.hid hop; have HCOK := Lib.hid hcok
  clear hcl hop hcok
  go_enter Tryz.func13, Tryz.ntmps13
  go_wp2_with fail
  obtain ⟨w1, hw1⟩ : ∃ w1, w1 = w.alloc (.cells (rowC row0) 127) := ⟨_, rfl⟩
  obtain ⟨w2, hw2⟩ : ∃ w2, w2 = w1.alloc (.cells #[.int .i64 1] 3) := ⟨_, rfl⟩
  have hb1 : Below w.heap.size w w1 := by rw [hw1]; exact (Below.refl _ _).alloc (Nat.le_refl _) _
  have hb2 : Below w1.heap.size w1 w2 := by rw [hw2]; exact (Below.refl _ _).alloc (Nat.le_refl _) _
  have hs1 : w1.heap.size = w.heap.size + 1 := by rw [hw1]; exact Array.size_push _
  have hR1 : Rd w1 rowE 6 (.slice (some ⟨w.heap.size, 0, none⟩) 1 1) [row0] := by rw [hw1]; exact rd_row w row0 _
  have hT2 : Rd w2 intE 1 (.slice (some ⟨w.heap.size + 1, 0, none⟩) 1 1) [1] := by rw [← hs1, hw2]; exact rd_new1 w1 intE (fun _ => rfl) _ _ _ 1 rfl (by omega) rfl
  have HB2 := Lib.hid (hb1.trans (hb2.mono hb1.size)); have HR2 := Lib.hid (hR1.later hb2); have HT2 := Lib.hid hT2
  have hcall := lclaim_any w2 _ _ [row0] 7 [1] HR2.out rok0 (by simp) HT2.out (by simp)
  rw [HCL.out] at hcall
  have hcall2 : Calls Tryz.prog 19 #[.slice (some ⟨w.heap.size, 0, none⟩) 1 1, .int .i64 7, .slice (some ⟨w.heap.size + 1, 0, none⟩) 1 1] ((w.alloc (.cells #[.int .i64 7, .int .i64 1, .int .u64 10, .int .u64 0, .int .u64 0, .int .u64 0] 127)).alloc (.cells #[.int .i64 1] 3)) (ClaimRet w2 (.ok ⟨crt, cix, ce, ch, [], [⟨i, 1, 10, []⟩], cto⟩)) := by
    rw [hw2, hw1] at hcall ⊢; exact hcall
  clear hw1 hw2 hb1 hb2 hs1 hR1 hT2 hcall
  refine hcall2.mono ?_
  rintro e w3 ⟨hb3, v3, rfl, hca⟩
  have HB3 := Lib.hid (HB2.out.trans (hb3.mono HB2.out.size)); have HR3 := Lib.hid (HR2.out.later hb3)
  clear hb3 hcall2 HB2 HR2 HT2
  have HCA := Lib.hid hca
  obtain ⟨⟨pa, pn, pc⟩, ⟨la, ln, lc⟩, rfl, hp, xs, hxl, hlv, hpr⟩ := hca
  have hpn : pn = 0 := hp.size
  have hx1 : xs.length = 1 := by have h := congrArg List.length hxl; rw [List.length_map] at h; exact h
  have hln : ln = 1 := (hlv.size).trans hx1
  subst hpn hln
  obtain ⟨⟨x1, ⟨sa, sn, sc⟩⟩, rfl⟩ : ∃ x, xs = [x] := List.length_eq_one_iff.1 hx1
  obtain rfl : x1 = ⟨i, 1, 10, []⟩ := by simpa using hxl
  have hsn : sn = 0 := (hpr _ (List.mem_singleton_self _)).size
  subst hsn
  obtain ⟨lb, lo, rfl, _, _, _, _, _, _, c6⟩ := hlv.leaf 0 (by simp)
  have h32 : ch.length = 32 := HCOK.out.1
  have H32 := Lib.hid h32
  have HC6 := Lib.hid (show w3.cell? ⟨lb, lo + 6, none⟩ = some (.slice sa 0 sc) from c6)
  clear hp hxl hlv hpr hx1 c6 h32
  go_wp2_with (refine wpList_alloc_g rfl _ rfl _ _ Tryz.zeroCl rfl ?_)
  intro C d1 hC
  go_wp2_with (refine wpList_store_row_g (t := 45) (old := clZ) rfl 45 _ _ rfl C (clC crt cix ce ch (pa, 0, pc) (some ⟨lb, lo, none⟩, 1, lc) cto) rfl rfl hC.out.cells (Tryz.sizeCl _ _ _ H32.out _ _ _) (by rw [clC_size _ _ _ H32.out]; rfl) (clC_one _ _ _ _ _ _ _) ?_)
  intro w4 h4 k4 z4
  have hb4 : Below w3.heap.size w3 w4 := hC.out.below.trans (k4.below (B := w3.heap.size) (fun x hx e => by have := hC.out.eq; omega) hC.out.below.size)
  have HC4 := Lib.hid h4
  have HB4 := Lib.hid (HB3.out.trans (hb4.mono HB3.out.size)); have HR4 := Lib.hid (HR3.out.later hb4); have HCA4 := Lib.hid (HCA.out.later hb4)
  have HL4 := Lib.hid (((bcell hb4).1 lb (lo + 6) (block_lt_of_cell HC6.out)).trans HC6.out)
  clear hC h4 k4 z4 hb4 HB3 HR3 HCA HC6
  go_wp2_with fail
  refine (lroot_any w4 _ [row0] HR4.out rok0 (by simp)).mono ?_
  rintro e w5 ⟨rfl, hb5⟩
  have hr2 : (rootT [row0]).2 = 0 := by unfold rootT; rw [sort0]
  rw [hr2]
  have hr32 := rootT_32 [row0]
  obtain ⟨rt, hrt⟩ : ∃ rt, rt = (rootT [row0]).1 := ⟨_, rfl⟩
  rw [← hrt] at hr32 ⊢
  have HOP2 := Lib.hid (show openR ⟨crt, cix, ce, ch, [], [⟨i, 1, 10, []⟩], cto⟩ rt = 0 by rw [hrt]; exact HOP.out)
  have HR32 := Lib.hid hr32
  have HC5 := Lib.hid (below_at2 hb5 HC4.out); have HB5 := Lib.hid (HB4.out.trans (hb5.mono HB4.out.size)); have HCA5 := Lib.hid (HCA4.out.later hb5)
  have HL5 := Lib.hid (((bcell hb5).1 lb (lo + 6) (block_lt_of_cell HL4.out)).trans HL4.out)
  clear hr2 hr32 hrt hb5 HC4 HB4 HR4 HCA4 HL4
  go_wp2_with (refine wpList_alloc_g rfl _ rfl _ _ Tryz.zeroHash rfl ?_)
  intro H d5 hH
  go_wp2_with (refine wpList_store_row_g (t := 36) (old := cB 32 []) rfl 36 _ _ rfl H (c8 rt) rfl rfl hH.out.cells (Tryz.sizeHc rt HR32.out) (by rw [c8_size, HR32.out]; rfl) (c8_ones rt) ?_)
  intro w6 h6 k6 z6
  have hb6 : Below w5.heap.size w5 w6 := hH.out.below.trans (k6.below (B := w5.heap.size) (fun x hx e => by have := hH.out.eq; omega) hH.out.below.size)
  have HH6 := Lib.hid h6
  have HC6 := Lib.hid (below_at2 hb6 HC5.out); have HB6 := Lib.hid (HB5.out.trans (hb6.mono HB5.out.size)); have HCA6 := Lib.hid (HCA5.out.later hb6)
  have c6 := ((bcell hb6).1 lb (lo + 6) (block_lt_of_cell HL5.out)).trans HL5.out
  have c35 : w6.cell? ⟨C, 35, none⟩ = some (.slice pa 0 pc) := (Lib.cell_of_heap HC6.out 35).trans (clC_35 _ _ _ H32.out _ _ _)
  have c36 : w6.cell? ⟨C, 36, none⟩ = some (.slice (some ⟨lb, lo, none⟩) 1 lc) := (Lib.cell_of_heap HC6.out 36).trans (clC_36 _ _ _ H32.out _ _ _)
  clear hH h6 k6 z6 hb6 HC5 HB5 HCA5 HL5
  go_wp2_with (first
    | (refine wpList_load_row_y (by rfl) 45 _ rfl C rfl 45 _ _ _ HC6.out Tryz.underlying45 rfl (Tryz.sizeCl _ _ _ H32.out _ _ _) ?_)
    | (refine wpList_load_row_y (by rfl) 36 _ rfl H rfl 36 _ _ _ HH6.out Tryz.underlying36 rfl (Tryz.sizeHc rt HR32.out) ?_))
  refine (lopen_any w6 _ _ rt HCA6.out HCOK.out HR32.out).mono ?_
  rintro e w7 ⟨rfl, hb7⟩
  rw [HOP2.out]
  have HB7 := Lib.hid (HB6.out.trans (hb7.mono HB6.out.size))
  clear hb7
  go_wp2_with fail
  go_ret
  exact ⟨rfl, HB7.out⟩
end
end Go.Proofs.YtmclmccgghnglaaGreat
