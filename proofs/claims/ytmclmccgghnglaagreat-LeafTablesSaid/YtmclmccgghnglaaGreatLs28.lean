/- tallagelaw16.LeafSound: its walk. tallagelaw16.LeafTables: its walk. No condition. -/
import Derived.Test.YtmclmccgghnglaaGreatLs26
import Derived.Test.YtmclmccgghnglaaGreatLs24
import Derived.Test.YtmclmccgghnglaaGreatLs18
import Derived.Test.YtmclmccgghnglaaGreatLsUnZ
import Derived.Test.YtmclmccgghnglaaGreatLs27
namespace Go.Proofs.YtmclmccgghnglaaGreat
section
open Go.RowKit

theorem tr_newZ {w : World} {g : Nat} (h : w.heap[g]? = some (.cells #[.slice none 0 0] 28 (0, 0))) : Tr w g none [] :=
  ⟨.slice none 0 0, [], h, Own.nil _ _ _ _ _, rfl, rfl, fun i u l h1 _ => by simp at h1⟩
theorem notesF_40 (k : Nat) {l : List (List UInt8)} (h : l.length ≤ 64) : (notesF k l).length ≤ 448 := by
  have h1 := notesFu_len k l
  have h2 := depthF_le l.length 6 h
  have h3 : 2 ^ depthF l.length ≤ 2 ^ 6 := Nat.pow_le_pow_right (by omega) h2
  have h4 : 2 ^ depthF l.length * (1 + depthF l.length) ≤ 2 ^ 6 * 7 := Nat.mul_le_mul h3 (by omega)
  omega
theorem notesH_40 (s : List LRow) (hs : s.length ≤ 64) (H : List Int) : (notesH s H).length ≤ 448 * H.length := by
  induction H with
  | nil => exact Nat.zero_le _
  | cons e H ih =>
    have h1 : notesH s (e :: H) = notesF 2 (leavesG (ownR s e)) ++ notesH s H := by unfold notesH; rw [List.flatMap_cons]
    have h2 := notesF_40 2 (l := leavesG (ownR s e)) (by rw [leavesG_len]; have := ownR_len s e; omega)
    rw [h1, List.length_append, List.length_cons]; omega
theorem notesT_len {s : List LRow} (hs : s.length ≤ 40) : (notesT s).length < 100000 := by
  unfold notesT
  rw [List.length_append]
  have h1 := notesH_40 s (by omega) ((groupsF s).map (·.1))
  have h2 := (groupsF_mem s).1
  have h3 := notesF_40 1 (l := tableL s) (by rw [tableL_len]; omega)
  rw [List.length_map] at h1
  omega
end
section
open Go.RowKit

/-- A table in order; whether there is one. -/
def sV (l : List LRow) : List LRow := (sortedF l).getD []
def sO (l : List LRow) : Bool := (sortedF l).isSome
theorem SortedRet.got {w w' : World} {l : List LRow} {e : Ending} (h : SortedRet w l e w') : ∃ v, e = .returned (.tuple #[v, .bool (sO l)]) ∧ Own w' 0 127 rowE 6 v (sV l) ∧ Below w.heap.size w w' := by
  obtain ⟨hb, ⟨h1, h2⟩ | ⟨v, s, h1, h2, h3⟩⟩ := h
  · exact ⟨_, by rw [h2]; unfold sO; rw [h1]; rfl, by unfold sV; rw [h1]; exact Own.nil _ _ _ _ _, hb⟩
  · exact ⟨v, by rw [h2]; unfold sO; rw [h1]; rfl, by unfold sV; rw [h1]; exact h3.mono (Nat.zero_le _), hb⟩
theorem RSortedRet.got {w w' : World} {l : List LRow} {e : Ending} (h : RSortedRet w l e w') : ∃ v, e = .returned (.tuple #[v, .bool (sO l)]) ∧ Own w' 0 57 rowE 6 v (sV l) ∧ Below w.heap.size w w' := by
  obtain ⟨hb, ⟨h1, h2⟩ | ⟨v, s, h1, h2, h3⟩⟩ := h
  · exact ⟨_, by rw [h2]; unfold sO; rw [h1]; rfl, by unfold sV; rw [h1]; exact Own.nil _ _ _ _ _, hb⟩
  · exact ⟨v, by rw [h2]; unfold sO; rw [h1]; rfl, by unfold sV; rw [h1]; exact h3.mono (Nat.zero_le _), hb⟩
theorem sV_len {l : List LRow} : (sV l).length ≤ l.length := by
  unfold sV
  cases h : sortedF l with
  | none => exact Nat.zero_le _
  | some s => exact Nat.le_of_eq (sortedF_mem h).2.2.2
theorem openAll_len {rows : List LRow} : ∀ {ts : List Int} {xs : List CLf}, openAll rows ts = some xs → xs.length = ts.length
  | [], xs, h => by cases h; rfl
  | t :: ts, xs, h => by
    unfold openAll at h
    cases ha : open1 rows t with
    | none => rw [ha] at h; cases h
    | some x =>
      cases hs : openAll rows ts with
      | none => rw [ha, hs] at h; cases h
      | some ys => rw [ha, hs] at h; cases h; rw [List.length_cons, List.length_cons, openAll_len hs]
theorem claimR_lv {l : List LRow} {e : Int} {ts : List Int} {c : CCl} (h : claimR l e ts = .ok c) : c.lv.length = ts.length := by
  unfold claimR at h
  cases hs : sortedF l with
  | none => rw [hs] at h; cases h
  | some s =>
    rw [hs] at h; simp only [] at h
    split at h
    · cases h
    · cases hq : (groupsF s).findIdx? (fun g => decide (g.1 = e)) with
      | none => rw [hq] at h; cases h
      | some q =>
        rw [hq] at h; simp only [] at h
        cases hg : (groupsF s)[q]? with
        | none => rw [hg] at h; cases h
        | some g =>
          rw [hg] at h; simp only [] at h
          cases ho : openAll g.2 ts with
          | none => rw [ho] at h; cases h
          | some lv => rw [ho] at h; cases h; exact openAll_len ho
theorem clmV_ok {l : List LRow} {e : Int} {ts : List Int} (hr : ∀ r ∈ l, ROk r) (he : e < 9223372036854775808) (ht : ∀ t ∈ ts, t < 9223372036854775808) : (clmV (claimR l e ts)).h.length = 32 ∧ All32 (clmV (claimR l e ts)).p ∧ (∀ x ∈ (clmV (claimR l e ts)).lv, All32 x.p) ∧ (clmV (claimR l e ts)).lv.length ≤ ts.length := by
  cases h : claimR l e ts with
  | error k => exact ⟨zero32_length, fun x hx => by simp [clmV, ccZ] at hx, fun x hx => by simp [clmV, ccZ] at hx, Nat.zero_le _⟩
  | ok c =>
    have h1 := claimR_ok h hr he ht
    exact ⟨h1.1, h1.2.2.2.1, fun x hx => (h1.2.2.2.2 x hx).2.2.2, Nat.le_of_eq (claimR_lv h)⟩
theorem rootNt_len {l : List LRow} (h : l.length ≤ 40) : (rootNt l).length < 100000 := by
  cases hs : sortedF l with
  | none => rw [rootNt_none hs]; simp
  | some s => rw [rootNt_some hs]; exact notesT_len (by rw [(sortedF_mem hs).2.2.2]; exact h)
theorem Grew.belowN {w w' : World} {g : Nat} {a a' : Option Nat} (h : Grew w g a w' a') {B : Nat} {w0 : World} (hb : Below B w0 w) (hB : B ≤ w0.heap.size) (hg : B ≤ g) (ha : ∀ k, a = some k → B ≤ k) : Below B w0 w' := hb.trans (h.below (Nat.le_trans hB hb.size) hg ha)
set_option maxHeartbeats 16000000 in
set_option maxRecDepth 100000 in
theorem ltables_any (w : World) (v vt : Value) (l : List LRow) (e : Int) (ts : List Int) (hr : Rd w rowE 6 v l) (hok : ∀ r ∈ l, ROk r) (ht : Rd w intE 1 vt ts) (he : e < 9223372036854775808) (hts : ∀ t ∈ ts, t < 9223372036854775808) :
    Calls Tryz.prog 3 #[v, .int .i64 e, vt] w (Ret w (.bool true)) := by
  obtain ⟨lad, lcap, rfl, _, _⟩ := hr.shape
  obtain ⟨n, hn⟩ : ∃ k, k = l.length := ⟨_, rfl⟩
  rw [← hn] at hr ⊢
  obtain ⟨tad, tcap, rfl, _, _⟩ := ht.shape
  obtain ⟨tn, htn⟩ : ∃ k, k = ts.length := ⟨_, rfl⟩
  rw [← htn] at ht ⊢
  have HCK := Lib.hid (clmV_ok hok he hts)
  have HR := Lib.hid hr; have HOK := Lib.hid hok; have HN := Lib.hid hn; have HTS := Lib.hid ht; have HTN := Lib.hid htn
  clear hr hok ht he hts hn htn
  go_enter Tryz.func3, Tryz.ntmps3
  by_cases t1 : 40 < n
  · go_wp2_with fail
    refine (lives16_any _).mono ?_
    rintro e9 wl ⟨rfl, hbl⟩
    have HBl := Lib.hid ((Below.refl w.heap.size w).trans (hbl.mono (Below.refl w.heap.size w).size))
    clear hbl
    go_wp2_with fail
    go_ret
    exact ⟨rfl, HBl.out⟩
  by_cases t2 : 20 < tn
  · have t1' : decide (40 < (n : Int)) = false := decide_eq_false (by omega)
    go_wp2_with fail
    refine (lives16_any _).mono ?_
    rintro e9 wl ⟨rfl, hbl⟩
    have HBl := Lib.hid ((Below.refl w.heap.size w).trans (hbl.mono (Below.refl w.heap.size w).size))
    clear hbl
    go_wp2_with fail
    go_ret
    exact ⟨rfl, HBl.out⟩
  have t1' : decide (40 < (n : Int)) = false := decide_eq_false (by omega)
  have t2' : decide (20 < (tn : Int)) = false := decide_eq_false (by omega)
  have HN40 := Lib.hid (show n ≤ 40 by omega); have HT20 := Lib.hid (show tn ≤ 20 by omega)
  go_wp2_with fail
  clear t1 t2 t1' t2'
  obtain ⟨w1, hw1⟩ : ∃ z, z = w.alloc (.cells #[.slice none 0 0] 28) := ⟨_, rfl⟩
  obtain ⟨g, hg⟩ : ∃ g, g = w.heap.size := ⟨_, rfl⟩
  rw [← hw1, ← hg]
  have hb1 : Below w.heap.size w w1 := by rw [hw1]; exact (Below.refl _ _).alloc (Nat.le_refl _) _
  have HT1 := Lib.hid (show Tr w1 g none [] from tr_newZ (by rw [hw1, hg]; exact heap_alloc_new _ _))
  have HGW := Lib.hid (show w.heap.size ≤ g by rw [hg]; exact Nat.le_refl _)
  have HB1 := Lib.hid hb1
  clear hw1 hg hb1
  refine (sorted_any w1 _ l (HR.out.later HB1.out) HOK.out (by have := HN.out; have := HN40.out; omega)).mono ?_
  rintro e2 w2 hret
  obtain ⟨v2, rfl, ho2, hb2⟩ := hret.got
  clear hret
  obtain ⟨ad2, cap2, rfl, _, _⟩ := (ho2.rd rowE_len).shape
  obtain ⟨m, hm⟩ : ∃ k, k = (sV l).length := ⟨_, rfl⟩
  rw [← hm] at ho2 ⊢
  have HM := Lib.hid (show m = (sV l).length ∧ m ≤ 40 by have := sV_len (l := l); have := HN.out; have := HN40.out; omega)
  have HO2 := Lib.hid ho2; have HT2 := Lib.hid (HT1.out.later hb2); have HB2 := Lib.hid (HB1.out.trans (hb2.mono HB1.out.size))
  clear ho2 hb2 hm HT1 HB1
  obtain ⟨b, hb⟩ : ∃ b, b = sO l := ⟨_, rfl⟩
  rw [← hb]
  have HBB := Lib.hid hb
  clear hb
  go_wp2_with fail
  refine (plain_any w2 _ n lcap l (HR.out.later HB2.out) (by have := HN40.out; omega)).mono ?_
  rintro e3 w3 ⟨v3, rfl, ho3, hb3⟩
  obtain ⟨ad3, cap3, rfl, _, _⟩ := (ho3.rd rowE_len).shape
  rw [← HN.out] at ho3 ⊢
  have HO3 := Lib.hid (HO2.out.later hb3); have HP3 := Lib.hid ho3; have HT3 := Lib.hid (HT2.out.later hb3); have HB3 := Lib.hid (HB2.out.trans (hb3.mono HB2.out.size))
  clear ho3 hb3 HO2 HT2 HB2
  go_wp2_with fail
  refine (rsorted_any w3 _ n cap3 l (HP3.out.rd rowE_len) HOK.out (by have := HN40.out; omega)).mono ?_
  rintro e4 w4 hret
  obtain ⟨v4, rfl, ho4, hb4⟩ := hret.got
  clear hret
  rw [← HBB.out]
  obtain ⟨ad4, cap4, rfl, _, _⟩ := (ho4.rd rowE_len).shape
  rw [← HM.out.1] at ho4 ⊢
  have HO4 := Lib.hid (HO3.out.later hb4); have HQ4 := Lib.hid ho4; have HT4 := Lib.hid (HT3.out.later hb4); have HB4 := Lib.hid (HB3.out.trans (hb4.mono HB3.out.size))
  clear ho4 hb4 HO3 HP3 HT3 HB3
  go_wp2_with fail
  refine (lroot_any w4 _ l (HR.out.later HB4.out) HOK.out (by have := HN.out; have := HN40.out; omega)).mono ?_
  obtain ⟨rt, hrt⟩ : ∃ x, x = (rootT l).1 := ⟨_, rfl⟩
  obtain ⟨re, hre⟩ : ∃ x, x = (rootT l).2 := ⟨_, rfl⟩
  rw [← hrt, ← hre]
  have H32 := Lib.hid (show rt.length = 32 by rw [hrt]; exact rootT_32 l)
  have HRT := Lib.hid hrt; have HRE := Lib.hid hre
  clear hrt hre
  rintro e5 w5 ⟨rfl, hb5⟩
  have HO5 := Lib.hid (HO4.out.later hb5); have HQ5 := Lib.hid (HQ4.out.later hb5); have HT5 := Lib.hid (HT4.out.later hb5); have HB5 := Lib.hid (HB4.out.trans (hb5.mono HB4.out.size))
  clear hb5 HO4 HQ4 HT4 HB4
  go_wp2_with (refine wpList_alloc_g rfl _ rfl _ _ Tryz.zeroHash rfl ?_)
  intro H d6 hH
  go_wp2_with (refine wpList_store_row_g (t := 36) (old := cB 32 []) rfl 36 _ _ rfl H (c8 rt) rfl rfl hH.out.cells (Tryz.sizeHc rt H32.out) (by rw [c8_size, H32.out]; rfl) (c8_ones _) ?_)
  intro w6 h6 k6 z6
  have hb6 : Below w5.heap.size w5 w6 := hH.out.below.trans (k6.below (B := w5.heap.size) (fun x hx e => by have := hH.out.eq; omega) hH.out.below.size)
  have HH6 := Lib.hid h6; have HO6 := Lib.hid (HO5.out.later hb6); have HQ6 := Lib.hid (HQ5.out.later hb6); have HT6 := Lib.hid (HT5.out.later hb6); have HB6 := Lib.hid (HB5.out.trans (hb6.mono HB5.out.size))
  clear hH h6 k6 z6 hb6 HO5 HQ5 HT5 HB5
  go_wp2_with fail
  refine (plain_any w6 _ n lcap l (HR.out.later HB6.out) (by have := HN40.out; omega)).mono ?_
  rintro e7 w7 ⟨v7, rfl, ho7, hb7⟩
  obtain ⟨ad7, cap7, rfl, _, _⟩ := (ho7.rd rowE_len).shape
  rw [← HN.out] at ho7 ⊢
  have HP7 := Lib.hid ho7; have HH7 := Lib.hid (below_at2 hb7 HH6.out); have HO7 := Lib.hid (HO6.out.later hb7); have HQ7 := Lib.hid (HQ6.out.later hb7); have HT7 := Lib.hid (HT6.out.later hb7); have HB7 := Lib.hid (HB6.out.trans (hb7.mono HB6.out.size))
  clear ho7 hb7 HH6 HO6 HQ6 HT6 HB6
  go_wp2_with fail
  refine (rroot_any w7 g none [] _ n cap7 l (fun w' a' hgr => (own_grew HP7.out HT7.out hgr (by decide)).rd rowE_len) HOK.out (by have := HN40.out; omega) HT7.out (by simp)).mono ?_
  rw [List.nil_append, ← HRT.out, ← HRE.out]
  rintro e8 w8 ⟨rfl, a8, ht8, hg8⟩
  have HH8 := Lib.hid (tr_other HT7.out hg8 HH7.out (by decide)); have HO8 := Lib.hid (own_grew HO7.out HT7.out hg8 (by decide)); have HQ8 := Lib.hid (own_grew HQ7.out HT7.out hg8 (by decide)); have HT8 := Lib.hid ht8
  have HB8 := Lib.hid (hg8.belowN HB7.out (Nat.le_refl _) HGW.out (fun k hk => by cases hk))
  have HA8 := Lib.hid (hg8.far HB7.out.size (B := w.heap.size) (fun k hk => by cases hk))
  clear ht8 hg8 HH7 HO7 HQ7 HT7 HB7 HP7
  go_wp2_with (refine wpList_alloc_g rfl _ rfl _ _ Tryz.zeroHash rfl ?_)
  intro I d9 hI
  go_wp2_with (refine wpList_store_row_g (t := 36) (old := cB 32 []) rfl 36 _ _ rfl I (c8 rt) rfl rfl hI.out.cells (Tryz.sizeHc rt H32.out) (by rw [c8_size, H32.out]; rfl) (c8_ones _) ?_)
  intro w9 h9 k9 z9
  have hb9 : Below w8.heap.size w8 w9 := hI.out.below.trans (k9.below (B := w8.heap.size) (fun x hx e => by have := hI.out.eq; omega) hI.out.below.size)
  have HI9 := Lib.hid h9; have HH9 := Lib.hid (below_at2 hb9 HH8.out); have HO9 := Lib.hid (HO8.out.later hb9); have HQ9 := Lib.hid (HQ8.out.later hb9); have HT9 := Lib.hid (HT8.out.later hb9); have HB9 := Lib.hid (HB8.out.trans (hb9.mono HB8.out.size))
  clear hI h9 k9 z9 hb9 HH8 HO8 HQ8 HT8 HB8
  go_wp2_with fail
  refine (lclaim2_any w9 _ _ l e ts (HR.out.later HB9.out) HOK.out (by have := HN.out; have := HN40.out; omega) (HTS.out.later HB9.out) (by have := HTN.out; have := HT20.out; omega)).mono ?_
  rintro e10 w10 hret
  obtain ⟨v10, rfl, hc10, hb10⟩ := hret.out
  clear hret
  obtain ⟨CV, hCV⟩ : ∃ x, x = clmV (claimR l e ts) := ⟨_, rfl⟩
  obtain ⟨CE, hCE⟩ : ∃ x, x = clmE (claimR l e ts) := ⟨_, rfl⟩
  rw [← hCE]
  rw [← hCV] at hc10 HCK
  have HCV := Lib.hid hCV; have HCE := Lib.hid hCE
  have HV10 := Lib.hid hc10
  obtain ⟨p1, lv1, xs1, rfl, _, _, _⟩ := hc10
  have HI10 := Lib.hid (below_at2 hb10 HI9.out); have HH10 := Lib.hid (below_at2 hb10 HH9.out); have HO10 := Lib.hid (HO9.out.later hb10); have HQ10 := Lib.hid (HQ9.out.later hb10); have HT10 := Lib.hid (HT9.out.later hb10); have HB10 := Lib.hid (HB9.out.trans (hb10.mono HB9.out.size))
  clear hb10 hCV hCE HI9 HH9 HO9 HQ9 HT9 HB9
  obtain ⟨cl1, hcl1⟩ : ∃ x, x = clC CV.root CV.idx CV.e CV.h p1 lv1 CV.to := ⟨_, rfl⟩
  rw [← hcl1] at HV10 ⊢
  have HZ1 := Lib.hid (show cl1.size = 38 by rw [hcl1]; exact clC_size _ _ _ HCK.out.1 _ _ _); have HY1 := Lib.hid (show cl1.all (·.oneCell') = true by rw [hcl1]; exact clC_one _ _ _ _ _ _ _)
  clear hcl1
  go_wp2_with (refine wpList_alloc_g rfl _ rfl _ _ Tryz.zeroCl rfl ?_)
  intro C d11 hC
  go_wp2_with (refine wpList_store_row_g (t := 45) (old := clZ) rfl 45 _ _ rfl C cl1 rfl rfl hC.out.cells (by rw [HZ1.out]; exact Tryz.sizeCl 0 0 0 zero32_length nilS nilS 0) (by rw [HZ1.out]; rfl) HY1.out ?_)
  intro w11 h11 k11 z11
  have hb11 : Below w10.heap.size w10 w11 := hC.out.below.trans (k11.below (B := w10.heap.size) (fun x hx e => by have := hC.out.eq; omega) hC.out.below.size)
  have HC11 := Lib.hid h11; have HV11 := Lib.hid (HV10.out.later hb11); have HI11 := Lib.hid (below_at2 hb11 HI10.out); have HH11 := Lib.hid (below_at2 hb11 HH10.out); have HO11 := Lib.hid (HO10.out.later hb11); have HQ11 := Lib.hid (HQ10.out.later hb11); have HT11 := Lib.hid (HT10.out.later hb11); have HB11 := Lib.hid (HB10.out.trans (hb11.mono HB10.out.size))
  clear hC h11 k11 z11 hb11 HV10 HI10 HH10 HO10 HQ10 HT10 HB10
  go_wp2_with fail
  refine (plain_any w11 _ n lcap l (HR.out.later HB11.out) (by have := HN40.out; omega)).mono ?_
  rintro e12 w12 ⟨v12, rfl, ho12, hb12⟩
  obtain ⟨ad12, cap12, rfl, _, _⟩ := (ho12.rd rowE_len).shape
  rw [← HN.out] at ho12 ⊢
  have HP12 := Lib.hid ho12; have HC12 := Lib.hid (below_at2 hb12 HC11.out); have HV12 := Lib.hid (HV11.out.later hb12); have HI12 := Lib.hid (below_at2 hb12 HI11.out); have HH12 := Lib.hid (below_at2 hb12 HH11.out); have HO12 := Lib.hid (HO11.out.later hb12); have HQ12 := Lib.hid (HQ11.out.later hb12); have HT12 := Lib.hid (HT11.out.later hb12); have HB12 := Lib.hid (HB11.out.trans (hb12.mono HB11.out.size))
  clear ho12 hb12 HC11 HV11 HI11 HH11 HO11 HQ11 HT11 HB11
  go_wp2_with fail
  refine (rclaim_any w12 g a8 (rootNt l) _ n cap12 l (fun w' a' hgr => (own_grew HP12.out HT12.out hgr (by decide)).rd rowE_len) HOK.out (by have := HN40.out; omega) HT12.out (by have := rootNt_len (l := l) (by have := HN.out; have := HN40.out; omega); omega) e _ tn tcap ts (fun w' a' hgr => HTS.out.later (hgr.belowN HB12.out (Nat.le_refl _) HGW.out HA8.out)) (by have := HT20.out; omega)).mono ?_
  rintro e13 w13 ⟨v13, a13, rfl, hc13, hg13⟩
  rw [← HCE.out]
  rw [← HCV.out] at hc13
  have HW13 := Lib.hid hc13
  obtain ⟨p2, lv2, xs2, rfl, _, _, _⟩ := hc13
  obtain ⟨cl2, hcl2⟩ : ∃ x, x = clC CV.root CV.idx CV.e CV.h p2 lv2 CV.to := ⟨_, rfl⟩
  rw [← hcl2] at HW13 ⊢
  have HZ2 := Lib.hid (show cl2.size = 38 by rw [hcl2]; exact clC_size _ _ _ HCK.out.1 _ _ _); have HY2 := Lib.hid (show cl2.all (·.oneCell') = true by rw [hcl2]; exact clC_one _ _ _ _ _ _ _)
  have HC13 := Lib.hid (tr_other HT12.out hg13 HC12.out (by decide)); have HV13 := Lib.hid (HV12.out.grew HT12.out hg13); have HI13 := Lib.hid (tr_other HT12.out hg13 HI12.out (by decide)); have HH13 := Lib.hid (tr_other HT12.out hg13 HH12.out (by decide)); have HO13 := Lib.hid (own_grew HO12.out HT12.out hg13 (by decide)); have HQ13 := Lib.hid (own_grew HQ12.out HT12.out hg13 (by decide))
  have HB13 := Lib.hid (hg13.belowN HB12.out (Nat.le_refl _) HGW.out HA8.out)
  clear hcl2 hg13 HP12 HC12 HV12 HI12 HH12 HO12 HQ12 HT12 HB12
  go_wp2_with (refine wpList_alloc_g rfl _ rfl _ _ Tryz.zeroCl rfl ?_)
  intro E d14 hE'
  go_wp2_with (refine wpList_store_row_g (t := 45) (old := clZ) rfl 45 _ _ rfl E cl2 rfl rfl hE'.out.cells (by rw [HZ2.out]; exact Tryz.sizeCl 0 0 0 zero32_length nilS nilS 0) (by rw [HZ2.out]; rfl) HY2.out ?_)
  intro w14 h14 k14 z14
  have hb14 : Below w13.heap.size w13 w14 := hE'.out.below.trans (k14.below (B := w13.heap.size) (fun x hx e => by have := hE'.out.eq; omega) hE'.out.below.size)
  have HE14 := Lib.hid h14; have HW14 := Lib.hid (HW13.out.later hb14); have HC14 := Lib.hid (below_at2 hb14 HC13.out); have HV14 := Lib.hid (HV13.out.later hb14); have HI14 := Lib.hid (below_at2 hb14 HI13.out); have HH14 := Lib.hid (below_at2 hb14 HH13.out); have HO14 := Lib.hid (HO13.out.later hb14); have HQ14 := Lib.hid (HQ13.out.later hb14); have HB14 := Lib.hid (HB13.out.trans (hb14.mono HB13.out.size))
  clear hE' h14 k14 z14 hb14 HW13 HC13 HV13 HI13 HH13 HO13 HQ13 HB13
  go_wp2_with fail
  refine (plain_any w14 _ m cap2 (sV l) (HO14.out.rd rowE_len) (by have := HM.out.2; omega)).mono ?_
  rintro e15 w15 ⟨v15, rfl, ho15, hb15⟩
  have HP15 := Lib.hid ho15; have HE15 := Lib.hid (below_at2 hb15 HE14.out); have HW15 := Lib.hid (HW14.out.later hb15); have HC15 := Lib.hid (below_at2 hb15 HC14.out); have HV15 := Lib.hid (HV14.out.later hb15); have HI15 := Lib.hid (below_at2 hb15 HI14.out); have HH15 := Lib.hid (below_at2 hb15 HH14.out); have HQ15 := Lib.hid (HQ14.out.later hb15); have HB15 := Lib.hid (HB14.out.trans (hb15.mono HB14.out.size))
  clear ho15 hb15 HE14 HW14 HC14 HV14 HI14 HH14 HO14 HQ14 HB14
  go_wp2_with fail
  refine (rsame_any v15 _ (sV l) w15 (HP15.out.rd rowE_len) (HQ15.out.rd rowE_len)).mono ?_
  rintro e16 w16 ⟨rfl, hb16⟩
  have HE16 := Lib.hid (below_at2 hb16 HE15.out); have HW16 := Lib.hid (HW15.out.later hb16); have HC16 := Lib.hid (below_at2 hb16 HC15.out); have HV16 := Lib.hid (HV15.out.later hb16); have HI16 := Lib.hid (below_at2 hb16 HI15.out); have HH16 := Lib.hid (below_at2 hb16 HH15.out); have HB16 := Lib.hid (HB15.out.trans (hb16.mono HB15.out.size))
  clear hb16 HE15 HW15 HC15 HV15 HI15 HH15 HP15 HQ15 HB15
  have heq : ∀ w', (Op.equalIn 10000 36 (.agg (c8 rt)) (.agg (c8 rt))).run Tryz.prog w' = .ok true w' := fun w' => (Tryz.eqH rt rt H32.out H32.out w').trans (by rw [decide_eq_true rfl])
  go_wp2_with (first
    | (refine wpList_load_row_y rfl 36 _ rfl H rfl 36 _ _ _ HH16.out Tryz.underlying36 rfl (Tryz.sizeHc rt H32.out) ?_)
    | (refine wpList_load_row_y rfl 36 _ rfl I rfl 36 _ _ _ HI16.out Tryz.underlying36 rfl (Tryz.sizeHc rt H32.out) ?_)
    | (refine wpList_load_row_y rfl 45 _ rfl C rfl 45 _ _ _ HC16.out Tryz.underlying45 rfl (by rw [HZ1.out]; exact Tryz.sizeCl 0 0 0 zero32_length nilS nilS 0) ?_)
    | (refine wpList_load_row_y rfl 45 _ rfl E rfl 45 _ _ _ HE16.out Tryz.underlying45 rfl (by rw [HZ2.out]; exact Tryz.sizeCl 0 0 0 zero32_length nilS nilS 0) ?_))
  clear heq
  refine (sameclaim_any _ _ CV w16 HV16.out.rd HW16.out.rd HCK.out.1 HCK.out.2.1 HCK.out.2.2.1 (by have := HCK.out.2.2.2; have := HTN.out; have := HT20.out; omega)).mono ?_
  rintro e17 w17 ⟨rfl, hb17⟩
  have HB17 := Lib.hid (HB16.out.trans (hb17.mono HB16.out.size))
  clear hb17 HE16 HW16 HC16 HV16 HI16 HH16 HB16
  go_wp2_with fail
  refine (lives16_any _).mono ?_
  rintro e9 wl ⟨rfl, hbl⟩
  have HBl := Lib.hid (HB17.out.trans (hbl.mono HB17.out.size))
  clear hbl
  go_wp2_with fail
  go_ret
  exact ⟨rfl, HBl.out⟩
end
end Go.Proofs.YtmclmccgghnglaaGreat
