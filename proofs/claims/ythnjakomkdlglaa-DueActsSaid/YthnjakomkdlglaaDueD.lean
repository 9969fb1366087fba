/- Due: Add (code). No condition. -/
import Derived.Test.YthnjakomkdlglaaDueC
import Derived.Test.YthnjakomkdlglaaGoo
namespace Go.Proofs.Ythnjakomkdlglaa
open Go.RowKit
attribute [local go_sem] Oper.semAt_some

/-- The number behind those of some rows. -/
def dnext (rows : List ((Int × Int) × List Int)) : Int := rows.foldl (fun n r => max n (r.1.2 + 1)) 0
theorem dnext_snoc (rows : List ((Int × Int) × List Int)) (r : (Int × Int) × List Int) : dnext (rows ++ [r]) = max (dnext rows) (r.1.2 + 1) := by unfold dnext; rw [List.foldl_append]; rfl
theorem dnext_bound {m : Int} : ∀ (rows : List ((Int × Int) × List Int)), (∀ r ∈ rows, r.1.2 < m) → 0 ≤ m → 0 ≤ dnext rows ∧ dnext rows ≤ m := by
  have h : ∀ (rows : List ((Int × Int) × List Int)) (n : Int), 0 ≤ n → n ≤ m → (∀ r ∈ rows, r.1.2 < m) → 0 ≤ rows.foldl (fun n r => max n (r.1.2 + 1)) n ∧ rows.foldl (fun n r => max n (r.1.2 + 1)) n ≤ m := by
    intro rows
    induction rows with
    | nil => intro n h1 h2 _; exact ⟨h1, h2⟩
    | cons r rows ih =>
      intro n h1 h2 h3
      have := h3 r (by simp)
      exact ih (max n (r.1.2 + 1)) (by omega) (by omega) (fun x hx => h3 x (by simp [hx]))
  exact fun rows h1 h2 => h rows 0 (Int.le_refl _) h2 h1
/-- Add: the store behind it. -/
def daddN (s : PS) (bk : Int) : Int := dnext (rowsT (underP s.t (keyF 26 [bk])))
def PS.dput (s : PS) (bk n : Int) (l : List Int) : PS := s.setRow (keyF 26 [bk, n]) l
def PS.dcnt (s : PS) : PS := s.setInt (keyF 27 []) (getI (getP s.t) (keyF 27 []) + 1)
def PS.dadd (s : PS) (bk : Int) (l : List Int) : PS := (s.dput bk (daddN s bk) l).dcnt
def DBad (bk : Int) (l : List Int) : Prop := bk < 0 ∨ 1099511627776 < bk ∨ goodL l = false

set_option maxHeartbeats 8000000 in
set_option maxRecDepth 100000 in
theorem dadd_any {w : World} {g : Nat} {s : PS} {F : List Nat} (h : St w g s F) (hz : s.sz < 1000000000) (hfit : Fit s) {bk : Int} (hb0 : 0 ≤ bk) (hb1 : bk ≤ 1099511627776) {v : Value} {l : List Int} (hrd : Rd w intE 1 v l) (hll : l.length ≤ 100000) (hli : I64s l) (hg : goodL l = true) {T : Tab} (hTT : T = underP s.t (keyF 26 [bk])) (hT : TabOk T) (hok : ∀ r ∈ rowsT T, 0 ≤ r.1.2 ∧ r.1.2 < 1000000000000) (hc : getI (getP (s.dput bk (daddN s bk) l).t) (keyF 27 []) < 1000000000000) :
    Calls Try.prog 12 #[.pointer (some ⟨g, 0, none⟩), .int .i64 bk, v] w (fun e w' => e = .returned (.int .i64 0) ∧ Liv w F w' g (s.dadd bk l)) := by
  have HU : Hid (Und w (some ⟨g, 0, none⟩) (keyF 26 [bk]) T) := Lib.hid (by rw [hTT]; exact fun W hW => sunder_any (h.later hW) (by unfold PS.sz at hz; omega) _)
  have HNX : Hid (daddN s bk = dnext (rowsT T)) := Lib.hid (by rw [hTT]; rfl)
  obtain ⟨ad, cap, rfl, c1, c2⟩ := hrd.shape
  have hmk := smade_any h
  have L := Lib.hid (Liv.start h); have HZ := Lib.hid hz; have HF := Lib.hid hfit; have HT := Lib.hid hT; have HOK := Lib.hid hok; have HRD := Lib.hid hrd; have HLL := Lib.hid hll; have HLI := Lib.hid hli; have HBK := Lib.hid (And.intro hb0 hb1); have HCC := Lib.hid hc
  have hgd := good_any hrd
  rw [hg] at hgd
  have d0 : decide (bk < 0) = false := decide_eq_false (by omega)
  have d1 : decide (1099511627776 < bk) = false := decide_eq_false (by omega)
  clear h hz hfit hTT hT hok hrd hll hli hb0 hb1 hg hc
  refine (callsIn_wide (n := 9)).1 (callsIn_of_wp_marks Try.func12 rfl trivial ?_ rfl)
  simp only [Try.ntmps12, List.size_toArray, List.length_cons, List.length_nil, Nat.reduceAdd, Nat.reduceSub, Array.replicate_succ, Array.replicate_zero, List.push_toArray, List.append_toArray, List.nil_append, List.cons_append]
  refine wpIn_wide.2 ?_
  go_wp2_with fail
  refine hmk.mono ?_
  rintro e _ ⟨rfl, rfl⟩
  clear hmk
  go_wp2_with fail
  refine hgd.mono ?_
  rintro e _ ⟨rfl, rfl⟩
  clear hgd
  go_wp2_with fail
  obtain ⟨w1, hw1⟩ : ∃ w1, w1 = (w.alloc (.cells #[.int .i64 0] 3)).alloc (.cells #[.int .i64 bk] 3) := ⟨_, rfl⟩
  obtain ⟨N0, hN0⟩ : ∃ x, x = w.heap.size := ⟨_, rfl⟩
  obtain ⟨gi, hgi⟩ : ∃ x, x = w.heap.size + 1 := ⟨_, rfl⟩
  rw [← hw1, ← hgi, ← hN0]
  have hbx := two_boxes w #[.int .i64 0] #[.int .i64 bk] 3 3 w1 hw1
  rw [← hgi, ← hN0] at hbx
  have HN0 := Lib.hid hbx.1
  have HOI : Hid (Own w1 0 3 intE 1 (.slice (some ⟨gi, 0, none⟩) 1 1) [bk]) := Lib.hid (own_lit (l := [bk]) hbx.2.1 (Nat.zero_le _) (by unfold maxLen; simp))
  have WB : Hid (Below w.heap.size w w1) := Lib.hid (by rw [← hN0]; exact hbx.2.2.1)
  have WN : Hid (N0 = w.heap.size) := Lib.hid hN0
  clear hbx hw1 hN0 hgi d0 d1
  refine (key_any 26 [bk] _ _ (by simp) (I64s.one (by have := HBK.out; omega)) (own_rd HOI.out)).mono ?_
  rintro e w2 ⟨rfl, hb⟩
  have HN2 := Lib.hid (below_at' hb HN0.out); have WB2 := Lib.hid (WB.out.trans (hb.mono WB.out.size))
  clear hb HN0 HOI WB
  obtain ⟨K26, hK26⟩ : ∃ x, x = keyF 26 [bk] := ⟨_, rfl⟩
  rw [← hK26] at HU ⊢
  clear hK26
  go_wp2_with fail
  refine (all_any _ K26 _).mono ?_
  rintro e w3 ⟨rfl, hw3⟩
  obtain ⟨A1, hA1⟩ : ∃ A1, A1 = w2.heap.size := ⟨_, rfl⟩
  obtain ⟨A2, hA2⟩ : ∃ A2, A2 = w2.heap.size + 1 := ⟨_, rfl⟩
  have hbx := two_boxes w2 #[.pointer (some ⟨g, 0, none⟩)] #[.string (bs K26)] 30 9 w3 hw3
  rw [← hA2, ← hA1] at hbx ⊢
  have hb3 : Below w2.heap.size w2 w3 := by rw [← hA1]; exact hbx.2.2.1
  have R1 := Lib.hid hbx.1; have R2 := Lib.hid hbx.2.1
  have S0 := Lib.hid (below_at' hb3 HN2.out); have SB := Lib.hid (WB2.out.trans (hb3.mono WB2.out.size))
  have HU3 := Lib.hid (HU.out.later SB.out)
  clear hbx hb3 hA1 hA2 hw3 HN2 WB2 HU
  go_wp2_with fail
  refine (wpIn_wide (n := 9)).1 (wpIn_range_g (w0 := w3) (by omega) (gf := 74) (lb := #[.pointer (some ⟨A1, 0, none⟩), .pointer (some ⟨A2, 0, none⟩)]) rfl (enters_of Try.func74 (by kernel_rfl) rfl)
    (all_seq R1.out R2.out HU3.out HT.out.1 HT.out.2 8) (Below.refl _ _) (fun _ => rfl) KpP.trans KpP.aside
    (fun pre W => (∀ r ∈ pre.map drK, r.1.2 < 1000000000000) ∧ W.heap[N0]? = some (.cells #[.int .i64 (dnext (pre.map drK))] 3 (0, 0)) ∧ Below w.heap.size w W)
    (fun _ _ _ => False)
    (fun pre A B h a => ⟨h.1, cells_aside h.2.1 a, below_aside h.2.2 a SB.out.size (Nat.le_refl _)⟩)
    (fun c pre A B h a => h)
    ⟨(fun r hr => by cases hr), S0.out, SB.out⟩
    (fun y a' W => drK y ∈ rowsT T ∧ ∃ b4, W.heap[b4]? = some (.cells #[.int .i64 y.b, .int .i64 y.n] 81 (0, 0)) ∧ a' = { tmps := #[.pointer (some ⟨g, 0, none⟩), .int .i64 bk, .slice ad l.length cap, undef, undef, undef, .int .i64 0, .pointer (some ⟨N0, 0, none⟩), .pointer (some ⟨b4, 0, none⟩), undef, .bool false, .pointer (some ⟨g, 0, none⟩), .bool true, .bool false, .bool false, .int .i64 bk, .bool false, .bool false, .int .i64 bk, .bool false, .bool false, .bool false, .slice ad l.length cap, .bool true, .bool false, .bool false, .pointer (some ⟨g, 0, none⟩), .int .i64 bk, .slice (some ⟨gi, 0, none⟩) 1 1, .string (bs K26), .func (.func 74) #[] #[.pointer (some ⟨A1, 0, none⟩), .pointer (some ⟨A2, 0, none⟩)], .agg #[.int .i64 y.b, .int .i64 y.n], y.v, undef, undef, undef, undef, undef, undef, undef, undef, undef, undef, undef, undef, undef, undef, undef, undef, undef, undef, undef], defers := [] })
    (fun y a' A B h a => by obtain ⟨h1, b4, h3, h4⟩ := h; exact ⟨h1, b4, cells_aside h3 a, h4⟩) ?assign ?body ?done ?stop)
  case assign =>
    intro l0 pre y W K hi hg hlen hK
    simp only [drE]
    rw [fold_two]
    go_frame
    refine wpIn_region_lay (by kernel_rfl) ?_
    refine wpList_alloc_g rfl _ rfl _ _ Try.zeroPl rfl ?_
    intro b4 w7 h7
    go_frame
    refine wpList_store_row_g (t := 81) (old := #[.int .i64 0, .int .i64 0]) rfl 81 _ _ rfl b4 #[.int .i64 y.b, .int .i64 y.n] rfl rfl h7.out.cells Try.sizePl rfl (one_i64 _ _) ?_
    intro w8 h8 k8 z8
    have hb8 : Below W.heap.size W w8 := h7.out.below.trans (k8.below (B := W.heap.size) (fun q hq e => by have := h7.out.eq; omega) h7.out.below.size)
    exact hK _ _ hb8 ⟨hg.2, b4, h8, rfl⟩
  case body =>
    rintro l0 pre y a' W hl ⟨q9, q0, qb⟩ ⟨hm, b4, c4, rfl⟩ hlen
    have hok := HOK.out _ hm
    have hdb := dnext_bound (m := 1000000000000) _ q9 (by omega)
    have hsn := dnext_snoc (pre.map drK) (drK y)
    obtain ⟨dn, hdn⟩ : ∃ x, x = dnext (pre.map drK) := ⟨_, rfl⟩
    rw [← hdn] at q0 hdb hsn
    have c0 : W.cell? ⟨b4, 1, none⟩ = some (.int .i64 y.n) := Lib.cell_of_heap c4 1
    have e0 : W.cell? ⟨N0, 0, none⟩ = some (.int .i64 dn) := Lib.cell_of_heap q0 0
    have f0 : W.frozen? ⟨N0, 0, none⟩ = false := Lib.frozen_of_heap q0 0
    have HSN := Lib.hid hsn; have HQ9 := Lib.hid q9; have HMM : Hid (y.n < 1000000000000) := Lib.hid hok.2; have HDB := Lib.hid hdb
    have hyn : 0 ≤ y.n ∧ y.n < 1000000000000 := hok
    have hw0 : IntKind.i64.wrap (y.n + 1) = y.n + 1 := IntWalk.i64_in _ (by omega)
    clear hdn hsn q9 hm hok
    gi_wp2_with fail
    have hk : Keep (fun k => k = N0) W (W.setCell ⟨N0, 0, none⟩ (.int .i64 (max dn (y.n + 1)))) := (Keep.refl (fun k => k = N0) W).setCell (p := ⟨N0, 0, none⟩) (.inl rfl) _
    have s0 : (W.setCell ⟨N0, 0, none⟩ (.int .i64 (max dn (y.n + 1)))).heap[N0]? = some (.cells #[.int .i64 (max dn (y.n + 1))] 3 (0, 0)) := heap_setCell_same _ _ _ _ _ _ q0
    refine ⟨Leaves.of_keep hk fun k h => by subst h; exact ⟨_, q0, rfl⟩, KpP.off hk (fun k h => by subst h; exact ⟨_, _, _, q0, by decide⟩), ?_, ?_, qb.trans (hk.below (B := w.heap.size) (fun k hk e => ?_) qb.size)⟩
    · intro r hr
      rw [List.map_append] at hr
      rcases List.mem_append.1 hr with hr | hr
      · exact HQ9.out r hr
      · rw [List.mem_singleton.1 hr]; exact HMM.out
    · rw [s0, List.map_append]
      show _ = some (Obj.cells #[.int .i64 (dnext (pre.map drK ++ [drK y]))] 3 (0, 0))
      rw [HSN.out]
      rfl
    · have := WN.out; omega
  case done =>
    rintro D xs W hD hS ⟨q9, q0, qb⟩ hmk
    rw [hS] at q0
    have hdb := dnext_bound (m := 1000000000000) (rowsT T) (fun r hr => (HOK.out r hr).2) (by omega)
    have hnx := HNX.out
    obtain ⟨dn, hdn⟩ : ∃ x, x = dnext (rowsT T) := ⟨_, rfl⟩
    rw [← hdn] at q0 hdb hnx
    have HDN := Lib.hid hdb; have HNN := Lib.hid hnx
    have HD := Lib.hid hD; have MK := Lib.hid hmk
    have Lm := Lib.hid (L.out.later qb); have HRm := Lib.hid (HRD.out.later qb)
    have c0 : W.cell? ⟨N0, 0, none⟩ = some (.int .i64 dn) := Lib.cell_of_heap q0 0
    clear hD hS q9 q0 qb hmk hdn hdb hnx L HRD S0 R1 R2 HU3
    have L := Lm
    have HRD := HRm
    clear Lm HRm
    go_wp2_with fail
    clear c0
    refine (pkey_any (by have := HBK.out; omega) (by have := HDN.out; omega) _).mono ?_
    rintro e u1 ⟨rfl, hb⟩
    have Lm := Lib.hid (L.out.later hb); have HRm := Lib.hid (HRD.out.later hb); have MKm := Lib.hid (below_at' hb MK.out)
    clear hb L HRD MK
    have L := Lm
    have HRD := HRm
    have MK := MKm
    clear Lm HRm MKm
    go_wp2_with fail
    obtain ⟨s2, hs2⟩ : ∃ x, x = s.dput bk dn l := ⟨_, rfl⟩
    refine (L.out.callS fun F2 hs => setRow_any hs (by have := HZ.out; omega) (keyF 26 [bk, dn]) (by have := HLL.out; omega) HLI.out HRD.out).mono ?_
    rw [show s.setRow (keyF 26 [bk, dn]) l = s2 from hs2.symm]
    rintro e u2 ⟨rfl, o, hoth⟩
    have HS2 : Hid (s2 = s.dput bk dn l) := Lib.hid hs2
    have HF2 : Hid (Fit s2 ∧ s2.sz ≤ s.sz + 2) := Lib.hid (by rw [hs2]; exact ⟨HF.out.setRow _ HLL.out, sz_setRow _ _ _⟩)
    have Lm := Lib.hid o; have MKm := Lib.hid (hoth.2 D _ MK.out rfl)
    clear o hoth L HRD MK hs2
    have L := Lm
    have MK := MKm
    clear Lm MKm
    go_wp2_with fail
    refine (key_any 27 [] _ _ (by simp) I64s_nil (Rd.nil _ _ _)).mono ?_
    rintro e u3 ⟨rfl, hb⟩
    have Lm := Lib.hid (L.out.later hb); have MKm := Lib.hid (below_at' hb MK.out)
    clear hb L MK
    have L := Lm
    have MK := MKm
    clear Lm MKm
    go_wp2_with fail
    obtain ⟨F3, hst⟩ : ∃ F3, St u3 g s2 F3 := by obtain ⟨F3, h3, _⟩ := L.out; exact ⟨F3, h3⟩
    refine (dlen_any (Look.of_st hst) HF2.out.1.f).mono ?_
    obtain ⟨gn, hgn⟩ : ∃ x, x = getI (getP s2.t) (keyF 27 []) := ⟨_, rfl⟩
    rw [← hgn]
    have hgb := getI_bound (getP s2.t) (keyF 27 [])
    rw [← hgn] at hgb
    have hcc := HCC.out
    rw [HNN.out, ← HS2.out, ← hgn] at hcc
    have HGN := Lib.hid hgn; have HGB := Lib.hid (And.intro hgb.1 hcc)
    rintro e u4 ⟨rfl, hb⟩
    have Lm := Lib.hid (L.out.later hb); have MKm := Lib.hid (below_at' hb MK.out)
    clear hb L MK hst hgn hgb
    have L := Lm
    have MK := MKm
    clear Lm MKm
    have hw1 : IntKind.i64.wrap (gn + 1) = gn + 1 := IntWalk.i64_in _ (by have := HGB.out; omega)
    go_wp2_with fail
    clear hw1 hcc
    refine (L.out.callS fun F2 hs => setInt_any hs (by have := HZ.out; have := HF2.out.2; omega) (keyF 27 []) (gn + 1) (by have := HGB.out; omega)).mono ?_
    rintro e u5 ⟨rfl, o, hoth⟩
    have Lm := Lib.hid o; have MKm := Lib.hid (hoth.2 D _ MK.out rfl)
    clear o hoth L MK
    have L := Lm
    have MK := MKm
    clear Lm MKm
    go_wp2_with fail
    refine leave_aside (B := w3.heap.size) _ _ (Marks.cons ⟨List.Pairwise.nil, fun _ h => by cases h⟩ HD.out MK.out (fun _ h => by cases h)) fun w' hw' => ?_
    refine ⟨_, results_tmp rfl _ _ _, rfl, ?_⟩
    have hq := L.out.aside hw' SB.out.size
    rw [HGN.out, HS2.out, ← HNN.out] at hq
    exact hq
  case stop =>
    rintro D c pre W hD hSp h hmk
    exact h.elim
end Go.Proofs.Ythnjakomkdlglaa
