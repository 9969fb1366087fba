/- Groups of rows, one for each earner; their leaves (code). No condition. -/
import Derived.Test.YtmclmccgghnglaaGreatLsLeaG
import Derived.Test.YtmclmccgghnglaaGreatLs11
namespace Go.Proofs.YtmclmccgghnglaaGreat
open Go.RowKit

/-- How many rows at the head are e's. -/
def lead (e : Int) : List LRow → Nat
  | [] => 0
  | x :: l => if x.e = e then lead e l + 1 else 0
theorem lead_le (e : Int) : ∀ l, lead e l ≤ l.length
  | [] => Nat.le_refl _
  | x :: l => by unfold lead; have := lead_le e l; split <;> simp; omega
theorem lead_at (e : Int) : ∀ (l : List LRow) (j : Nat) (h : j < l.length), j < lead e l → l[j].e = e
  | [], _, h, _ => by simp at h
  | x :: l, j, h, hj => by
    unfold lead at hj
    split at hj
    · cases j with
      | zero => assumption
      | succ j => exact lead_at e l j (by simpa using h) (by omega)
    · omega
theorem lead_end (e : Int) : ∀ (l : List LRow) (h : lead e l < l.length), l[lead e l].e ≠ e
  | [], h => by simp at h
  | x :: l, h => by
    by_cases hx : x.e = e
    · have e1 : lead e (x :: l) = lead e l + 1 := by rw [lead, if_pos hx]
      rw [e1] at h
      have := lead_end e l (by simpa using h)
      simpa only [e1, List.getElem_cons_succ] using this
    · have e1 : lead e (x :: l) = 0 := by rw [lead, if_neg hx]
      simpa only [e1, List.getElem_cons_zero] using hx
/-- Rows that follow one another and are of one earner, together. -/
def groupsF : List LRow → List (Int × List LRow)
  | [] => []
  | r :: l => (r.e, r :: l.take (lead r.e l)) :: groupsF (l.drop (lead r.e l))
termination_by l => l.length
decreasing_by simp; omega
theorem groupsF_nil : groupsF [] = [] := by rw [groupsF]
theorem groupsF_cons (r : LRow) (l : List LRow) : groupsF (r :: l) = (r.e, r :: l.take (lead r.e l)) :: groupsF (l.drop (lead r.e l)) := by rw [groupsF]
/-- How many rows the first group has. -/
def headN (r : LRow) (l : List LRow) : Nat := lead r.e l + 1
theorem headN_le (r : LRow) (l : List LRow) : headN r l ≤ (r :: l).length := by
  have := lead_le r.e l
  unfold headN; simp; omega
theorem head_take (r : LRow) (l : List LRow) : (r :: l).take (headN r l) = r :: l.take (lead r.e l) := rfl
theorem head_drop (r : LRow) (l : List LRow) : (r :: l).drop (headN r l) = l.drop (lead r.e l) := rfl
theorem head_idx (r : LRow) (l : List LRow) : (fidx (fun x : LRow => decide (x.e ≠ r.e)) (r :: l) < 0 ∧ headN r l = (r :: l).length) ∨ fidx (fun x : LRow => decide (x.e ≠ r.e)) (r :: l) = (headN r l : Int) := by
  have hT : ∀ j (h : j < (r :: l).length), j < headN r l → decide ((r :: l)[j].e ≠ r.e) = false := fun j h hj => by
    cases j with
    | zero => simp
    | succ j =>
      have h1 := lead_at r.e l j (by simpa using h) (by unfold headN at hj; omega)
      have h2 : (r :: l)[j + 1].e = r.e := h1
      exact decide_eq_false (fun k => k h2)
  rcases Nat.lt_or_ge (headN r l) (r :: l).length with h | h
  · right
    have h1 := lead_end r.e l (by unfold headN at h; simpa using h)
    exact fidx_at h hT (decide_eq_true h1)
  · left
    have := headN_le r l
    refine ⟨?_, by omega⟩
    rw [fidx_none (fun j hj => hT j hj (by omega))]
    decide
/-- Groups as they lie. -/
def GPair (w : World) (b : Option Nat) (raws : List (Int × SlV)) (gs : List (Int × List LRow)) : Prop := raws.length = gs.length ∧ (∀ (i : Nat) (r : Int × SlV) (g : Int × List LRow), raws[i]? = some r → gs[i]? = some g → r.1 = g.1 ∧ Rd w rowE 6 (slV r.2) g.2) ∧ ∀ r ∈ raws, ∀ k, (slV r.2).ownBlock = some k → b = some k
theorem GPair.keep {w w' : World} {b : Option Nat} {raws : List (Int × SlV)} {gs : List (Int × List LRow)} (h : GPair w b raws gs) {S : Nat → Prop} (hk : Keep S w w') (hS : ∀ x, b = some x → ¬ S x) : GPair w' b raws gs :=
  ⟨h.1, fun i r g h1 h2 => ⟨(h.2.1 i r g h1 h2).1, (h.2.1 i r g h1 h2).2.keep hk fun k e _ => hS k (h.2.2 r (List.mem_of_getElem? h1) k e)⟩, h.2.2⟩
theorem GPair.later {w w' : World} {b : Option Nat} {raws : List (Int × SlV)} {gs : List (Int × List LRow)} (h : GPair w b raws gs) (hb : Below w.heap.size w w') : GPair w' b raws gs := h.keep (S := fun _ => False) (Keep.of_below hb) fun _ _ h => h
theorem GPair.snoc {w : World} {b : Option Nat} {raws : List (Int × SlV)} {gs : List (Int × List LRow)} (h : GPair w b raws gs) {x : Int} {v : SlV} {l : List LRow} (hv : Rd w rowE 6 (slV v) l) (hb : ∀ k, (slV v).ownBlock = some k → b = some k) : GPair w b (raws ++ [(x, v)]) (gs ++ [(x, l)]) := by
  refine ⟨by simp [h.1], fun i r g h1 h2 => ?_, fun r hr => ?_⟩
  · rcases Nat.lt_or_ge i raws.length with hi | hi
    · rw [List.getElem?_append_left hi] at h1
      rw [List.getElem?_append_left (by rw [← h.1]; exact hi)] at h2
      exact h.2.1 i r g h1 h2
    · rw [List.getElem?_append_right hi] at h1
      rw [List.getElem?_append_right (by rw [← h.1]; exact hi)] at h2
      have h0 : i - raws.length = 0 := by
        rcases Nat.eq_zero_or_pos (i - raws.length) with h | h
        · exact h
        · rw [List.getElem?_eq_none (by simp; omega)] at h1; cases h1
      rw [h0] at h1; rw [← h.1, h0] at h2
      simp at h1 h2
      subst h1 h2
      exact ⟨rfl, hv⟩
  · rcases List.mem_append.1 hr with hr | hr
    · exact h.2.2 r hr
    · simp at hr; subst hr; exact hb
/-- What leaf.groups hands back, of rows in block b. -/
def GroupsRet (w : World) (b : Option Nat) (gs : List (Int × List LRow)) (e : Ending) (w' : World) : Prop := ∃ v raws, e = .returned v ∧ Own w' w.heap.size 157 gE 2 v raws ∧ GPair w b raws gs ∧ Below w.heap.size w w'
theorem run_slice3 {P : Program} {t e : TypeId} (ht : P.underlying t = some (.slice e)) {sz : Nat} (hs : (P.info? e).map (·.size) = some sz) (w : World) (ad : Option Addr) (L cap n : Nat) (hn : n ≤ cap) (kl : IntKind) :
    (Instr.slice t (.slice ad L cap) none (some (.int kl (n : Int))) (some (.int kl (n : Int)))).run P w = .ok (.slice (if n = 0 then ad else ad.map (·.add (0 * sz))) n n) w := by
  cases hq : P.info? e with
  | none => simp [hq] at hs
  | some inf =>
    have h5 : (0 : Int) ≤ n := by omega
    have h6 : (n : Int) ≤ (cap : Int) := by omega
    simp [Instr.slice, run_underlying ht, Instr.sliceBounds, run_sliceBound, h5, h6, sizeOf, typeInfo, hq]
/-- l[:n:n]. -/
theorem Rd.cut3 {w : World} {ad : Option Addr} {n cap k : Nat} {l : List LRow} (h : Rd w rowE 6 (.slice ad n cap) l) (hk : k ≤ l.length) : Rd w rowE 6 (.slice (if k = 0 then ad else ad.map (·.add (0 * 6))) k k) (l.take k) ∧ ∀ q, (Value.slice (if k = 0 then ad else ad.map (·.add (0 * 6))) k k).ownBlock = some q → Value.ownBlock (.slice ad n cap) = some q := by
  obtain ⟨ad', cap', e, h1, h2, h3⟩ := h
  cases e
  have hk2 : (l.take k).length = k := by rw [List.length_take]; omega
  constructor
  · refine ⟨_, _, by rw [hk2], by omega, by omega, fun hne => ?_⟩
    have hk0 : k ≠ 0 := by intro e; subst e; simp at hne
    obtain ⟨b, off, rfl, hb, hc⟩ := h3 (by intro e; subst e; simp at hne)
    refine ⟨b, off, by rw [if_neg hk0]; simp [Addr.add], hb, fun i hi j hj => ?_⟩
    rw [hk2] at hi
    rw [hc i (by omega) j hj]
    simp
  · intro q hq
    cases ad with
    | none => split at hq <;> simp [Value.ownBlock] at hq
    | some a =>
      have : (if k = 0 then some a else Option.map (fun x => x.add (0 * 6)) (some a)) = some a := by split <;> simp [Addr.add]
      rw [this] at hq
      exact hq

theorem Tryz.infoGrp : (Tryz.prog.info? 157).map (fun i => (i.zero, i.size, i.bytes)) = some (some (.agg #[.int .i64 0, .slice none 0 0]), 2, 32) := by kernel_rfl
theorem Tryz.sizeGrp : (Tryz.prog.info? 157).map (·.size) = some 2 := by kernel_rfl
theorem rd_grp (w : World) (x : Int) (v : SlV) (e : TypeId) : Rd (w.alloc (.cells #[.int .i64 x, .slice v.1 v.2.1 v.2.2] e)) gE 2 (.slice (some ⟨w.heap.size, 0, none⟩) 1 1) [(x, v)] := by
  refine ⟨_, _, rfl, Nat.le_refl _, by unfold maxLen; omega, fun _ => ⟨_, _, rfl, by simp, fun i hi j hj => ?_⟩⟩
  obtain rfl : i = 0 := by simpa using hi
  rw [Lib.cell_of_heap (heap_alloc_new w _)]
  simp [gE, slV]
def lenAt (w : World) (A : Nat) : Nat := match w.cell? ⟨A, 0, none⟩ with
  | some (.slice _ n _) => n
  | _ => 0
theorem lenAt_of {w : World} {A : Nat} {ad : Option Addr} {n cap : Nat} (h : w.cell? ⟨A, 0, none⟩ = some (.slice ad n cap)) : lenAt w A = n := by unfold lenAt; rw [h]
set_option maxHeartbeats 16000000 in
set_option maxRecDepth 100000 in
theorem groups_any (w : World) (v : Value) (l : List LRow) (hr : Rd w rowE 6 v l) (hlen : l.length < 1000000) : Calls Tryz.prog 185 #[v] w (GroupsRet w v.ownBlock (groupsF l)) := by
  obtain ⟨ad0, cap0, rfl, _, _⟩ := hr.shape
  obtain ⟨n0, hn0⟩ : ∃ n0, n0 = l.length := ⟨_, rfl⟩
  rw [← hn0] at hr hlen ⊢
  have HR := Lib.hid hr; have HL := Lib.hid hlen; have HN0 := Lib.hid hn0
  clear hr hlen hn0
  go_enter Tryz.func185, Tryz.ntmps185
  go_wp2_with fail
  obtain ⟨w1, hw1⟩ : ∃ w1, w1 = w.alloc (.cells #[.slice ad0 n0 cap0] 22) := ⟨_, rfl⟩
  obtain ⟨A, hA⟩ : ∃ A, A = w.heap.size := ⟨_, rfl⟩
  rw [← hw1, ← hA]
  have HA1 := Lib.hid (show w1.heap[A]? = some (.cells #[.slice ad0 n0 cap0] 22 (0, 0)) by rw [hw1, hA]; exact heap_alloc_new _ _)
  have HB1 := Lib.hid (show Below w.heap.size w w1 by rw [hw1]; exact (Below.refl _ _).alloc (Nat.le_refl _) _)
  have WA := Lib.hid hA
  clear hw1 hA
  go_loopw [3] (fun vo wr => ∃ (rest : List LRow) (vl : Value) (raws : List (Int × SlV)) (done : List (Int × List LRow)), Hid (wr.heap[A]? = some (.cells #[vl] 22 (0, 0))) ∧ Hid (Rd w rowE 6 vl rest) ∧ Hid (rest.length ≤ l.length) ∧
      Hid (Own wr (A + 1) 157 gE 2 vo raws) ∧ Hid (∀ k, vl.ownBlock = some k → Value.ownBlock (.slice ad0 n0 cap0) = some k) ∧ Hid (GPair w (Value.ownBlock (.slice ad0 n0 cap0)) raws done) ∧ Hid (raws.length + rest.length ≤ l.length) ∧ Hid (done ++ groupsF rest = groupsF l) ∧ Hid (Below w.heap.size w wr)) (fun _ wr => lenAt wr A)
  case atStart => exact ⟨l, _, [], [], HA1, HR, Lib.hid (Nat.le_refl _), Lib.hid (Own.nil _ _ _ _ _), Lib.hid (fun k h => h), Lib.hid ⟨rfl, (fun i r g h => by simp at h), fun r h => by simp at h⟩, Lib.hid (by simp), Lib.hid rfl, HB1⟩
  case round =>
    clear HA1 HB1
    obtain ⟨rest, vl, raws, done, HA, HRR, HRL, HO, HVB, HG, HRW, HE, HB⟩ := hrel
    obtain ⟨ad, cap, rfl, z1, z2⟩ := HRR.out.shape
    cases rest with
    | nil =>
      have cA : wr.cell? ⟨A, 0, none⟩ = some (.slice ad ([] : List LRow).length cap) := Lib.cell_of_heap HA.out 0
      simp only [List.length_nil] at cA
      rw [groupsF_nil, List.append_nil] at HE
      clear z1
      go_wp2_with fail
      go_ret
      exact ⟨_, raws, rfl, HO.out.mono (by rw [WA.out]; exact Nat.le_succ _), by rw [← HE.out]; exact HG.out, HB.out⟩
    | cons r tl =>
      obtain ⟨b, off, rfl, hbl, c0, _⟩ := (HRR.out.later HB.out).six 0 (by simp)
      replace c0 : wr.cell? ⟨b, off, none⟩ = some (.int .i64 r.e) := by simpa using c0
      obtain ⟨L, hL⟩ : ∃ L, L = (r :: tl).length := ⟨_, rfl⟩
      rw [← hL] at HRR z1 HRW HRL
      have hL1 : 1 ≤ L := by rw [hL]; simp
      have cA : wr.cell? ⟨A, 0, none⟩ = some (.slice (some ⟨b, off, none⟩) L cap) := by rw [hL]; exact Lib.cell_of_heap HA.out 0
      have HA2 := Lib.hid (show wr.heap[A]? = some (.cells #[.slice (some ⟨b, off, none⟩) L cap] 22 (0, 0)) by rw [hL]; exact HA.out)
      obtain ⟨N, hN⟩ : ∃ N, N = headN r tl := ⟨_, rfl⟩
      have hNL : 1 ≤ N ∧ N ≤ L := by rw [hN, hL]; exact ⟨by unfold headN; omega, headN_le r tl⟩
      have hcut := HRR.out.cut3 (k := N) (by rw [hN]; exact headN_le r tl)
      have hfrom := HRR.out.from Tryz.underlying22 (sz := 6) Tryz.sizeRow N (by rw [hN]; exact headN_le r tl)
      have hadd : (if N = 0 then (some ⟨b, off, none⟩ : Option Addr) else Option.map (fun x : Addr => x.add (0 * 6)) (some ⟨b, off, none⟩)) = some ⟨b, off, none⟩ := by split <;> simp [Addr.add]
      have hsl := fun (w : World) (kl : IntKind) => run_slice3 (P := Tryz.prog) Tryz.underlying22 Tryz.sizeRow w (some ⟨b, off, none⟩) L cap N (by omega) kl
      rw [hadd] at hcut
      simp only [hadd] at hsl
      have hgr : groupsF (r :: tl) = (r.e, (r :: tl).take N) :: groupsF ((r :: tl).drop N) := by rw [groupsF_cons, hN, head_take, head_drop]
      have HGR := Lib.hid (show (done ++ [(r.e, (r :: tl).take N)]) ++ groupsF ((r :: tl).drop N) = groupsF l by rw [← HE.out, hgr, List.append_assoc]; rfl)
      obtain ⟨vd, hvd1, hvd2, hvd3⟩ := hfrom
      obtain ⟨adv, capv, rfl, _, _⟩ := hvd2.shape
      have hdl : ((r :: tl).drop N).length = L - N := by rw [List.length_drop, ← hL]
      obtain ⟨D, hD⟩ : ∃ D, D = L - N := ⟨_, rfl⟩
      rw [← hD] at hdl
      rw [hdl] at hvd1 hvd2 hvd3
      have HD := Lib.hid (show D + N = L ∧ 1 ≤ N by omega)
      have HG2 := Lib.hid (HG.out.snoc (x := r.e) (v := (some ⟨b, off, none⟩, N, N)) hcut.1 (fun k e => HVB.out k (hcut.2 k e)))
      have HVB2 : Hid (∀ k, Value.ownBlock (.slice adv D capv) = some k → Value.ownBlock (.slice ad0 n0 cap0) = some k) := Lib.hid (fun k e => HVB.out k (hvd3 k e))
      have HVD := Lib.hid hvd2; have HDL := Lib.hid hdl
      have HML := Lib.hid (lenAt_of cA)
      have hii := head_idx r tl
      rw [← hN, ← hL] at hii
      have hix := idxG_any wr A (fun x => decide (x.e ≠ r.e)) _ (r :: tl) (HRR.out.later HB.out) (by rw [← hL]; have := HRL.out; have := HL.out; have := HN0.out; omega) (fun W hb x _ => groups1_any A x r tl _ W (below_at2 hb HA2.out) (HRR.out.later (HB.out.trans (hb.mono HB.out.size))))
      obtain ⟨q, hq⟩ : ∃ q, q = fidx (fun x => decide (x.e ≠ r.e)) (r :: tl) := ⟨_, rfl⟩
      rw [← hq] at hii hix
      have HIX := Lib.hid hix
      have hLi : 0 < L := hL1
      have hNc : N ≤ cap := by omega
      have HBL := Lib.hid (show b < w.heap.size from HRR.out.lt b rfl (by simp)); have HCE := Lib.hid (show w.cell? ⟨b, off, none⟩ = some (.int .i64 r.e) by rw [← (bcell HB.out).1 b off (HRR.out.lt b rfl (by simp))]; exact c0)
      clear hq hix hcut hvd2 hvd3 HVB hdl hD hgr HE HG hadd hL hN HA c0 z1
      go_wp2_with fail
      refine HIX.out.mono ?_
      rintro e w2 ⟨rfl, hb2⟩
      have hA3 := below_at2 hb2 HA2.out
      have HO2 := Lib.hid (HO.out.later hb2); have HB2 := Lib.hid (HB.out.trans (hb2.mono HB.out.size))
      have cA2 : w2.cell? ⟨A, 0, none⟩ = some (.slice (some ⟨b, off, none⟩) L cap) := Lib.cell_of_heap hA3 0
      have HA3 := Lib.hid hA3
      clear hb2 hA3 HIX HO HB cA HA2
      rcases hii with ⟨hq0, hNL2⟩ | rfl
      · subst hNL2
        go_upto_region 6 with fail
        obtain ⟨wz, hwz⟩ : ∃ wz, wz = w2.drew := ⟨_, rfl⟩
        have hbz : Below w2.heap.size w2 wz := by rw [hwz]; exact (Below.refl _ _).drew
        have hS := And.intro (below_at2 hbz HA3.out) (((bcell (HB2.out.trans (hbz.mono HB2.out.size))).1 b off HBL.out).trans HCE.out)
        have HOz := Lib.hid (HO2.out.later hbz); have HBz := Lib.hid (HB2.out.trans (hbz.mono HB2.out.size))
        clear hbz HO2 HB2 HA3 cA2
        refine wp_region_till (fun w' => w'.heap[A]? = some (.cells #[.slice (some ⟨b, off, none⟩) N cap] 22 (0, 0)) ∧ w'.cell? ⟨b, off, none⟩ = some (.int .i64 r.e)) 13 13 (by kernel_rfl) rfl ?_
        rw [← hwz]
        clear hwz
        refine till_take 0 (some 15) rfl rfl (by kernel_rfl) (by kernel_rfl) (by kernel_rfl) (by kernel_rfl) (by kernel_rfl) (by kernel_rfl) (fun _ _ _ h => h) (.inl ⟨by rfl, fun w' _ => (by go_simp; rfl)⟩) hS ?_
        go_frame
        refine till_take 1 (some 16) rfl rfl (by kernel_rfl) (by kernel_rfl) (by kernel_rfl) (by kernel_rfl) (by kernel_rfl) (by kernel_rfl) (fun _ _ _ h => h) (.inl ⟨by rfl, fun w' hS' => (by have hc : w'.cell? ⟨A, 0, none⟩ = some (.slice (some ⟨b, off, none⟩) N cap) := Lib.cell_of_heap hS'.1 0; go_simp; rfl)⟩) hS ?_
        go_frame
        refine till_take 2 (some 17) rfl rfl (by kernel_rfl) (by kernel_rfl) (by kernel_rfl) (by kernel_rfl) (by kernel_rfl) (by kernel_rfl) (fun _ _ _ h => h) (.inl ⟨by rfl, fun w' _ => (by go_simp; rfl)⟩) hS ?_
        go_frame
        refine till_take 3 (some 18) rfl rfl (by kernel_rfl) (by kernel_rfl) (by kernel_rfl) (by kernel_rfl) (by kernel_rfl) (by kernel_rfl) (fun _ _ _ h => h) (.inl ⟨by rfl, fun w' _ => (by go_simp; rfl)⟩) hS ?_
        go_frame
        refine till_take 4 (some 19) rfl rfl (by kernel_rfl) (by kernel_rfl) (by kernel_rfl) (by kernel_rfl) (by kernel_rfl) (by kernel_rfl) (fun _ _ _ h => h) (.inl ⟨by rfl, fun w' hS' => (by have hc := hS'.2; go_simp; rfl)⟩) hS ?_
        go_frame
        refine till_take 5 (some 20) rfl rfl (by kernel_rfl) (by kernel_rfl) (by kernel_rfl) (by kernel_rfl) (by kernel_rfl) (by kernel_rfl) (fun _ _ _ h => h) (.inl ⟨by rfl, fun w' hS' => (by have hc : w'.cell? ⟨A, 0, none⟩ = some (.slice (some ⟨b, off, none⟩) N cap) := Lib.cell_of_heap hS'.1 0; go_simp; rfl)⟩) hS ?_
        go_frame
        refine till_take 6 (some 21) rfl rfl (by kernel_rfl) (by kernel_rfl) (by kernel_rfl) (by kernel_rfl) (by kernel_rfl) (by kernel_rfl) (fun _ _ _ h => h) (.inl ⟨by rfl, fun w' _ => (by go_simp; rfl)⟩) hS ?_
        go_frame
        refine till_take 7 (some 22) rfl rfl (by kernel_rfl) (by kernel_rfl) (by kernel_rfl) (by kernel_rfl) (by kernel_rfl) (by kernel_rfl) (fun _ _ _ h => h) (.inl ⟨by rfl, fun w' _ => (by go_simp; rfl)⟩) hS ?_
        go_frame
        refine till_take 8 (some 23) rfl rfl (by kernel_rfl) (by kernel_rfl) (by kernel_rfl) (by kernel_rfl) (by kernel_rfl) (by kernel_rfl) (fun _ _ _ h => h) (.inl ⟨by rfl, fun w' _ => (by go_simp; rfl)⟩) hS ?_
        go_frame
        refine till_take 9 (some 24) rfl rfl (by kernel_rfl) (by kernel_rfl) (by kernel_rfl) (by kernel_rfl) (by kernel_rfl) (by kernel_rfl) (fun _ _ _ h => h) (.inl ⟨by rfl, fun w' _ => (by go_simp; rfl)⟩) hS ?_
        go_frame
        refine till_one 10 rfl (by kernel_rfl) fun K hK => ?_
        simp only [List.getElem_toArray, List.getElem_cons_succ, List.getElem_cons_zero]
        rw [if_pos (by rfl)]
        go_simp
        obtain ⟨w6, hw6⟩ : ∃ w6, w6 = wz.alloc (.cells #[.int .i64 r.e, .slice (some ⟨b, off, none⟩) N N] 157) := ⟨_, rfl⟩
        have hb6 : Below wz.heap.size wz w6 := by rw [hw6]; exact (Below.refl _ _).alloc (Nat.le_refl _) _
        have hS6 := And.intro (below_at2 hb6 hS.1) (((bcell hb6).1 b off (block_lt_of_cell hS.2)).trans hS.2)
        have HL6 := Lib.hid (show Rd w6 gE 2 (.slice (some ⟨wz.heap.size, 0, none⟩) 1 1) [((r.e, (some ⟨b, off, none⟩, N, N)) : Int × SlV)] by rw [hw6]; exact rd_grp wz r.e (some ⟨b, off, none⟩, N, N) _)
        have HO6 := Lib.hid (HOz.out.later hb6); have HB6 := Lib.hid (HBz.out.trans (hb6.mono HBz.out.size))
        rw [← hw6]
        clear hw6 hb6 HOz HBz hS
        have hS := hS6
        clear hS6
        refine hK _ _ (fun _ _ => hS) ?_
        clear hK
        refine till_one 11 rfl (by kernel_rfl) fun K hK => ?_
        simp only [List.getElem_toArray, List.getElem_cons_succ, List.getElem_cons_zero]
        rw [if_pos (by rfl)]
        refine wp_own_apps (.tmp 15) (.tmp 25) 146 rfl Tryz.underlying146 Tryz.infoGrp rfl (by decide) gE_len gE_one HO6.out rfl _ rfl HL6.out (by have := HRW.out; have := HL.out; have := HN0.out; simp; unfold maxLen; omega) (by have := HRW.out; have := HL.out; have := HN0.out; simp; omega) (B := w.heap.size) (w0 := w) HB6.out (by rw [WA.out]; exact Nat.le_succ _) (Nat.succ_le_of_lt (heap_lt hS.1)) ?_
        intro v7 w7 ho7 hb7 hg7
        have hS7 := And.intro (HO6.out.other hg7 (Nat.lt_succ_self A) hS.1) (((bcell hb7).1 b off HBL.out).trans HCE.out)
        have HO7 := Lib.hid ho7; have HB7 := Lib.hid hb7
        refine hK _ _ (fun _ _ => hS7) ?_
        clear hK ho7 hb7 hg7 HO6 HB6 hS
        have hS := hS7
        clear hS7
        refine till_take 12 (some 3) rfl rfl (by kernel_rfl) (by kernel_rfl) (by kernel_rfl) (by kernel_rfl) (by kernel_rfl) (by kernel_rfl) (fun _ _ _ h => h) (.inl ⟨by rfl, fun w' _ => (by go_simp; rfl)⟩) hS ?_
        go_frame
        refine till_done (by kernel_rfl) ?_ _
        have cA7 : w7.cell? ⟨A, 0, none⟩ = some (.slice (some ⟨b, off, none⟩) N cap) := Lib.cell_of_heap hS.1 0
        have fA7 : w7.frozen? ⟨A, 0, none⟩ = false := Lib.frozen_of_heap hS.1 0
        have HS7 := Lib.hid hS
        clear hS
        go_wp2_with fail
        have hk : Keep (· = A) w7 (w7.setCell ⟨A, 0, none⟩ (.slice adv D capv)) := Keep.setCell (S := (· = A)) (p := ⟨A, 0, none⟩) (Keep.refl _ _) (.inl rfl) _
        have hA8 := heap_setCell_same w7 A 0 _ _ (Value.slice adv D capv) HS7.out.1
        have HA8 := Lib.hid (show (w7.setCell ⟨A, 0, none⟩ (.slice adv D capv)).heap[A]? = some (.cells #[.slice adv D capv] 22 (0, 0)) from hA8)
        have HO8 := Lib.hid (HO7.out.keep hk fun k e h => by have := (HO7.out.lt k e).1; omega)
        have HB8 := Lib.hid (HB7.out.trans (hk.below (B := w.heap.size) (fun q hq e => by have := WA.out; omega) HB7.out.size))
        clear hk hA8 cA7 fA7
        go_roundw
        case rel =>
          refine ⟨_, _, _, _, HA8, HVD, Lib.hid ?_, HO8, HVB2, HG2, Lib.hid ?_, HGR, HB8⟩
          · have := HDL.out; have := HRL.out; have := HD.out; omega
          · have := HDL.out; have := HRW.out; have := HD.out; simp only [List.length_append, List.length_singleton]; omega
        case measure =>
          rw [HML.out, lenAt_of (Lib.cell_of_heap HA8.out 0)]
          have := HD.out; omega
      · go_upto_region 6 with fail
        obtain ⟨wz, hwz⟩ : ∃ wz, wz = w2.drew := ⟨_, rfl⟩
        have hbz : Below w2.heap.size w2 wz := by rw [hwz]; exact (Below.refl _ _).drew
        have hS := And.intro (below_at2 hbz HA3.out) (((bcell (HB2.out.trans (hbz.mono HB2.out.size))).1 b off HBL.out).trans HCE.out)
        have HOz := Lib.hid (HO2.out.later hbz); have HBz := Lib.hid (HB2.out.trans (hbz.mono HB2.out.size))
        clear hbz HO2 HB2 HA3 cA2
        refine wp_region_till (fun w' => w'.heap[A]? = some (.cells #[.slice (some ⟨b, off, none⟩) L cap] 22 (0, 0)) ∧ w'.cell? ⟨b, off, none⟩ = some (.int .i64 r.e)) 13 13 (by kernel_rfl) rfl ?_
        rw [← hwz]
        clear hwz
        refine till_take 0 (some 15) rfl rfl (by kernel_rfl) (by kernel_rfl) (by kernel_rfl) (by kernel_rfl) (by kernel_rfl) (by kernel_rfl) (fun _ _ _ h => h) (.inl ⟨by rfl, fun w' _ => (by go_simp; rfl)⟩) hS ?_
        go_frame
        refine till_take 1 (some 16) rfl rfl (by kernel_rfl) (by kernel_rfl) (by kernel_rfl) (by kernel_rfl) (by kernel_rfl) (by kernel_rfl) (fun _ _ _ h => h) (.inl ⟨by rfl, fun w' hS' => (by have hc : w'.cell? ⟨A, 0, none⟩ = some (.slice (some ⟨b, off, none⟩) L cap) := Lib.cell_of_heap hS'.1 0; go_simp; rfl)⟩) hS ?_
        go_frame
        refine till_take 2 (some 17) rfl rfl (by kernel_rfl) (by kernel_rfl) (by kernel_rfl) (by kernel_rfl) (by kernel_rfl) (by kernel_rfl) (fun _ _ _ h => h) (.inl ⟨by rfl, fun w' _ => (by go_simp; rfl)⟩) hS ?_
        go_frame
        refine till_take 3 (some 18) rfl rfl (by kernel_rfl) (by kernel_rfl) (by kernel_rfl) (by kernel_rfl) (by kernel_rfl) (by kernel_rfl) (fun _ _ _ h => h) (.inl ⟨by rfl, fun w' _ => (by go_simp; rfl)⟩) hS ?_
        go_frame
        refine till_take 4 (some 19) rfl rfl (by kernel_rfl) (by kernel_rfl) (by kernel_rfl) (by kernel_rfl) (by kernel_rfl) (by kernel_rfl) (fun _ _ _ h => h) (.inl ⟨by rfl, fun w' hS' => (by have hc := hS'.2; go_simp; rfl)⟩) hS ?_
        go_frame
        refine till_take 5 (some 20) rfl rfl (by kernel_rfl) (by kernel_rfl) (by kernel_rfl) (by kernel_rfl) (by kernel_rfl) (by kernel_rfl) (fun _ _ _ h => h) (.inl ⟨by rfl, fun w' hS' => (by have hc : w'.cell? ⟨A, 0, none⟩ = some (.slice (some ⟨b, off, none⟩) L cap) := Lib.cell_of_heap hS'.1 0; go_simp; rfl)⟩) hS ?_
        go_frame
        refine till_take 6 (some 21) rfl rfl (by kernel_rfl) (by kernel_rfl) (by kernel_rfl) (by kernel_rfl) (by kernel_rfl) (by kernel_rfl) (fun _ _ _ h => h) (.inl ⟨by rfl, fun w' _ => (by go_simp; rfl)⟩) hS ?_
        go_frame
        refine till_take 7 (some 22) rfl rfl (by kernel_rfl) (by kernel_rfl) (by kernel_rfl) (by kernel_rfl) (by kernel_rfl) (by kernel_rfl) (fun _ _ _ h => h) (.inl ⟨by rfl, fun w' _ => (by go_simp; rfl)⟩) hS ?_
        go_frame
        refine till_take 8 (some 23) rfl rfl (by kernel_rfl) (by kernel_rfl) (by kernel_rfl) (by kernel_rfl) (by kernel_rfl) (by kernel_rfl) (fun _ _ _ h => h) (.inl ⟨by rfl, fun w' _ => (by go_simp; rfl)⟩) hS ?_
        go_frame
        refine till_take 9 (some 24) rfl rfl (by kernel_rfl) (by kernel_rfl) (by kernel_rfl) (by kernel_rfl) (by kernel_rfl) (by kernel_rfl) (fun _ _ _ h => h) (.inl ⟨by rfl, fun w' _ => (by go_simp; rfl)⟩) hS ?_
        go_frame
        refine till_one 10 rfl (by kernel_rfl) fun K hK => ?_
        simp only [List.getElem_toArray, List.getElem_cons_succ, List.getElem_cons_zero]
        rw [if_pos (by rfl)]
        go_simp
        obtain ⟨w6, hw6⟩ : ∃ w6, w6 = wz.alloc (.cells #[.int .i64 r.e, .slice (some ⟨b, off, none⟩) N N] 157) := ⟨_, rfl⟩
        have hb6 : Below wz.heap.size wz w6 := by rw [hw6]; exact (Below.refl _ _).alloc (Nat.le_refl _) _
        have hS6 := And.intro (below_at2 hb6 hS.1) (((bcell hb6).1 b off (block_lt_of_cell hS.2)).trans hS.2)
        have HL6 := Lib.hid (show Rd w6 gE 2 (.slice (some ⟨wz.heap.size, 0, none⟩) 1 1) [((r.e, (some ⟨b, off, none⟩, N, N)) : Int × SlV)] by rw [hw6]; exact rd_grp wz r.e (some ⟨b, off, none⟩, N, N) _)
        have HO6 := Lib.hid (HOz.out.later hb6); have HB6 := Lib.hid (HBz.out.trans (hb6.mono HBz.out.size))
        rw [← hw6]
        clear hw6 hb6 HOz HBz hS
        have hS := hS6
        clear hS6
        refine hK _ _ (fun _ _ => hS) ?_
        clear hK
        refine till_one 11 rfl (by kernel_rfl) fun K hK => ?_
        simp only [List.getElem_toArray, List.getElem_cons_succ, List.getElem_cons_zero]
        rw [if_pos (by rfl)]
        refine wp_own_apps (.tmp 15) (.tmp 25) 146 rfl Tryz.underlying146 Tryz.infoGrp rfl (by decide) gE_len gE_one HO6.out rfl _ rfl HL6.out (by have := HRW.out; have := HL.out; have := HN0.out; simp; unfold maxLen; omega) (by have := HRW.out; have := HL.out; have := HN0.out; simp; omega) (B := w.heap.size) (w0 := w) HB6.out (by rw [WA.out]; exact Nat.le_succ _) (Nat.succ_le_of_lt (heap_lt hS.1)) ?_
        intro v7 w7 ho7 hb7 hg7
        have hS7 := And.intro (HO6.out.other hg7 (Nat.lt_succ_self A) hS.1) (((bcell hb7).1 b off HBL.out).trans HCE.out)
        have HO7 := Lib.hid ho7; have HB7 := Lib.hid hb7
        refine hK _ _ (fun _ _ => hS7) ?_
        clear hK ho7 hb7 hg7 HO6 HB6 hS
        have hS := hS7
        clear hS7
        refine till_take 12 (some 3) rfl rfl (by kernel_rfl) (by kernel_rfl) (by kernel_rfl) (by kernel_rfl) (by kernel_rfl) (by kernel_rfl) (fun _ _ _ h => h) (.inl ⟨by rfl, fun w' _ => (by go_simp; rfl)⟩) hS ?_
        go_frame
        refine till_done (by kernel_rfl) ?_ _
        have cA7 : w7.cell? ⟨A, 0, none⟩ = some (.slice (some ⟨b, off, none⟩) L cap) := Lib.cell_of_heap hS.1 0
        have fA7 : w7.frozen? ⟨A, 0, none⟩ = false := Lib.frozen_of_heap hS.1 0
        have HS7 := Lib.hid hS
        clear hS
        go_wp2_with fail
        have hk : Keep (· = A) w7 (w7.setCell ⟨A, 0, none⟩ (.slice adv D capv)) := Keep.setCell (S := (· = A)) (p := ⟨A, 0, none⟩) (Keep.refl _ _) (.inl rfl) _
        have hA8 := heap_setCell_same w7 A 0 _ _ (Value.slice adv D capv) HS7.out.1
        have HA8 := Lib.hid (show (w7.setCell ⟨A, 0, none⟩ (.slice adv D capv)).heap[A]? = some (.cells #[.slice adv D capv] 22 (0, 0)) from hA8)
        have HO8 := Lib.hid (HO7.out.keep hk fun k e h => by have := (HO7.out.lt k e).1; omega)
        have HB8 := Lib.hid (HB7.out.trans (hk.below (B := w.heap.size) (fun q hq e => by have := WA.out; omega) HB7.out.size))
        clear hk hA8 cA7 fA7
        go_roundw
        case rel =>
          refine ⟨_, _, _, _, HA8, HVD, Lib.hid ?_, HO8, HVB2, HG2, Lib.hid ?_, HGR, HB8⟩
          · have := HDL.out; have := HRL.out; have := HD.out; omega
          · have := HDL.out; have := HRW.out; have := HD.out; simp only [List.length_append, List.length_singleton]; omega
        case measure =>
          rw [HML.out, lenAt_of (Lib.cell_of_heap HA8.out 0)]
          have := HD.out; omega
end Go.Proofs.YtmclmccgghnglaaGreat
