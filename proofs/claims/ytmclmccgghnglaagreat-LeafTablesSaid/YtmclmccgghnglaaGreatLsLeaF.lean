/- Rows in order: leaf.Sorted (code). No condition. -/
import Derived.Test.YtmclmccgghnglaaGreatLs8
import Derived.Test.YtmclmccgghnglaaGreatLsLeaA
import Derived.Deep.Cut
namespace Go.Proofs.YtmclmccgghnglaaGreat
open Go.RowKit Go.Sort Go.Shelf

def lookR (l : List LRow) (k : Int × Int) : Nat := ((l.find? fun r => decide (rkey r = k)).map LRow.m).getD 0
def sortR (l : List LRow) : List LRow := (sortK (l.map rkey)).map fun k => ⟨k.1, k.2, lookR l k⟩
/-- The rows in order, if all may be. -/
def SortOk (l : List LRow) : Prop := (0 < l.length ∧ l.length ≤ 1024) ∧ (∀ r ∈ l, goodR r = true) ∧ (l.map rkey).Nodup
instance (l : List LRow) : Decidable (SortOk l) := by unfold SortOk; exact inferInstance
def sortedF (l : List LRow) : Option (List LRow) := if SortOk l then some (sortR l) else none
theorem sortedF_no {l : List LRow} (h : ¬ SortOk l) : sortedF l = none := if_neg h
theorem sortedF_yes {l : List LRow} (h : SortOk l) : sortedF l = some (sortR l) := if_pos h
theorem sortR_len (l : List LRow) : (sortR l).length = l.length := by unfold sortR; rw [List.length_map, sortK_len, List.length_map]
theorem kv_keys (l : List LRow) : (l.map kv).map (·.1) = l.map rkey := by rw [List.map_map]; rfl
theorem lookR_at {l : List LRow} (hn : (l.map rkey).Nodup) (j : Nat) (hj : j < l.length) : lookR l (rkey l[j]) = l[j].m := by
  induction l generalizing j with
  | nil => simp at hj
  | cons r l ih =>
    rw [List.map_cons, List.nodup_cons] at hn
    unfold lookR
    cases j with
    | zero => simp
    | succ j =>
      have hj2 : j < l.length := by simpa using hj
      have hne : ¬ rkey r = rkey l[j] := fun e => hn.1 (by rw [e]; exact List.mem_map.2 ⟨_, List.getElem_mem hj2, rfl⟩)
      rw [List.getElem_cons_succ, List.find?_cons_of_neg (by simpa using hne)]
      exact ih hn.2 j hj2
theorem key_at {l : List LRow} {k : Int × Int} (h : k ∈ l.map rkey) : ∃ (j : Nat) (hj : j < l.length), rkey l[j] = k := by
  obtain ⟨r, hr, e⟩ := List.mem_map.1 h
  obtain ⟨j, hj, rfl⟩ := List.mem_iff_getElem.1 hr
  exact ⟨j, hj, e⟩
theorem nodup_take {l : List LRow} (i : Nat) (hi : i < l.length) : ((l.take (i + 1)).map rkey).Nodup ↔ ((l.take i).map rkey).Nodup ∧ rkey l[i] ∉ (l.take i).map rkey := by
  rw [List.take_succ_eq_append_getElem hi, List.map_append, List.nodup_append]
  constructor
  · rintro ⟨h1, _, h3⟩
    exact ⟨h1, fun hm => h3 _ hm _ (by simp) rfl⟩
  · rintro ⟨h1, h2⟩
    exact ⟨h1, by simp, fun a ha b hb e => by simp at hb; subst hb; subst e; exact h2 ha⟩
theorem nodup_of_take {l : List LRow} (i : Nat) (h : (l.map rkey).Nodup) : ((l.take i).map rkey).Nodup := by
  rw [List.map_take]; exact (List.take_sublist i _).nodup h
/-- How the map stands behind i rows. -/
def MapAt (l : List LRow) (i : Nat) (M : List ((Int × Int) × Nat)) : Prop :=
  M.length ≤ i ∧ (((l.take i).map rkey).Nodup → M = (l.take i).map kv) ∧ (¬ ((l.take i).map rkey).Nodup → M.length < i) ∧ (∀ p ∈ M, I64k p.1) ∧ ∀ r ∈ l.take i, goodR r = true
theorem MapAt.next {l : List LRow} {i : Nat} {M M' : List ((Int × Int) × Nat)} (h : MapAt l i M) (hi : i < l.length) (hk : I64k (rkey l[i])) (hg : goodR l[i] = true)
    (hM : (rkey l[i] ∉ M.map (·.1) ∧ M' = M ++ [(rkey l[i], l[i].m)]) ∨ (rkey l[i] ∈ M.map (·.1) ∧ M'.map (·.1) = M.map (·.1))) : MapAt l (i + 1) M' := by
  obtain ⟨h1, h2, h3, h4, h5⟩ := h
  have hlen : M'.length ≤ M.length + 1 ∧ (rkey l[i] ∈ M.map (·.1) → M'.length = M.length) := by
    rcases hM with ⟨m1, rfl⟩ | ⟨m1, m2⟩
    · exact ⟨by simp, fun h => absurd h m1⟩
    · have := congrArg List.length m2
      simp only [List.length_map] at this
      exact ⟨by omega, fun _ => this⟩
  have hkeys : ((l.take i).map rkey).Nodup → (rkey l[i] ∈ M.map (·.1) ↔ rkey l[i] ∈ (l.take i).map rkey) := fun hn => by rw [h2 hn, kv_keys]
  refine ⟨by omega, fun hn => ?_, fun hn => ?_, fun p hp => ?_, fun r hr => ?_⟩
  · obtain ⟨n1, n2⟩ := (nodup_take i hi).1 hn
    have hni : rkey l[i] ∉ M.map (·.1) := fun h => n2 ((hkeys n1).1 h)
    rcases hM with ⟨m1, rfl⟩ | ⟨m1, m2⟩
    · rw [List.take_succ_eq_append_getElem hi, List.map_append, ← h2 n1]; rfl
    · exact absurd m1 hni
  · by_cases hn1 : ((l.take i).map rkey).Nodup
    · have hm : rkey l[i] ∈ (l.take i).map rkey := by
        by_cases hm : rkey l[i] ∈ (l.take i).map rkey
        · exact hm
        · exact absurd ((nodup_take i hi).2 ⟨hn1, hm⟩) hn
      have := hlen.2 ((hkeys hn1).2 hm)
      omega
    · have := h3 hn1; omega
  · rcases hM with ⟨m1, rfl⟩ | ⟨m1, m2⟩
    · rcases List.mem_append.1 hp with hp | hp
      · exact h4 p hp
      · simp at hp; subst hp; exact hk
    · have : p.1 ∈ M.map (·.1) := by rw [← m2]; exact List.mem_map.2 ⟨p, hp, rfl⟩
      obtain ⟨q, hq, e⟩ := List.mem_map.1 this
      rw [← e]; exact h4 q hq
  · rw [List.take_succ_eq_append_getElem hi] at hr
    rcases List.mem_append.1 hr with hr | hr
    · exact h5 r hr
    · simp at hr; rw [hr]; exact hg
theorem Rd.two {w : World} {ad : Option Addr} {n cap : Nat} {l : List (Int × Int)} (h : Rd w kE 2 (.slice ad n cap) l) (i : Nat) (hi : i < l.length) :
    ∃ b off, ad = some ⟨b, off, none⟩ ∧ b < w.heap.size ∧ w.cell? ⟨b, off + i * 2, none⟩ = some (.int .i64 l[i].1) ∧ w.cell? ⟨b, off + i * 2 + 1, none⟩ = some (.int .i64 l[i].2) := by
  obtain ⟨ad', cap', he, h1, h2, h3⟩ := h
  cases he
  obtain ⟨b, off, rfl, hb, hc⟩ := h3 (by intro hl; subst hl; simp at hi)
  exact ⟨b, off, rfl, hb, hc i hi 0 (by omega), hc i hi 1 (by omega)⟩
theorem rd_row (w : World) (r : LRow) (e : TypeId) : Rd (w.alloc (.cells (rowC r) e)) rowE 6 (.slice (some ⟨w.heap.size, 0, none⟩) 1 1) [r] := by
  refine ⟨_, _, rfl, Nat.le_refl _, by unfold maxLen; omega, fun _ => ⟨_, _, rfl, by simp, fun i hi j hj => ?_⟩⟩
  obtain rfl : i = 0 := by simpa using hi
  rw [Lib.cell_of_heap (heap_alloc_new w _)]
  simp only [Nat.zero_mul, Nat.zero_add, List.getElem_cons_zero, rowC, rowE]
  rw [List.getElem?_toArray]
/-- What leaf.Sorted hands back. -/
def SortedRet (w : World) (l : List LRow) (e : Ending) (w' : World) : Prop := Below w.heap.size w w' ∧
  ((sortedF l = none ∧ e = .returned (.tuple #[.slice none 0 0, .bool false])) ∨ ∃ v s, sortedF l = some s ∧ e = .returned (.tuple #[v, .bool true]) ∧ Own w' w.heap.size 127 rowE 6 v s)
set_option maxHeartbeats 1000000 in
theorem mkeys_any (g : Nat) (w : World) : Calls Tryz.prog 79 #[.map (some g)] w fun e w' => e = .returned (.func (.func 182) #[] #[.pointer (some ⟨w.heap.size, 0, none⟩)]) ∧ w' = w.alloc (.cells #[.map (some g)] 134) := by
  go_enter Tryz.func79, Tryz.ntmps79
  go_wp2_with fail
  go_ret
  exact ⟨rfl, rfl⟩
set_option maxHeartbeats 16000000 in
set_option maxRecDepth 100000 in
theorem sorted_any (w : World) (v : Value) (l : List LRow) (hr : Rd w rowE 6 v l) (hok : ∀ r ∈ l, ROk r) (hlen : l.length < 1000000000) : Calls Tryz.prog 14 #[v] w (SortedRet w l) := by
  obtain ⟨ad, cap, rfl, hc1, hc2⟩ := hr.shape
  obtain ⟨n, hn⟩ : ∃ n, n = l.length := ⟨_, rfl⟩
  have HR := Lib.hid hr; have HOK := Lib.hid hok
  by_cases h01 : l.length = 0 ∨ 1024 < l.length
  · have HF := Lib.hid (sortedF_no (l := l) fun h => by have := h.1; omega)
    have key : n = 0 ∨ (0 < n ∧ 1024 < n) := by omega
    rw [← hn]
    clear hr hok hlen hc1 h01 hn
    rcases key with rfl | ⟨h0, h1⟩
    all_goals
      go_enter Tryz.func14, Tryz.ntmps14
      go_wp2_with fail
      go_ret2
      exact ⟨Below.refl _ _, .inl ⟨HF.out, rfl⟩⟩
  · have h0 : 0 < n := by omega
    have h24 : ¬ 1024 < n := by omega
    have t0 : ((n : Int) == 0) = false := by simp; omega
    have d24 : decide (1024 < (n : Int)) = false := by simp; omega
    have hmm : ∀ w : World, (Instr.makeMap 134 none).run Tryz.prog w = .ok (.map (some w.heap.size)) (w.alloc (.map #[] 0)) := fun w => rfl
    have HN := Lib.hid hn
    rw [← hn] at HR ⊢
    clear hr hok hlen hc1 h01 hn
    go_enter Tryz.func14, Tryz.ntmps14
    go_wp2_with fail
    obtain ⟨w1, hw1⟩ : ∃ w1, w1 = w.alloc (.map #[] 0) := ⟨_, rfl⟩
    obtain ⟨g, hg⟩ : ∃ g, g = w.heap.size := ⟨_, rfl⟩
    rw [← hw1, ← hg]
    have HM1 := Lib.hid (show MapL kV mV w1 g [] by rw [hw1, hg]; exact MapL.made w)
    have HB1 := Lib.hid (show Below w.heap.size w w1 by rw [hw1]; exact (Below.refl _ _).alloc (Nat.le_refl _) _)
    have WG : Hid (w.heap.size ≤ g) := Lib.hid (by omega)
    have HA1 : Hid (MapAt l 0 []) := Lib.hid ⟨by simp, fun _ => rfl, fun h => absurd (by simp) h, fun p hp => by simp at hp, fun r hr => by simp at hr⟩
    have n24 : n ≤ 1024 := by omega
    clear hw1 hg hmm t0 d24 h24
    go_loopw [22] (fun x wr => ∃ (i : Nat) (M : List ((Int × Int) × Nat)), x = .int .i64 i ∧ i ≤ n ∧ Hid (MapL kV mV wr g M) ∧ Hid (MapAt l i M) ∧ Hid (Below w.heap.size w wr)) (fun x _ => n - (intOf x).toNat)
    case atStart => exact ⟨0, [], rfl, by omega, HM1, HA1, HB1⟩
    case round =>
      clear HM1 HB1 HA1
      obtain ⟨i, M, rfl, hin, HM, HA, HB⟩ := hrel
      by_cases hlt : i < n
      · have hi : i < l.length := by have := HN.out; omega
        obtain ⟨bb, off, rfl, _, c0, c1, c2, c3, c4, c5⟩ := (HR.out.later HB.out).six i hi
        have hrk := HOK.out _ (List.getElem_mem hi)
        obtain ⟨r, hrr⟩ : ∃ r, r = l[i] := ⟨_, rfl⟩
        have hnx := fun M' h1 h2 h3 => MapAt.next (M' := M') HA.out hi h1 h2 h3
        rw [← hrr] at c0 c1 c2 c3 c4 c5 hrk hnx
        have HRK := Lib.hid hrk; have HNX := Lib.hid hnx; have HLT := Lib.hid hlt; have HRM := Lib.hid (show r ∈ l by rw [hrr]; exact List.getElem_mem hi)
        clear hrk hnx hrr hi
        go_wp2_with (refine wpList_alloc_g rfl _ rfl _ _ Tryz.zeroRow rfl ?_)
        intro X d1 hX
        go_wp2_with (refine wpList_store_row_g (t := 127) (old := #[.int .i64 0, .int .i64 0, .int .u64 0, .int .u64 0, .int .u64 0, .int .u64 0]) rfl 127 _ _ rfl X #[.int .i64 r.e, .int .i64 r.t, .int .u64 (uw0 r.m), .int .u64 (uw1 r.m), .int .u64 (uw2 r.m), .int .u64 (uw3 r.m)] rfl rfl hX.out.cells Tryz.sizeRow rfl (one_row r) ?_)
        intro d2 hxX kX zX
        clear zX
        have hbX : Below wr.heap.size wr d2 := hX.out.below.trans (kX.below (B := wr.heap.size) (fun x hx e => by have := hX.out.eq; omega) hX.out.below.size)
        have HX := Lib.hid hxX; have HM2 := Lib.hid (HM.out.later hbX); have HB2 := Lib.hid (HB.out.trans (hbX.mono HB.out.size))
        have HXG : Hid (X ≠ g) := Lib.hid (by have := hX.out.eq; have := HM.out.lt; omega)
        clear hX hxX kX hbX HM HB c0 c1 c2 c3 c4 c5
        have q0 : d2.cell? ⟨X, 0, none⟩ = some (.int .i64 r.e) := Lib.cell_of_heap HX.out 0
        have q1 : d2.cell? ⟨X, 1, none⟩ = some (.int .i64 r.t) := Lib.cell_of_heap HX.out 1
        have q2 : d2.cell? ⟨X, 2, none⟩ = some (.int .u64 (uw0 r.m)) := Lib.cell_of_heap HX.out 2
        have q3 : d2.cell? ⟨X, 3, none⟩ = some (.int .u64 (uw1 r.m)) := Lib.cell_of_heap HX.out 3
        have q4 : d2.cell? ⟨X, 4, none⟩ = some (.int .u64 (uw2 r.m)) := Lib.cell_of_heap HX.out 4
        have q5 : d2.cell? ⟨X, 5, none⟩ = some (.int .u64 (uw3 r.m)) := Lib.cell_of_heap HX.out 5
        go_wp2_with (refine wp_layL rfl _ _ _ rfl Tryz.keyOk Tryz.underlying134 HM2.out HA.out.2.2.2.1 (r.e, r.t) HRK.out.1 r.m rfl rfl rfl ?_)
        intro w5 M' h1 h2 h3 h4
        have HM5 := Lib.hid h1; have HX5 := Lib.hid (h3.at HX.out HXG.out); have HCS := Lib.hid h2
        have HB5 := Lib.hid (HB2.out.trans (h3.below (B := w.heap.size) (fun q hq e => by have := WG.out; omega) HB2.out.size))
        clear h1 h2 h3 h4 q0 q1 q2 q3 q4 q5 HX HM2 HB2
        go_wp2_with (refine wpList_load_row rfl 127 _ rfl X rfl 127 _ _ _ HX5.out Tryz.underlying127 rfl Tryz.sizeRow ?_)
        refine (good_any r HRK.out.2 w5).mono ?_
        rintro e w6 ⟨rfl, hb6⟩
        have HM6 := Lib.hid (HM5.out.later hb6); have HB6 := Lib.hid (HB5.out.trans (hb6.mono HB5.out.size))
        clear hb6 HM5 HX5 HB5
        cases hgr : goodR r with
        | false =>
          have HF := Lib.hid (sortedF_no (l := l) fun h => by
            have h2 := h.2.1 _ HRM.out
            rw [hgr] at h2; cases h2)
          clear hgr
          go_wp2_with fail
          go_ret2
          exact ⟨HB6.out, .inl ⟨HF.out, rfl⟩⟩
        | true =>
          have HA6 := Lib.hid (HNX.out M' HRK.out.1 hgr HCS.out)
          clear hgr
          go_wp2_with fail
          go_roundw
          case rel => exact ⟨i + 1, M', by go_num, HLT.out, HM6, HA6, HB6⟩
          case measure => have := HLT.out; simp [intOf]; omega
      · obtain rfl : i = n := by omega
        have hlm : ∀ ty, (Builtin.len_ #[134] ty #[.map (some g)]).run Tryz.prog wr = .ok (.int .i64 M.length) wr := fun ty => run_lenL Tryz.underlying134 HM.out
        by_cases hnd : (l.map rkey).Nodup
        · have hM := HA.out.2.1 (by rw [HN.out, List.take_length]; exact hnd)
          rw [HN.out, List.take_length] at hM
          have hml : M.length = i := by rw [hM, List.length_map]; exact HN.out.symm
          rw [hml] at hlm
          have tm : ((i : Int) != (i : Int)) = false := by simp
          have HY := Lib.hid (sortedF_yes (l := l) ⟨by have := HN.out; omega, fun r hr => by have h5 := HA.out.2.2.2.2 r; rw [HN.out, List.take_length] at h5; exact h5 hr, hnd⟩)
          have HV := Lib.hid HA.out.2.2.2.1; have HM0 := Lib.hid hM; have HML := Lib.hid hml; have HND := Lib.hid hnd
          obtain ⟨ks, hks⟩ : ∃ ks, ks = sortK (l.map rkey) := ⟨_, rfl⟩
          have hkl : ks.length = i := by rw [hks, sortK_len, List.length_map]; exact HN.out.symm
          have HKS := Lib.hid hks; have HKL := Lib.hid hkl
          clear hM hml hnd HA hlt hks hkl
          go_wp2_with fail
          refine (mkeys_any g wr).mono ?_
          rintro e w2 ⟨rfl, hw2⟩
          obtain ⟨A1, hA1⟩ : ∃ A1, A1 = wr.heap.size := ⟨_, rfl⟩
          rw [← hA1]
          have hb2 : Below wr.heap.size wr w2 := by rw [hw2]; exact (Below.refl _ _).alloc (Nat.le_refl _) _
          have H1 := Lib.hid (show w2.heap[A1]? = some (.cells #[.map (some g)] 134 (0, 0)) by rw [hw2, hA1]; exact heap_alloc_new _ _)
          have HM2 := Lib.hid (HM.out.later hb2); have HB2 := Lib.hid (HB.out.trans (hb2.mono HB.out.size))
          clear hw2 hA1 hb2 HM HB hlm tm
          go_wp2_with fail
          refine (sortedFunc_any H1.out HM2.out (by have := HML.out; omega) (fun e => by have := HML.out; rw [e] at this; simp at this; omega)).mono ?_
          rintro e w3 ⟨v3, rfl, hrd, hb3⟩
          rw [HM0.out, kv_keys, ← HKS.out] at hrd
          obtain ⟨ad3, cap3, rfl, z1, z2⟩ := hrd.shape
          rw [HKL.out] at hrd z1 ⊢
          obtain ⟨b3, off3, rfl, hb3l⟩ := hrd.ptr (by rw [HKL.out]; exact h0)
          have HRD := Lib.hid hrd; have HM3 := Lib.hid (HM2.out.later hb3); have HB3 := Lib.hid (HB2.out.trans (hb3.mono HB2.out.size))
          have hmk : ∀ w : World, (Instr.makeSlice 22 (.int .i64 0) (.int .i64 (i : Int))).run Tryz.prog w = .ok (.slice (some ⟨w.heap.size, 0, none⟩) 0 i) (w.alloc (.cells (madeCells #[.int .i64 0, .int .i64 0, .int .u64 0, .int .u64 0, .int .u64 0, .int .u64 0] (i * 6)) 127)) := fun w => by
            obtain ⟨inf, h1, h2, h3, h4⟩ := info_parts Tryz.infoRow
            have h5 := run_make (P := Tryz.prog) w 22 127 inf _ Tryz.underlying22 h1 h2 .i64 .i64 0 (i : Int) (by omega) (by omega) (by rw [h4]; omega) (by omega)
            rw [h3] at h5
            simpa [Value.cells] using h5
          clear hrd hb3 H1 HM2 HB2
          go_wp2_with fail
          obtain ⟨w4, hw4⟩ : ∃ w4, w4 = w3.alloc (.cells (madeCells #[.int .i64 0, .int .i64 0, .int .u64 0, .int .u64 0, .int .u64 0, .int .u64 0] (i * 6)) 127) := ⟨_, rfl⟩
          obtain ⟨G, hG⟩ : ∃ G, G = w3.heap.size := ⟨_, rfl⟩
          rw [← hw4, ← hG]
          have hb4 : Below w3.heap.size w3 w4 := by rw [hw4]; exact (Below.refl _ _).alloc (Nat.le_refl _) _
          have HO4 : Hid (Own w4 G 127 rowE 6 (.slice (some ⟨G, 0, none⟩) 0 i) ((sortR l).take 0)) := Lib.hid (by rw [hw4, hG]; exact World.ownsRow_made w3 _ i (Nat.le_refl _) (by unfold maxLen; omega) (size_madeCells _ _))
          have HRD4 := Lib.hid (HRD.out.later hb4); have HM4 := Lib.hid (HM3.out.later hb4); have HB4 := Lib.hid (HB3.out.trans (hb4.mono HB3.out.size))
          have HGS := Lib.hid (show G ≤ w4.heap.size by rw [hG]; exact hb4.size)
          have HGG := Lib.hid (show g < G ∧ b3 < G ∧ w.heap.size ≤ G by have := HM3.out.lt; have := HB3.out.size; omega)
          clear hw4 hG hb4 hmk HRD HM3 HB3 hb3l wr
          go_wp2_with fail
          go_loopw [8, 51] (fun vo x wr => ∃ j : Nat, x = .int .i64 j ∧ j ≤ i ∧ Hid (G ≤ wr.heap.size) ∧ Hid (Own wr G 127 rowE 6 vo ((sortR l).take j)) ∧ Hid (Rd wr kE 2 (.slice (some ⟨b3, off3, none⟩) i cap3) ks) ∧ Hid (MapL kV mV wr g M) ∧ Hid (Below w.heap.size w wr)) (fun _ x _ => i - (intOf x).toNat)
          case atStart => exact ⟨0, rfl, by omega, HGS, HO4, HRD4, HM4, HB4⟩
          case round =>
            clear HO4 HRD4 HM4 HB4 HGS
            obtain ⟨j, rfl, hji, HGS, HO, HRD, HM, HB⟩ := hrel
            by_cases hlt : j < i
            · have hjk : j < ks.length := by rw [HKL.out]; exact hlt
              obtain ⟨bq, oq, e, _, c0, c1⟩ := HRD.out.two j hjk
              cases e
              have hmem : ks[j] ∈ l.map rkey := (sortK_perm _).mem_iff.1 (by rw [← HKS.out]; exact List.getElem_mem hjk)
              have hsr : (sortR l).take (j + 1) = (sortR l).take j ++ [(⟨ks[j].1, ks[j].2, lookR l ks[j]⟩ : LRow)] := by
                rw [List.take_succ_eq_append_getElem (by rw [sortR_len, ← HN.out]; exact hlt)]
                congr 2
                simp only [sortR, List.getElem_map, ← HKS.out]
              obtain ⟨⟨k1, k2⟩, hk⟩ : ∃ k, k = ks[j] := ⟨_, rfl⟩
              rw [← hk] at c0 c1 hmem hsr
              obtain ⟨m, hm⟩ : ∃ m, m = lookR l (k1, k2) := ⟨_, rfl⟩
              rw [← hm] at hsr
              have HLK : Hid (∀ w', MapL kV mV w' g M → (Instr.lookup 134 (.map (some g)) (.agg #[.int .i64 k1, .int .i64 k2]) false).run Tryz.prog w' = .ok (.agg #[.int .u64 (uw0 m), .int .u64 (uw1 m), .int .u64 (uw2 m), .int .u64 (uw3 m)]) w') := Lib.hid fun w' h => by
                obtain ⟨q, hq, e⟩ := key_at hmem
                have hqm : q < M.length := by rw [HM0.out, List.length_map]; exact hq
                have h5 := run_lookL Tryz.keyOk Tryz.underlying134 h HV.out (by rw [HM0.out, kv_keys]; exact HND.out) q hqm
                have h6 : M[q] = kv l[q] := by simp only [HM0.out, List.getElem_map]
                have h7 : M[q].1 = (k1, k2) := by rw [h6]; exact e
                have h8 : M[q].2 = m := by rw [h6, hm, ← e, lookR_at HND.out q hq]; rfl
                rw [h7, h8] at h5
                exact h5
              have HSR := Lib.hid hsr; have HLT := Lib.hid hlt
              have HTL := Lib.hid (show ((sortR l).take j).length = j by rw [List.length_take, sortR_len, ← HN.out]; omega)
              clear hmem hsr hk hm hjk
              go_wp2_with (refine wpList_alloc_g rfl _ rfl _ _ Tryz.zeroKey rfl ?_)
              intro X d1 hX
              go_wp2_with (refine wpList_store_row_g (t := 136) (old := #[.int .i64 0, .int .i64 0]) rfl 136 _ _ rfl X #[.int .i64 k1, .int .i64 k2] rfl rfl hX.out.cells Tryz.sizeKey rfl (one_key _ _) ?_)
              intro d2 hxX kX zX
              clear zX
              have hbX : Below wr.heap.size wr d2 := hX.out.below.trans (kX.below (B := wr.heap.size) (fun x hx e => by have := hX.out.eq; omega) hX.out.below.size)
              have HX := Lib.hid hxX; have HGS2 := Lib.hid (Nat.le_trans HGS.out hbX.size); have HO2 := Lib.hid (HO.out.later hbX); have HRD2 := Lib.hid (HRD.out.later hbX); have HM2 := Lib.hid (HM.out.later hbX); have HB2 := Lib.hid (HB.out.trans (hbX.mono HB.out.size))
              clear hX hxX kX hbX HO HRD HM HB HGS c0 c1
              go_upto_region 18 with fail
              obtain ⟨wz, hwz⟩ : ∃ wz, wz = d2.drew := ⟨_, rfl⟩
              have hbz : Below d2.heap.size d2 wz := by rw [hwz]; exact (Below.refl _ _).drew
              have hS := And.intro (below_at2 hbz HX.out) (HM2.out.later hbz)
              have HOz := Lib.hid (HO2.out.later hbz); have HRDz := Lib.hid (HRD2.out.later hbz); have HBz := Lib.hid (HB2.out.trans (hbz.mono HB2.out.size)); have HGSz := Lib.hid (Nat.le_trans HGS2.out hbz.size)
              clear hbz HX HO2 HRD2 HM2 HB2 HGS2
              refine wp_region_till (fun w' => w'.heap[X]? = some (.cells #[.int .i64 k1, .int .i64 k2] 136 (0, 0)) ∧ MapL kV mV w' g M) 12 12 (by kernel_rfl) rfl ?_
              rw [← hwz]
              clear hwz
              refine till_take 0 (some 55) rfl rfl (by kernel_rfl) (by kernel_rfl) (by kernel_rfl) (by kernel_rfl) (by kernel_rfl) (by kernel_rfl) (fun _ _ _ h => h) (.inl ⟨by rfl, fun w' _ => (by go_simp; rfl)⟩) hS ?_
              go_frame
              refine till_take 1 (some 56) rfl rfl (by kernel_rfl) (by kernel_rfl) (by kernel_rfl) (by kernel_rfl) (by kernel_rfl) (by kernel_rfl) (fun _ _ _ h => h) (.inl ⟨by rfl, fun w' _ => (by go_simp; rfl)⟩) hS ?_
              go_frame
              refine till_take 2 (some 57) rfl rfl (by kernel_rfl) (by kernel_rfl) (by kernel_rfl) (by kernel_rfl) (by kernel_rfl) (by kernel_rfl) (fun _ _ _ h => h) (.inl ⟨by rfl, fun w' hS' => (by have hc : w'.cell? ⟨X, 0, none⟩ = some (.int .i64 k1) := Lib.cell_of_heap hS'.1 0; go_simp; rfl)⟩) hS ?_
              go_frame
              refine till_take 3 (some 58) rfl rfl (by kernel_rfl) (by kernel_rfl) (by kernel_rfl) (by kernel_rfl) (by kernel_rfl) (by kernel_rfl) (fun _ _ _ h => h) (.inl ⟨by rfl, fun w' _ => (by go_simp; rfl)⟩) hS ?_
              go_frame
              refine till_take 4 (some 59) rfl rfl (by kernel_rfl) (by kernel_rfl) (by kernel_rfl) (by kernel_rfl) (by kernel_rfl) (by kernel_rfl) (fun _ _ _ h => h) (.inl ⟨by rfl, fun w' hS' => (by have hc : w'.cell? ⟨X, 1, none⟩ = some (.int .i64 k2) := Lib.cell_of_heap hS'.1 1; go_simp; rfl)⟩) hS ?_
              go_frame
              refine till_take 5 (some 60) rfl rfl (by kernel_rfl) (by kernel_rfl) (by kernel_rfl) (by kernel_rfl) (by kernel_rfl) (by kernel_rfl) (fun _ _ _ h => h) (.inl ⟨by rfl, fun w' _ => (by go_simp; rfl)⟩) hS ?_
              go_frame
              refine till_take 6 (some 61) rfl rfl (by kernel_rfl) (by kernel_rfl) (by kernel_rfl) (by kernel_rfl) (by kernel_rfl) (by kernel_rfl) (fun _ _ _ h => h) (yields_load (by rfl) 136 _ rfl (.pointer (some ⟨X, 0, none⟩)) rfl (.agg #[.int .i64 k1, .int .i64 k2]) (fun w' hS' => load_blk hS'.1 Tryz.underlying136 rfl Tryz.sizeKey)) hS ?_
              go_frame
              refine till_take 7 (some 62) rfl rfl (by kernel_rfl) (by kernel_rfl) (by kernel_rfl) (by kernel_rfl) (by kernel_rfl) (by kernel_rfl) (fun _ _ _ h => h) (.inl ⟨by rfl, fun w' hS' => (by have hq := HLK.out w' hS'.2; go_simp; rfl)⟩) hS ?_
              go_frame
              refine till_take 8 (some 63) rfl rfl (by kernel_rfl) (by kernel_rfl) (by kernel_rfl) (by kernel_rfl) (by kernel_rfl) (by kernel_rfl) (fun _ _ _ h => h) (.inl ⟨by rfl, fun w' _ => (by go_simp; rfl)⟩) hS ?_
              go_frame
              refine till_one 9 rfl (by kernel_rfl) fun K hK => ?_
              simp only [List.getElem_toArray, List.getElem_cons_succ, List.getElem_cons_zero]
              rw [if_pos (by rfl)]
              go_simp
              obtain ⟨w6, hw6⟩ : ∃ w6, w6 = wz.alloc (.cells #[.int .i64 k1, .int .i64 k2, .int .u64 (uw0 m), .int .u64 (uw1 m), .int .u64 (uw2 m), .int .u64 (uw3 m)] 127) := ⟨_, rfl⟩
              have hb6 : Below wz.heap.size wz w6 := by rw [hw6]; exact (Below.refl _ _).alloc (Nat.le_refl _) _
              have hS6 := And.intro (below_at2 hb6 hS.1) (hS.2.later hb6)
              have HL6 := Lib.hid (show Rd w6 rowE 6 (.slice (some ⟨wz.heap.size, 0, none⟩) 1 1) [(⟨k1, k2, m⟩ : LRow)] by rw [hw6]; exact rd_row wz ⟨k1, k2, m⟩ _)
              have HO6 := Lib.hid (HOz.out.later hb6); have HRD6 := Lib.hid (HRDz.out.later hb6); have HB6 := Lib.hid (HBz.out.trans (hb6.mono HBz.out.size)); have HGS6 := Lib.hid (Nat.le_trans HGSz.out hb6.size)
              rw [← hw6]
              clear hw6 hb6 HOz HRDz HBz HGSz hS
              have hS := hS6
              clear hS6
              refine hK _ _ (fun _ _ => hS) ?_
              clear hK
              refine till_one 10 rfl (by kernel_rfl) fun K hK => ?_
              simp only [List.getElem_toArray, List.getElem_cons_succ, List.getElem_cons_zero]
              rw [if_pos (by rfl)]
              refine wp_own_apps (.tmp 55) (.tmp 64) 22 rfl Tryz.underlying22 Tryz.infoRow rfl (by decide) rowE_len rowE_one HO6.out rfl _ rfl HL6.out (by rw [HTL.out]; simp; unfold maxLen; omega) (by rw [HTL.out]; simp; omega) (B := w.heap.size) (w0 := w) HB6.out HGG.out.2.2 HGS6.out ?_
              intro v7 w7 ho7 hb7 hg7
              have hS7 := And.intro ((hg7.block X (heap_lt hS.1) (fun e => by obtain ⟨cs, fr, h⟩ := HO6.out.cellsAt e.symm; rw [hS.1] at h; cases h)).trans hS.1) (hS.2.keep (S := fun k => Value.ownBlock _ = some k) ⟨hg7.os, hg7.tape, hg7.output, hg7.size, fun k hk hn => hg7.block k hk (fun e => hn e.symm)⟩ (fun e => by have := (HO6.out.lt g e).1; have := HGG.out.1; omega))
              have HO7 := Lib.hid ho7; have HB7 := Lib.hid hb7; have HGS7 := Lib.hid (Nat.le_trans HGS6.out hg7.size)
              have HRD7 := Lib.hid (HO6.out.rdo hg7 HRD6.out (fun q e => by cases e; exact HGG.out.2.1))
              refine hK _ _ (fun _ _ => hS7) ?_
              clear hK ho7 hb7 hg7 HO6 HRD6 HB6 HGS6 hS
              have hS := hS7
              clear hS7
              refine till_take 11 (some 8) rfl rfl (by kernel_rfl) (by kernel_rfl) (by kernel_rfl) (by kernel_rfl) (by kernel_rfl) (by kernel_rfl) (fun _ _ _ h => h) (.inl ⟨by rfl, fun w' _ => (by go_simp; rfl)⟩) hS ?_
              go_frame
              refine till_done (by kernel_rfl) ?_ _
              go_wp2_with fail
              go_roundw
              case rel => exact ⟨j + 1, by go_num, HLT.out, HGS7, by rw [HSR.out]; exact HO7, HRD7, Lib.hid hS.2, HB7⟩
              case measure => have := HLT.out; simp [intOf]; omega
            · obtain rfl : j = i := by omega
              have HE := Lib.hid (show (sortR l).take j = sortR l by rw [List.take_of_length_le (by rw [sortR_len, ← HN.out]; omega)])
              rw [HE.out] at HO
              go_wp2_with fail
              go_ret2
              exact ⟨HB.out, .inr ⟨_, _, HY.out, rfl, HO.out.mono HGG.out.2.2⟩⟩
        · have hml := HA.out.2.2.1 (by rw [HN.out, List.take_length]; exact hnd)
          have tm : ((M.length : Int) != (i : Int)) = true := by simp; omega
          have HF := Lib.hid (sortedF_no (l := l) fun h => hnd h.2.2)
          clear hml hnd
          go_wp2_with fail
          go_ret2
          exact ⟨HB.out, .inl ⟨HF.out, rfl⟩⟩
end Go.Proofs.YtmclmccgghnglaaGreat
