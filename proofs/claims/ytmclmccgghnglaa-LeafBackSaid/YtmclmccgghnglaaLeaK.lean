/- leaf.Root (code). No condition. -/
import Derived.Test.YtmclmccgghnglaaLeaJ
namespace Go.Proofs.Ytmclmccgghnglaa
open Go.RowKit

theorem sort_ok {l s : List LRow} (h : sortedF l = some s) (hok : ∀ r ∈ l, ROk r) : (∀ r ∈ s, ROk r) ∧ 0 < s.length ∧ s.length ≤ 1024 := by
  obtain ⟨h1, _, h3, h4⟩ := sortedF_mem h
  exact ⟨fun r hr => hok r (h3 r hr), by rw [h4]; exact h1.1.1, by rw [h4]; exact h1.1.2⟩
theorem groups_ok {s : List LRow} (hok : ∀ r ∈ s, ROk r) : ∀ g ∈ groupsF s, g.1 < 9223372036854775808 ∧ ∀ r ∈ g.2, ROk r := by
  intro g hg
  obtain ⟨a, b, c⟩ := (groupsF_mem s).2 g hg
  refine ⟨?_, fun r hr => hok r (c r hr).1⟩
  obtain ⟨g1, g2⟩ := g
  cases g2 with
  | nil => exact absurd rfl a
  | cons r0 tl =>
    obtain ⟨h1, h2⟩ := c r0 (by simp)
    have h3 := (hok r0 h1).1.1.2
    rw [← show r0.e = g1 from h2]; exact h3
theorem fair_table {s : List LRow} (hok : ∀ r ∈ s, ROk r) : Fair (tableL s) := by
  intro b hb
  obtain ⟨g, hg, rfl⟩ := List.mem_map.1 hb
  have := earL_len (e := g.1) (h := rootF 2 (leavesG g.2)) (groups_ok hok g hg).1 (rootF_32 _ _)
  unfold earLeaf; omega
theorem table_ne {s : List LRow} (h : 0 < s.length) : tableL s ≠ [] := by
  intro e
  have := congrArg List.length e
  rw [tableL_len] at this
  exact groupsF_ne (l := s) (by intro h2; subst h2; simp at h) (List.eq_nil_of_length_eq_zero this)
theorem table_1024 {s : List LRow} (h : s.length ≤ 1024) : (tableL s).length ≤ 1024 := by
  rw [tableL_len]; have := (groupsF_mem s).1; omega
/-- A table's root, and why it has none. -/
def rootT (l : List LRow) : List UInt8 × Int := match sortedF l with
  | some s => (rootF 1 (tableL s), 0)
  | none => (zero32, 2)
theorem rootT_32 (l : List LRow) : (rootT l).1.length = 32 := by
  unfold rootT
  split
  · exact rootF_32 _ _
  · exact zero32_length
set_option maxHeartbeats 4000000 in
set_option maxRecDepth 100000 in
theorem lroot_any (w : World) (v : Value) (l : List LRow) (hr : Rd w rowE 6 v l) (hok : ∀ r ∈ l, ROk r) (hlen : l.length < 1000000000) :
    Calls Try.prog 9 #[v] w (Ret w (.tuple #[.agg (c8 (rootT l).1), .int .i64 (rootT l).2])) := by
  have HR := Lib.hid hr; have HOK := Lib.hid hok; have HL := Lib.hid hlen
  obtain ⟨RV, hRV⟩ : ∃ x, x = (Value.tuple #[.agg (c8 (rootT l).1), .int .i64 (rootT l).2]) := ⟨_, rfl⟩
  rw [← hRV]
  have HRV := Lib.hid hRV
  clear hr hok hlen hRV
  go_enter Try.func9, Try.ntmps9
  go_wp2_with (refine wpList_alloc_g rfl _ rfl _ _ Try.zeroHash rfl ?_)
  intro R w1 h1'
  go_wp2_with fail
  refine (of_any w1 v l (HR.out.later h1'.out.below) HOK.out HL.out).mono ?_
  rintro e w2 ⟨hb2, hF⟩
  have HR2 := Lib.hid (below_at2 hb2 h1'.out.cells); have HB2 := Lib.hid (h1'.out.below.trans (hb2.mono h1'.out.below.size)); have HWR := Lib.hid h1'.out.eq
  clear hb2 h1'
  rcases hF with ⟨hF, rfl⟩ | ⟨s, vg, vo, raws, b, hF, rfl, hvg, _, htx⟩
  · have hv : RV = (.tuple #[.agg (c8 zero32), .int .i64 2]) := by rw [HRV.out]; unfold rootT; rw [hF]
    have HV := Lib.hid hv
    clear hv hF
    go_wp2_with (refine wpList_alloc_g rfl _ rfl _ _ Try.zeroTab rfl ?_)
    intro X w3 h3
    go_wp2_with (refine wpList_store_row_g (t := 72) (old := #[.slice none 0 0, .slice none 0 0]) rfl 72 _ _ rfl X #[.slice none 0 0, .slice none 0 0] rfl rfl h3.out.cells Try.sizeTab rfl (one_sl2 _ _ _ _ _ _) ?_)
    intro w4 h4 k4 z4
    have hb : Below w2.heap.size w2 w4 := h3.out.below.trans (k4.below (B := w2.heap.size) (fun q hq e => by have := h3.out.eq; omega) h3.out.below.size)
    have HR4 := Lib.hid (below_at2 hb HR2.out); have HB4 := Lib.hid (HB2.out.trans (hb.mono HB2.out.size))
    clear h3 h4 k4 z4 hb HR2 HB2
    go_wp2_with (refine wpList_store_row_g (t := 23) (old := cB 32 []) rfl 23 _ _ rfl R (c8 zero32) rfl rfl HR4.out (Try.sizeHs _ zero32_length) (by rw [c8_size, zero32_length]; rfl) (by rw [← cB_full 32 _ zero32_length]; exact one_b _ _) ?_)
    intro w5 h5 k5 z5
    have H5 := Lib.hid h5
    have H6 := Lib.hid (k5.onto HB4.out (Nat.le_refl _) (by have := HWR.out; omega))
    clear h5 k5 z5
    go_wp2_with fail
    exact bodyPost_ret (res_row_val rfl _ _ R _ (c8 zero32) _ _ rfl H5.out Try.underlying23 rfl (Try.sizeHs _ zero32_length) _ rfl) rfl ⟨by rw [HV.out]; rfl, H6.out⟩
  · have hv : RV = (.tuple #[.agg (c8 (rootF 1 (tableL s))), .int .i64 0]) := by rw [HRV.out]; unfold rootT; rw [hF]
    have HV := Lib.hid hv
    obtain ⟨hok2, hn1, hn2⟩ := sort_ok hF HOK.out
    obtain ⟨rt, hrt⟩ : ∃ rt, rt = rootF 1 (tableL s) := ⟨_, rfl⟩
    have hgood := root_good (k := 1) (.inl rfl) (table_ne hn1) (table_1024 hn2)
    rw [show rootF (1 : Int).toNat (tableL s) = rt by rw [hrt]; rfl] at hgood
    rw [← hrt] at HV
    have HGO := Lib.hid hgood; have HR32 := Lib.hid (show rt.length = 32 by rw [hrt]; exact rootF_32 _ _)
    have HFT := Lib.hid (fair_table hok2); have HTX := Lib.hid htx
    obtain ⟨ad1, cap1, rfl, _, _⟩ := hvg.shape
    obtain ⟨n1, hn1'⟩ : ∃ n, n = raws.length := ⟨_, rfl⟩
    rw [← hn1']
    obtain ⟨ad2, cap2, rfl, _, _⟩ := htx.shape
    obtain ⟨n2, hn2'⟩ : ∃ n, n = (tableL s).length := ⟨_, rfl⟩
    rw [← hn2'] at HTX ⊢
    clear hv hF hvg htx hok2 hn1 hn2 hgood hrt hn1' hn2'
    go_wp2_with (refine wpList_alloc_g rfl _ rfl _ _ Try.zeroTab rfl ?_)
    intro X w3 h3
    go_wp2_with (refine wpList_store_row_g (t := 72) (old := #[.slice none 0 0, .slice none 0 0]) rfl 72 _ _ rfl X #[.slice ad1 n1 cap1, .slice ad2 n2 cap2] rfl rfl h3.out.cells Try.sizeTab rfl (one_sl2 _ _ _ _ _ _) ?_)
    intro w4 h4 k4 z4
    have hb : Below w2.heap.size w2 w4 := h3.out.below.trans (k4.below (B := w2.heap.size) (fun q hq e => by have := h3.out.eq; omega) h3.out.below.size)
    have HR4 := Lib.hid (below_at2 hb HR2.out); have HB4 := Lib.hid (HB2.out.trans (hb.mono HB2.out.size)); have HTX4 := Lib.hid (HTX.out.later hb)
    have q1 : w4.cell? ⟨X, 1, none⟩ = some (.slice ad2 n2 cap2) := Lib.cell_of_heap h4 1
    clear h3 h4 k4 z4 hb HR2 HB2 HTX
    go_wp2_with fail
    refine (mroot_any 1 (tableL s) _ w4 HTX4.out HFT.out).mono ?_
    rw [HGO.out]
    rintro e w5 ⟨rfl, hb5⟩
    have HR5 := Lib.hid (below_at2 hb5 HR4.out); have HB5 := Lib.hid (HB4.out.trans (hb5.mono HB4.out.size))
    clear hb5 HR4 HB4 HTX4 q1
    go_wp2_with (refine wpList_store_row_g (t := 23) (old := cB 32 []) rfl 23 _ _ rfl R (c8 rt) rfl rfl HR5.out (Try.sizeHc rt HR32.out) (by rw [c8_size, HR32.out]; rfl) (c8_ones rt) ?_)
    intro w6 h6 k6 z6
    have H6 := Lib.hid h6
    have H7 := Lib.hid (k6.onto HB5.out (Nat.le_refl _) (by have := HWR.out; omega))
    clear h6 k6 z6
    go_wp2_with fail
    exact bodyPost_ret (res_row_val rfl _ _ R _ (c8 rt) _ _ rfl H6.out Try.underlying23 rfl (Try.sizeHc rt HR32.out) _ rfl) rfl ⟨by rw [HV.out]; rfl, H7.out⟩
end Go.Proofs.Ytmclmccgghnglaa
