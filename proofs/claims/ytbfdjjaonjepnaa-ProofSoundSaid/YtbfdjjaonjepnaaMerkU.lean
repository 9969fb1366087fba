/- tallageref06.Tree.Twins. -/
import Derived.Test.YtbfdjjaonjepnaaMerkT
namespace Go.Proofs.Ytbfdjjaonjepnaa
open Go.RowKit

theorem Tr.texts {w : World} {g : Nat} {a : Option Nat} {texts : List (List UInt8)} (h : Tr w g a texts) : ∃ v, w.heap[g]? = some (.cells #[v] 70 (0, 0)) ∧ Texts w v texts := by
  obtain ⟨v, vs, h1, h2, _, h4, h5⟩ := h
  exact ⟨v, h1, vs, h2.rd slE_len, h4, fun i u l p q => (h5 i u l p q).1⟩
/-- Text number i. -/
def tAt (l : List (List UInt8)) (i : Nat) : List UInt8 := l.getD i []
theorem tAt_eq (l : List (List UInt8)) (i : Nat) (h : i < l.length) : tAt l i = l[i] := by
  unfold tAt
  rw [List.getD_eq_getElem?_getD, List.getElem?_eq_getElem h]; rfl
theorem tAt_mem (l : List (List UInt8)) (i : Nat) (h : i < l.length) : tAt l i ∈ l := by
  rw [tAt_eq l i h]; exact List.getElem_mem _
theorem no_twin_nil : ¬ Twin [] := by rintro ⟨x, hx, _⟩; simp at hx
theorem no_twin_more {l : List (List UInt8)} {i : Nat} (hi : i < l.length) (h : ¬ Twin (l.take i)) (hk : ∀ m, m < i → shaF (tAt l m) = shaF (tAt l i) → tAt l m = tAt l i) : ¬ Twin (l.take (i + 1)) := by
  rintro ⟨x, hx, y, hy, hne, he⟩
  rw [List.take_succ_eq_append_getElem hi, List.mem_append, List.mem_singleton] at hx hy
  have key : ∀ x ∈ l.take i, shaF x = shaF l[i] → x = l[i] := by
    intro x hx h
    obtain ⟨m, hm, rfl⟩ := List.getElem_of_mem hx
    have hm' : m < i := by rw [List.length_take] at hm; omega
    rw [List.getElem_take] at h ⊢
    have h2 := hk m hm'
    rw [tAt_eq l m (by omega), tAt_eq l i hi] at h2
    exact h2 h
  rcases hx with hx | hx <;> rcases hy with hy | hy
  · exact h ⟨x, hx, y, hy, hne, he⟩
  · subst hy; exact hne (key x hx he)
  · subst hx; exact hne (key y hy he.symm).symm
  · exact hne (hx.trans hy.symm)
theorem sums_at (l : List (List UInt8)) (i m : Nat) (hi : i ≤ l.length) (hm : m < i) : hAt ((l.take i).map shaF) m = shaF (tAt l m) := by
  rw [hAt_eq _ m (by rw [List.length_map, List.length_take]; omega), List.getElem_map, List.getElem_take, tAt_eq l m (by omega)]
theorem sums_32 (l : List (List UInt8)) (i : Nat) : All32 ((l.take i).map shaF) := by
  intro x hx
  obtain ⟨y, _, rfl⟩ := List.mem_map.1 hx
  exact shaF_length _
theorem yields_conv {P : Program} {ops : Array Oper} {S : World → Prop} {a : Act} {o : Oper} (hw : Region.wanted o (yielded ops a.tmps) = true) (src dst : TypeId) (x : Operand) (ho : o.op = .convert src dst x) (pv : Value) (hx : a.eval x = pv) (v : Value)
    (hl : ∀ w, S w → (convert src dst pv).run P w = .ok v w) : YieldsIf P ops S o v a := by
  refine .inl ⟨hw, fun w hS => ?_⟩
  unfold execOp
  simp only [ho, hx, Sem.run_bind, Sem.run_pure, hl w hS, Result.andThen_ok]
/-- What holds at the head of the loop over the texts. -/
def TwL (w : World) (l : List (List UInt8)) (i : Nat) (x : Value) (wr : World) : Prop := Below w.heap.size w wr ∧ Own wr w.heap.size 48 hE 32 x ((l.take i).map shaF) ∧ ¬ Twin (l.take i)

set_option maxRecDepth 100000 in
set_option maxHeartbeats 4000000 in
theorem twins_any (w : World) (g : Nat) (a : Option Nat) (texts : List (List UInt8)) (ht : Tr w g a texts) (hn : texts.length < 900000000) (hl : ∀ t ∈ texts, t.length < 1099511627776) :
    Calls Try.prog 61 #[.pointer (some ⟨g, 0, none⟩)] w fun e w' => ∃ b, e = .returned (.bool b) ∧ (b = true ↔ Twin texts) ∧ Below w.heap.size w w' := by
  obtain ⟨v, hg, hT⟩ := ht.texts
  obtain ⟨ad, cap, rfl, hc1, hc2⟩ := hT.shape
  obtain ⟨n, hnn⟩ : ∃ n, n = texts.length := ⟨_, rfl⟩
  rw [← hnn] at hn hc1 hg hT
  have hglt := heap_lt hg
  have q : w.cell? ⟨g, 0, none⟩ = some (.slice ad n cap) := by
    have := Lib.cell_of_heap hg 0
    simpa only [List.getElem?_toArray, List.getElem?_cons_zero] using this
  have HG := Lib.hid q; have HT := Lib.hid hT; have HNN := Lib.hid hnn; have HL := Lib.hid hl
  clear hg hT hnn hl ht
  go_enter Try.func61, Try.ntmps61
  go_wp2_with fail
  clear q
  go_loopw [3, 14] (fun x y wr => ∃ i : Nat, i ≤ n ∧ y = .int .i64 i ∧ TwL w texts i x wr) (fun _ y _ => n - (intOf y).toNat)
  case atStart => exact ⟨0, Nat.zero_le _, rfl, Below.refl _ _, Own.nil _ _ _ _ _, no_twin_nil⟩
  case round =>
    obtain ⟨i, hi, rfl, hlay⟩ := hrel
    obtain ⟨hb, hown, hno⟩ := hlay
    by_cases hlt : i < n
    · obtain ⟨lb, off, u, rfl, hlb, hcell, hru⟩ := HT.out.at i (by have := HNN.out; omega)
      rw [← tAt_eq texts i (by have := HNN.out; omega)] at hru
      have hz : (tAt texts i).length < 1099511627776 := HL.out _ (tAt_mem _ _ (by have := HNN.out; omega))
      obtain ⟨x, hx⟩ : ∃ x, x = tAt texts i := ⟨_, rfl⟩
      rw [← hx] at hru hz
      obtain ⟨uad, ucap, hu, _⟩ := hru.shape
      subst hu
      obtain ⟨m, hm⟩ : ∃ m, m = x.length := ⟨_, rfl⟩
      rw [← hm] at hcell hru
      have hcw := (hb.cell (p := ⟨lb, off + i, none⟩) hlb).trans hcell
      have hsl : ((texts.take i).map shaF).length = i := by rw [List.length_map, List.length_take]; have := HNN.out; omega
      obtain ⟨sad, scap, hs, _⟩ := (hown.rd hE_len).shape
      rw [hsl] at hs
      subst hs
      have HB := Lib.hid hb; have HOWN := Lib.hid hown; have HNO := Lib.hid hno; have HX := Lib.hid hx; have HRU := Lib.hid hru; have HCI := Lib.hid hcell; have HSL := Lib.hid hsl; have HM := Lib.hid hm
      clear hb hown hno hx hru hcell hsl hm
      go_wp2_with fail
      refine (refSum_any _ x _ (HRU.out.later HB.out) hz).mono ?_
      rintro e w1 ⟨rfl, hb1⟩
      obtain ⟨y, hy⟩ : ∃ y, y = shaF x := ⟨_, rfl⟩
      have hy32 : y.length = 32 := by rw [hy]; exact shaF_length _
      rw [← hy]
      have HY := Lib.hid hy; have HY32 := Lib.hid hy32
      have HB1 := Lib.hid (HB.out.trans (hb1.mono HB.out.size)); have HOWN1 := Lib.hid (HOWN.out.later hb1)
      clear hy hy32 hb1 HB HOWN hcw
      go_wp2_with (refine wpList_alloc_g rfl _ rfl _ _ Try.zeroHash rfl ?_)
      intro R w2 h2
      go_wp2_with (refine wpList_store_row_g (t := 48) (old := cB 32 []) rfl 48 _ _ rfl R (c8 y) rfl rfl h2.out.cells (Try.sizeHs _ HY32.out) (by rw [c8_size, HY32.out]; rfl) (by rw [← cB_full 32 _ HY32.out]; exact one_b _ _) ?_)
      intro w3 h3 k3 z3
      have hb13 : Below w1.heap.size w1 w3 := h2.out.below.trans (k3.below (B := w1.heap.size) (fun q hq e => by have := h2.out.eq; omega) h2.out.below.size)
      have HB3 := Lib.hid (HB1.out.trans (hb13.mono HB1.out.size)); have HOWN3 := Lib.hid (HOWN1.out.later hb13); have HR := Lib.hid h3
      clear hb13 h3 k3 z3 h2 HOWN1 HB1
      go_wp2_with fail
      go_loopw [23] (fun x wr => ∃ k : Nat, k ≤ i ∧ x = .int .i64 k ∧ Below w3.heap.size w3 wr ∧ Hid (∀ m, m < k → shaF (tAt texts m) = shaF (tAt texts i) → tAt texts m = tAt texts i)) (fun x _ => i - (intOf x).toNat)
      case atStart => exact ⟨0, Nat.zero_le _, rfl, Below.refl _ _, Lib.hid fun m hm => absurd hm (Nat.not_lt_zero _)⟩
      case round =>
        obtain ⟨k, hk, rfl, hb4, HK⟩ := hrel
        by_cases hki : k < i
        · have hrd := (HOWN3.out.rd hE_len).later hb4
          obtain ⟨rb, ro, hrp, hrb, hrange⟩ := hrd.hash (sums_32 _ _) k (by rw [HSL.out]; exact hki)
          subst hrp
          rw [← hAt_eq _ k (by rw [HSL.out]; exact hki), sums_at texts i k (by have := HNN.out; omega) hki] at hrange
          obtain ⟨z, hz2⟩ : ∃ z, z = tAt texts k := ⟨_, rfl⟩
          obtain ⟨s, hs⟩ : ∃ s, s = shaF z := ⟨_, rfl⟩
          rw [← hz2, ← hs] at hrange
          have hs32 : s.length = 32 := by rw [hs]; exact shaF_length _
          have HB4 := Lib.hid hb4; have HRG := Lib.hid hrange; have HZ := Lib.hid hz2; have HS := Lib.hid hs; have HS32 := Lib.hid hs32
          clear hb4 hrange hz2 hs hs32 hrd
          go_wp2_with (first
            | (refine wpList_load_mid rfl _ _ rfl rb (ro + k * 32) rfl (s.map byteV) _ HRG.out Try.underlying48 rfl (Try.sizeHm _ HS32.out) ?_)
            | (refine wpList_alloc_g rfl _ rfl _ _ Try.zeroHash rfl ?_))
          intro R8 w5 h5
          go_wp2_with (refine wpList_store_row_g (t := 48) (old := cB 32 []) rfl 48 _ _ rfl R8 (c8 s) rfl rfl h5.out.cells (Try.sizeHs _ HS32.out) (by rw [c8_size, HS32.out]; rfl) (by rw [← cB_full 32 _ HS32.out]; exact one_b _ _) ?_)
          intro w6 h6 k6 z6
          have hb56 : Below wr.heap.size wr w6 := h5.out.below.trans (k6.below (B := wr.heap.size) (fun q hq e => by have := h5.out.eq; omega) h5.out.below.size)
          have hb36 := HB4.out.trans (hb56.mono HB4.out.size)
          have hr8 : w6.heap[R8]? = _ := h6
          have hr6 : w6.heap[R]? = _ := (hb36.block R (heap_lt HR.out)).trans HR.out
          have hb06 := HB3.out.trans (hb36.mono HB3.out.size)
          have hcg := (hb06.cell (p := ⟨g, 0, none⟩) hglt).trans HG.out
          have hci := (hb06.cell (p := ⟨lb, off + i, none⟩) hlb).trans HCI.out
          obtain ⟨lb2, off2, u2, hlb2, _, hck, hru2⟩ := HT.out.at k (by have := HNN.out; omega)
          cases hlb2
          rw [← tAt_eq texts k (by have := HNN.out; omega), ← HZ.out] at hru2
          obtain ⟨uad2, ucap2, hu2, _⟩ := hru2.shape
          subst hu2
          obtain ⟨m2, hm2⟩ : ∃ m2, m2 = z.length := ⟨_, rfl⟩
          rw [← hm2] at hck hru2
          replace hck := (hb06.cell (p := ⟨lb, off + k, none⟩) hlb).trans hck
          have L8 : Hid (∀ w', Below w6.heap.size w6 w' → (Instr.loadAt 48 (.pointer (some ⟨R8, 0, none⟩))).run Try.prog w' = .ok (.agg (c8 s)) w') := Lib.hid fun w' e => by exact load_hash ((e.block R8 (heap_lt hr8)).trans hr8) HS32.out
          have L6 : Hid (∀ w', Below w6.heap.size w6 w' → (Instr.loadAt 48 (.pointer (some ⟨R, 0, none⟩))).run Try.prog w' = .ok (.agg (c8 y)) w') := Lib.hid fun w' e => by exact load_hash ((e.block R (heap_lt hr6)).trans hr6) HY32.out
          have CG : Hid (∀ w', Below w6.heap.size w6 w' → w'.cell? ⟨g, 0, none⟩ = some (.slice (some ⟨lb, off, none⟩) n cap)) := Lib.hid fun w' e => (e.cell (p := ⟨g, 0, none⟩) (Nat.lt_of_lt_of_le hglt hb06.size)).trans hcg
          have CI : Hid (∀ w', Below w6.heap.size w6 w' → w'.cell? ⟨lb, off + i, none⟩ = some (.slice uad m ucap)) := Lib.hid fun w' e => (e.cell (p := ⟨lb, off + i, none⟩) (Nat.lt_of_lt_of_le hlb hb06.size)).trans hci
          have CK : Hid (∀ w', Below w6.heap.size w6 w' → w'.cell? ⟨lb, off + k, none⟩ = some (.slice uad2 m2 ucap2)) := Lib.hid fun w' e => (e.cell (p := ⟨lb, off + k, none⟩) (Nat.lt_of_lt_of_le hlb hb06.size)).trans hck
          have VI : Hid (∀ w', Below w6.heap.size w6 w' → (convert 43 9 (.slice uad m ucap)).run Try.prog w' = .ok (.string (bs x)) w') := Lib.hid fun w' e => by exact rd_conv Try.underlying43 Try.underlying5 Try.underlying9 ((HRU.out.later hb06).later e)
          have VK : Hid (∀ w', Below w6.heap.size w6 w' → (convert 43 9 (.slice uad2 m2 ucap2)).run Try.prog w' = .ok (.string (bs z)) w') := Lib.hid fun w' e => by exact rd_conv Try.underlying43 Try.underlying5 Try.underlying9 ((hru2.later hb06).later e)
          have hkn : k < n := by omega
          have HB36 := Lib.hid hb36; have HB06 := Lib.hid hb06
          clear hb56 hb36 hr8 hr6 hb06 hcg hci hck hru2 hm2 h6 k6 z6 h5
          have hS : Below w6.heap.size w6 w6.drew := (Below.refl _ _).drew
          have heq := Try.eqH s y HS32.out HY32.out
          by_cases hh : s = y
          · rw [decide_eq_true hh] at heq
            by_cases hxz : z = x
            · have hj : ((bs z).toList == (bs x).toList) = true := by rw [hxz]; simp
              have HXZ := Lib.hid hxz; have HJ := Lib.hid hj
              clear hxz hj hh
              go_wp2_with fail
              refine wp_region_till (fun w' => Below w6.heap.size w6 w') 21 22 (by kernel_rfl) rfl ?_
              refine till_take 0 (some 28) rfl rfl (by kernel_rfl) (by kernel_rfl) (by kernel_rfl) (by kernel_rfl) (by kernel_rfl) (by kernel_rfl) (fun _ _ _ h => h) (yields_load (by rfl) 48 (.tmp 8) rfl (.pointer (some ⟨R8, 0, none⟩)) rfl _ L8.out) hS ?_
              go_frame
              refine till_take 1 (some 29) rfl rfl (by kernel_rfl) (by kernel_rfl) (by kernel_rfl) (by kernel_rfl) (by kernel_rfl) (by kernel_rfl) (fun _ _ _ h => h) (yields_load (by rfl) 48 (.tmp 6) rfl (.pointer (some ⟨R, 0, none⟩)) rfl _ L6.out) hS ?_
              go_frame
              refine till_take 2 (some 30) rfl rfl (by kernel_rfl) (by kernel_rfl) (by kernel_rfl) (by kernel_rfl) (by kernel_rfl) (by kernel_rfl) (fun _ _ _ h => h) (.inl ⟨by rfl, fun w' _ => (by go_simp; rfl)⟩) hS ?_
              go_frame
              refine till_take 3 (some 31) rfl rfl (by kernel_rfl) (by kernel_rfl) (by kernel_rfl) (by kernel_rfl) (by kernel_rfl) (by kernel_rfl) (fun _ _ _ h => h) (.inl ⟨by rfl, fun w' _ => (by go_simp; rfl)⟩) hS ?_
              go_frame
              refine till_take 4 (some 32) rfl rfl (by kernel_rfl) (by kernel_rfl) (by kernel_rfl) (by kernel_rfl) (by kernel_rfl) (by kernel_rfl) (fun _ _ _ h => h) (.inl ⟨by rfl, fun w' _ => (by go_simp; rfl)⟩) hS ?_
              go_frame
              refine till_take 5 (some 33) rfl rfl (by kernel_rfl) (by kernel_rfl) (by kernel_rfl) (by kernel_rfl) (by kernel_rfl) (by kernel_rfl) (fun _ _ _ h => h) (.inl ⟨by rfl, fun w' _ => (by go_simp; rfl)⟩) hS ?_
              go_frame
              refine till_take 6 (some 34) rfl rfl (by kernel_rfl) (by kernel_rfl) (by kernel_rfl) (by kernel_rfl) (by kernel_rfl) (by kernel_rfl) (fun _ _ _ h => h) (.inl ⟨by rfl, fun w' _ => (by go_simp; rfl)⟩) hS ?_
              go_frame
              refine till_take 7 (some 35) rfl rfl (by kernel_rfl) (by kernel_rfl) (by kernel_rfl) (by kernel_rfl) (by kernel_rfl) (by kernel_rfl) (fun _ _ _ h => h) (.inl ⟨by rfl, fun w' hS' => (by have hc := CG.out w' hS'; go_simp; rfl)⟩) hS ?_
              go_frame
              refine till_take 8 (some 36) rfl rfl (by kernel_rfl) (by kernel_rfl) (by kernel_rfl) (by kernel_rfl) (by kernel_rfl) (by kernel_rfl) (fun _ _ _ h => h) (.inl ⟨by rfl, fun w' _ => (by go_simp; rfl)⟩) hS ?_
              go_frame
              refine till_take 9 (some 37) rfl rfl (by kernel_rfl) (by kernel_rfl) (by kernel_rfl) (by kernel_rfl) (by kernel_rfl) (by kernel_rfl) (fun _ _ _ h => h) (.inl ⟨by rfl, fun w' _ => (by go_simp; rfl)⟩) hS ?_
              go_frame
              refine till_take 10 (some 38) rfl rfl (by kernel_rfl) (by kernel_rfl) (by kernel_rfl) (by kernel_rfl) (by kernel_rfl) (by kernel_rfl) (fun _ _ _ h => h) (.inl ⟨by rfl, fun w' hS' => (by have hc := CK.out w' hS'; go_simp; rfl)⟩) hS ?_
              go_frame
              refine till_take 11 (some 39) rfl rfl (by kernel_rfl) (by kernel_rfl) (by kernel_rfl) (by kernel_rfl) (by kernel_rfl) (by kernel_rfl) (fun _ _ _ h => h) (yields_conv (by rfl) 43 9 (.tmp 38) rfl (.slice uad2 m2 ucap2) rfl _ VK.out) hS ?_
              go_frame
              refine till_take 12 (some 40) rfl rfl (by kernel_rfl) (by kernel_rfl) (by kernel_rfl) (by kernel_rfl) (by kernel_rfl) (by kernel_rfl) (fun _ _ _ h => h) (.inl ⟨by rfl, fun w' _ => (by go_simp; rfl)⟩) hS ?_
              go_frame
              refine till_take 13 (some 41) rfl rfl (by kernel_rfl) (by kernel_rfl) (by kernel_rfl) (by kernel_rfl) (by kernel_rfl) (by kernel_rfl) (fun _ _ _ h => h) (.inl ⟨by rfl, fun w' _ => (by go_simp; rfl)⟩) hS ?_
              go_frame
              refine till_take 14 (some 42) rfl rfl (by kernel_rfl) (by kernel_rfl) (by kernel_rfl) (by kernel_rfl) (by kernel_rfl) (by kernel_rfl) (fun _ _ _ h => h) (.inl ⟨by rfl, fun w' _ => (by go_simp; rfl)⟩) hS ?_
              go_frame
              refine till_take 15 (some 43) rfl rfl (by kernel_rfl) (by kernel_rfl) (by kernel_rfl) (by kernel_rfl) (by kernel_rfl) (by kernel_rfl) (fun _ _ _ h => h) (.inl ⟨by rfl, fun w' hS' => (by have hc := CG.out w' hS'; go_simp; rfl)⟩) hS ?_
              go_frame
              refine till_take 16 (some 44) rfl rfl (by kernel_rfl) (by kernel_rfl) (by kernel_rfl) (by kernel_rfl) (by kernel_rfl) (by kernel_rfl) (fun _ _ _ h => h) (.inl ⟨by rfl, fun w' _ => (by go_simp; rfl)⟩) hS ?_
              go_frame
              refine till_take 17 (some 45) rfl rfl (by kernel_rfl) (by kernel_rfl) (by kernel_rfl) (by kernel_rfl) (by kernel_rfl) (by kernel_rfl) (fun _ _ _ h => h) (.inl ⟨by rfl, fun w' _ => (by go_simp; rfl)⟩) hS ?_
              go_frame
              refine till_take 18 (some 46) rfl rfl (by kernel_rfl) (by kernel_rfl) (by kernel_rfl) (by kernel_rfl) (by kernel_rfl) (by kernel_rfl) (fun _ _ _ h => h) (.inl ⟨by rfl, fun w' hS' => (by have hc := CI.out w' hS'; go_simp; rfl)⟩) hS ?_
              go_frame
              refine till_take 19 (some 47) rfl rfl (by kernel_rfl) (by kernel_rfl) (by kernel_rfl) (by kernel_rfl) (by kernel_rfl) (by kernel_rfl) (fun _ _ _ h => h) (yields_conv (by rfl) 43 9 (.tmp 46) rfl (.slice uad m ucap) rfl _ VI.out) hS ?_
              go_frame
              refine till_take 20 (some 48) rfl rfl (by kernel_rfl) (by kernel_rfl) (by kernel_rfl) (by kernel_rfl) (by kernel_rfl) (by kernel_rfl) (fun _ _ _ h => h) (.inl ⟨by rfl, fun w' _ => (by have hj := HJ.out; go_simp; rfl)⟩) hS ?_
              go_frame
              refine till_one 21 rfl (by kernel_rfl) fun K hK => ?_
              simp only [List.getElem_toArray, List.getElem_cons_succ, List.getElem_cons_zero]
              rw [if_pos (by rfl)]
              go_simp
              refine hK _ _ (fun h => absurd rfl h) ?_
              clear hK heq
              refine till_done (by kernel_rfl) ?_ _
              have hj := HJ.out
              go_wp2_with fail
              go_roundw
              case rel => exact ⟨k + 1, by omega, by go_num, HB36.out.drew, Lib.hid fun m hm h => (by
                rcases Nat.lt_or_ge m k with h1 | h1
                · exact HK.out m h1 h
                · obtain rfl : m = k := by omega
                  rw [← HZ.out, ← HX.out]; exact HXZ.out)⟩
              case measure => simp [intOf]; omega
            · have hj : ((bs z).toList == (bs x).toList) = false := by
                rw [beq_eq_false_iff_ne]
                intro e
                rw [Lib.toList_data, Lib.toList_data] at e
                exact hxz e
              have HTW : Hid (Twin texts) := Lib.hid ⟨z, HZ.out ▸ tAt_mem _ _ (by have := HNN.out; omega), x, HX.out ▸ tAt_mem _ _ (by have := HNN.out; omega), hxz, by rw [← HS.out, ← HY.out]; exact hh⟩
              have HJ := Lib.hid hj
              clear hxz hj hh
              go_wp2_with fail
              refine wp_region_till (fun w' => Below w6.heap.size w6 w') 21 22 (by kernel_rfl) rfl ?_
              refine till_take 0 (some 28) rfl rfl (by kernel_rfl) (by kernel_rfl) (by kernel_rfl) (by kernel_rfl) (by kernel_rfl) (by kernel_rfl) (fun _ _ _ h => h) (yields_load (by rfl) 48 (.tmp 8) rfl (.pointer (some ⟨R8, 0, none⟩)) rfl _ L8.out) hS ?_
              go_frame
              refine till_take 1 (some 29) rfl rfl (by kernel_rfl) (by kernel_rfl) (by kernel_rfl) (by kernel_rfl) (by kernel_rfl) (by kernel_rfl) (fun _ _ _ h => h) (yields_load (by rfl) 48 (.tmp 6) rfl (.pointer (some ⟨R, 0, none⟩)) rfl _ L6.out) hS ?_
              go_frame
              refine till_take 2 (some 30) rfl rfl (by kernel_rfl) (by kernel_rfl) (by kernel_rfl) (by kernel_rfl) (by kernel_rfl) (by kernel_rfl) (fun _ _ _ h => h) (.inl ⟨by rfl, fun w' _ => (by go_simp; rfl)⟩) hS ?_
              go_frame
              refine till_take 3 (some 31) rfl rfl (by kernel_rfl) (by kernel_rfl) (by kernel_rfl) (by kernel_rfl) (by kernel_rfl) (by kernel_rfl) (fun _ _ _ h => h) (.inl ⟨by rfl, fun w' _ => (by go_simp; rfl)⟩) hS ?_
              go_frame
              refine till_take 4 (some 32) rfl rfl (by kernel_rfl) (by kernel_rfl) (by kernel_rfl) (by kernel_rfl) (by kernel_rfl) (by kernel_rfl) (fun _ _ _ h => h) (.inl ⟨by rfl, fun w' _ => (by go_simp; rfl)⟩) hS ?_
              go_frame
              refine till_take 5 (some 33) rfl rfl (by kernel_rfl) (by kernel_rfl) (by kernel_rfl) (by kernel_rfl) (by kernel_rfl) (by kernel_rfl) (fun _ _ _ h => h) (.inl ⟨by rfl, fun w' _ => (by go_simp; rfl)⟩) hS ?_
              go_frame
              refine till_take 6 (some 34) rfl rfl (by kernel_rfl) (by kernel_rfl) (by kernel_rfl) (by kernel_rfl) (by kernel_rfl) (by kernel_rfl) (fun _ _ _ h => h) (.inl ⟨by rfl, fun w' _ => (by go_simp; rfl)⟩) hS ?_
              go_frame
              refine till_take 7 (some 35) rfl rfl (by kernel_rfl) (by kernel_rfl) (by kernel_rfl) (by kernel_rfl) (by kernel_rfl) (by kernel_rfl) (fun _ _ _ h => h) (.inl ⟨by rfl, fun w' hS' => (by have hc := CG.out w' hS'; go_simp; rfl)⟩) hS ?_
              go_frame
              refine till_take 8 (some 36) rfl rfl (by kernel_rfl) (by kernel_rfl) (by kernel_rfl) (by kernel_rfl) (by kernel_rfl) (by kernel_rfl) (fun _ _ _ h => h) (.inl ⟨by rfl, fun w' _ => (by go_simp; rfl)⟩) hS ?_
              go_frame
              refine till_take 9 (some 37) rfl rfl (by kernel_rfl) (by kernel_rfl) (by kernel_rfl) (by kernel_rfl) (by kernel_rfl) (by kernel_rfl) (fun _ _ _ h => h) (.inl ⟨by rfl, fun w' _ => (by go_simp; rfl)⟩) hS ?_
              go_frame
              refine till_take 10 (some 38) rfl rfl (by kernel_rfl) (by kernel_rfl) (by kernel_rfl) (by kernel_rfl) (by kernel_rfl) (by kernel_rfl) (fun _ _ _ h => h) (.inl ⟨by rfl, fun w' hS' => (by have hc := CK.out w' hS'; go_simp; rfl)⟩) hS ?_
              go_frame
              refine till_take 11 (some 39) rfl rfl (by kernel_rfl) (by kernel_rfl) (by kernel_rfl) (by kernel_rfl) (by kernel_rfl) (by kernel_rfl) (fun _ _ _ h => h) (yields_conv (by rfl) 43 9 (.tmp 38) rfl (.slice uad2 m2 ucap2) rfl _ VK.out) hS ?_
              go_frame
              refine till_take 12 (some 40) rfl rfl (by kernel_rfl) (by kernel_rfl) (by kernel_rfl) (by kernel_rfl) (by kernel_rfl) (by kernel_rfl) (fun _ _ _ h => h) (.inl ⟨by rfl, fun w' _ => (by go_simp; rfl)⟩) hS ?_
              go_frame
              refine till_take 13 (some 41) rfl rfl (by kernel_rfl) (by kernel_rfl) (by kernel_rfl) (by kernel_rfl) (by kernel_rfl) (by kernel_rfl) (fun _ _ _ h => h) (.inl ⟨by rfl, fun w' _ => (by go_simp; rfl)⟩) hS ?_
              go_frame
              refine till_take 14 (some 42) rfl rfl (by kernel_rfl) (by kernel_rfl) (by kernel_rfl) (by kernel_rfl) (by kernel_rfl) (by kernel_rfl) (fun _ _ _ h => h) (.inl ⟨by rfl, fun w' _ => (by go_simp; rfl)⟩) hS ?_
              go_frame
              refine till_take 15 (some 43) rfl rfl (by kernel_rfl) (by kernel_rfl) (by kernel_rfl) (by kernel_rfl) (by kernel_rfl) (by kernel_rfl) (fun _ _ _ h => h) (.inl ⟨by rfl, fun w' hS' => (by have hc := CG.out w' hS'; go_simp; rfl)⟩) hS ?_
              go_frame
              refine till_take 16 (some 44) rfl rfl (by kernel_rfl) (by kernel_rfl) (by kernel_rfl) (by kernel_rfl) (by kernel_rfl) (by kernel_rfl) (fun _ _ _ h => h) (.inl ⟨by rfl, fun w' _ => (by go_simp; rfl)⟩) hS ?_
              go_frame
              refine till_take 17 (some 45) rfl rfl (by kernel_rfl) (by kernel_rfl) (by kernel_rfl) (by kernel_rfl) (by kernel_rfl) (by kernel_rfl) (fun _ _ _ h => h) (.inl ⟨by rfl, fun w' _ => (by go_simp; rfl)⟩) hS ?_
              go_frame
              refine till_take 18 (some 46) rfl rfl (by kernel_rfl) (by kernel_rfl) (by kernel_rfl) (by kernel_rfl) (by kernel_rfl) (by kernel_rfl) (fun _ _ _ h => h) (.inl ⟨by rfl, fun w' hS' => (by have hc := CI.out w' hS'; go_simp; rfl)⟩) hS ?_
              go_frame
              refine till_take 19 (some 47) rfl rfl (by kernel_rfl) (by kernel_rfl) (by kernel_rfl) (by kernel_rfl) (by kernel_rfl) (by kernel_rfl) (fun _ _ _ h => h) (yields_conv (by rfl) 43 9 (.tmp 46) rfl (.slice uad m ucap) rfl _ VI.out) hS ?_
              go_frame
              refine till_take 20 (some 48) rfl rfl (by kernel_rfl) (by kernel_rfl) (by kernel_rfl) (by kernel_rfl) (by kernel_rfl) (by kernel_rfl) (fun _ _ _ h => h) (.inl ⟨by rfl, fun w' _ => (by have hj := HJ.out; go_simp; rfl)⟩) hS ?_
              go_frame
              refine till_one 21 rfl (by kernel_rfl) fun K hK => ?_
              simp only [List.getElem_toArray, List.getElem_cons_succ, List.getElem_cons_zero]
              rw [if_pos (by rfl)]
              go_simp
              refine hK _ _ (fun h => absurd rfl h) ?_
              clear hK heq
              refine till_done (by kernel_rfl) ?_ _
              have hj := HJ.out
              go_wp2_with fail
              go_ret
              exact ⟨true, rfl, ⟨fun _ => HTW.out, fun _ => rfl⟩, HB06.out.drew⟩
          · rw [decide_eq_false hh] at heq
            have HH := Lib.hid hh
            clear hh
            go_wp2_with fail
            refine wp_region_till (fun w' => Below w6.heap.size w6 w') 21 22 (by kernel_rfl) rfl ?_
            refine till_take 0 (some 28) rfl rfl (by kernel_rfl) (by kernel_rfl) (by kernel_rfl) (by kernel_rfl) (by kernel_rfl) (by kernel_rfl) (fun _ _ _ h => h) (yields_load (by rfl) 48 (.tmp 8) rfl (.pointer (some ⟨R8, 0, none⟩)) rfl _ L8.out) hS ?_
            go_frame
            refine till_take 1 (some 29) rfl rfl (by kernel_rfl) (by kernel_rfl) (by kernel_rfl) (by kernel_rfl) (by kernel_rfl) (by kernel_rfl) (fun _ _ _ h => h) (yields_load (by rfl) 48 (.tmp 6) rfl (.pointer (some ⟨R, 0, none⟩)) rfl _ L6.out) hS ?_
            go_frame
            refine till_take 2 (some 30) rfl rfl (by kernel_rfl) (by kernel_rfl) (by kernel_rfl) (by kernel_rfl) (by kernel_rfl) (by kernel_rfl) (fun _ _ _ h => h) (.inl ⟨by rfl, fun w' _ => (by go_simp; rfl)⟩) hS ?_
            go_frame
            refine till_take 3 (some 31) rfl rfl (by kernel_rfl) (by kernel_rfl) (by kernel_rfl) (by kernel_rfl) (by kernel_rfl) (by kernel_rfl) (fun _ _ _ h => h) (.inl ⟨by rfl, fun w' _ => (by go_simp; rfl)⟩) hS ?_
            go_frame
            refine till_take 4 (some 32) rfl rfl (by kernel_rfl) (by kernel_rfl) (by kernel_rfl) (by kernel_rfl) (by kernel_rfl) (by kernel_rfl) (fun _ _ _ h => h) (.inr ⟨by rfl, rfl⟩) hS ?_
            go_frame
            refine till_take 5 (some 33) rfl rfl (by kernel_rfl) (by kernel_rfl) (by kernel_rfl) (by kernel_rfl) (by kernel_rfl) (by kernel_rfl) (fun _ _ _ h => h) (.inr ⟨by rfl, rfl⟩) hS ?_
            go_frame
            refine till_take 6 (some 34) rfl rfl (by kernel_rfl) (by kernel_rfl) (by kernel_rfl) (by kernel_rfl) (by kernel_rfl) (by kernel_rfl) (fun _ _ _ h => h) (.inr ⟨by rfl, rfl⟩) hS ?_
            go_frame
            refine till_take 7 (some 35) rfl rfl (by kernel_rfl) (by kernel_rfl) (by kernel_rfl) (by kernel_rfl) (by kernel_rfl) (by kernel_rfl) (fun _ _ _ h => h) (.inr ⟨by rfl, rfl⟩) hS ?_
            go_frame
            refine till_take 8 (some 36) rfl rfl (by kernel_rfl) (by kernel_rfl) (by kernel_rfl) (by kernel_rfl) (by kernel_rfl) (by kernel_rfl) (fun _ _ _ h => h) (.inr ⟨by rfl, rfl⟩) hS ?_
            go_frame
            refine till_take 9 (some 37) rfl rfl (by kernel_rfl) (by kernel_rfl) (by kernel_rfl) (by kernel_rfl) (by kernel_rfl) (by kernel_rfl) (fun _ _ _ h => h) (.inr ⟨by rfl, rfl⟩) hS ?_
            go_frame
            refine till_take 10 (some 38) rfl rfl (by kernel_rfl) (by kernel_rfl) (by kernel_rfl) (by kernel_rfl) (by kernel_rfl) (by kernel_rfl) (fun _ _ _ h => h) (.inr ⟨by rfl, rfl⟩) hS ?_
            go_frame
            refine till_take 11 (some 39) rfl rfl (by kernel_rfl) (by kernel_rfl) (by kernel_rfl) (by kernel_rfl) (by kernel_rfl) (by kernel_rfl) (fun _ _ _ h => h) (.inr ⟨by rfl, rfl⟩) hS ?_
            go_frame
            refine till_take 12 (some 40) rfl rfl (by kernel_rfl) (by kernel_rfl) (by kernel_rfl) (by kernel_rfl) (by kernel_rfl) (by kernel_rfl) (fun _ _ _ h => h) (.inr ⟨by rfl, rfl⟩) hS ?_
            go_frame
            refine till_take 13 (some 41) rfl rfl (by kernel_rfl) (by kernel_rfl) (by kernel_rfl) (by kernel_rfl) (by kernel_rfl) (by kernel_rfl) (fun _ _ _ h => h) (.inr ⟨by rfl, rfl⟩) hS ?_
            go_frame
            refine till_take 14 (some 42) rfl rfl (by kernel_rfl) (by kernel_rfl) (by kernel_rfl) (by kernel_rfl) (by kernel_rfl) (by kernel_rfl) (fun _ _ _ h => h) (.inr ⟨by rfl, rfl⟩) hS ?_
            go_frame
            refine till_take 15 (some 43) rfl rfl (by kernel_rfl) (by kernel_rfl) (by kernel_rfl) (by kernel_rfl) (by kernel_rfl) (by kernel_rfl) (fun _ _ _ h => h) (.inr ⟨by rfl, rfl⟩) hS ?_
            go_frame
            refine till_take 16 (some 44) rfl rfl (by kernel_rfl) (by kernel_rfl) (by kernel_rfl) (by kernel_rfl) (by kernel_rfl) (by kernel_rfl) (fun _ _ _ h => h) (.inr ⟨by rfl, rfl⟩) hS ?_
            go_frame
            refine till_take 17 (some 45) rfl rfl (by kernel_rfl) (by kernel_rfl) (by kernel_rfl) (by kernel_rfl) (by kernel_rfl) (by kernel_rfl) (fun _ _ _ h => h) (.inr ⟨by rfl, rfl⟩) hS ?_
            go_frame
            refine till_take 18 (some 46) rfl rfl (by kernel_rfl) (by kernel_rfl) (by kernel_rfl) (by kernel_rfl) (by kernel_rfl) (by kernel_rfl) (fun _ _ _ h => h) (.inr ⟨by rfl, rfl⟩) hS ?_
            go_frame
            refine till_take 19 (some 47) rfl rfl (by kernel_rfl) (by kernel_rfl) (by kernel_rfl) (by kernel_rfl) (by kernel_rfl) (by kernel_rfl) (fun _ _ _ h => h) (.inr ⟨by rfl, rfl⟩) hS ?_
            go_frame
            refine till_take 20 (some 48) rfl rfl (by kernel_rfl) (by kernel_rfl) (by kernel_rfl) (by kernel_rfl) (by kernel_rfl) (by kernel_rfl) (fun _ _ _ h => h) (.inr ⟨by rfl, rfl⟩) hS ?_
            go_frame
            refine till_one 21 rfl (by kernel_rfl) fun K hK => ?_
            simp only [List.getElem_toArray, List.getElem_cons_succ, List.getElem_cons_zero]
            rw [if_pos (by rfl)]
            go_simp
            refine hK _ _ (fun h => absurd rfl h) ?_
            clear hK heq
            refine till_done (by kernel_rfl) ?_ _
            go_wp2_with fail
            go_roundw
            case rel => exact ⟨k + 1, by omega, by go_num, HB36.out.drew, Lib.hid fun m hm h => (by
              rcases Nat.lt_or_ge m k with h1 | h1
              · exact HK.out m h1 h
              · obtain rfl : m = k := by omega
                exact absurd (by rw [HS.out, HY.out, HZ.out, HX.out]; exact h) HH.out)⟩
            case measure => simp [intOf]; omega
        · obtain rfl : k = i := by omega
          have HB4 := Lib.hid hb4
          have hnot := no_twin_more (by have := HNN.out; omega) HNO.out HK.out
          have hown4 := HOWN3.out.later hb4
          have hr4 := (hb4.block R (heap_lt HR.out)).trans HR.out
          have hlr : ((texts.take k).map shaF).length = k := HSL.out
          have HNOT := Lib.hid hnot; have HOWN4 := Lib.hid hown4; have HR4 := Lib.hid hr4; have HB04 := Lib.hid (HB3.out.trans (hb4.mono HB3.out.size))
          clear hb4 hnot hown4 hr4 hlr
          go_wp2_with (first
            | (refine wpList_load_row rfl _ _ rfl R rfl _ (c8 y) _ _ HR4.out Try.underlying48 rfl (Try.sizeHs _ HY32.out) ?_)
            | (refine wpList_build1 rfl 87 _ rfl Try.underlying87 Try.infoHash rfl (by omega) (by omega) (.agg (c8 y)) (c8 y) rfl rfl (by rw [c8_size, HY32.out]) ?_)
            | (at_builtin; refine own_app rfl _ _ _ rfl Try.underlying87 Try.infoHash rfl (by omega) (B := w.heap.size) (base := w.heap.size) (w0 := w) (us := c8 y) y HOWN4.out rfl rfl (by rw [hE_32 _ HY32.out]; rfl) (hE_len _) (hE_one _) (by rw [HSL.out]; unfold maxLen; omega) (by rw [HSL.out]; omega) HB04.out (Nat.le_refl _) HB04.out.size (Nat.le_refl _) ?_))
          intro v' w7 hown7 hb7 hg7 _
          obtain ⟨oad', on', ocap', hox⟩ := hown7.slice
          subst hox
          have htk : (texts.take (k + 1)).map shaF = (texts.take k).map shaF ++ [y] := by
            rw [List.take_succ_eq_append_getElem (by have := HNN.out; omega), List.map_append, List.map_cons, List.map_nil, ← tAt_eq texts k (by have := HNN.out; omega), ← HX.out, HY.out]
          rw [← List.map_take, ← htk] at hown7
          have HLAY : Hid (TwL w texts (k + 1) (.slice oad' on' ocap') w7) := Lib.hid ⟨hb7, hown7, HNOT.out⟩
          clear hown7 hb7 hg7 htk
          go_wp2_with fail
          go_roundw
          case rel => exact ⟨k + 1, by omega, by go_num, HLAY.out⟩
          case measure => simp [intOf]; omega
    · obtain rfl : i = n := by omega
      rw [List.take_of_length_le (by rw [← HNN.out]; exact Nat.le_refl _)] at hno
      have HB := Lib.hid hb; have HNO := Lib.hid hno
      obtain ⟨sad, on, scap, hs⟩ := hown.slice
      subst hs
      clear hb hno hown
      go_wp2_with fail
      go_ret
      exact ⟨false, rfl, ⟨fun h => (by cases h), fun h => absurd h HNO.out⟩, HB.out⟩
end Go.Proofs.Ytbfdjjaonjepnaa
