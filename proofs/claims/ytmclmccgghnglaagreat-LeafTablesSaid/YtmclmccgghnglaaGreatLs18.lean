/- A slice of slices of bytes, from the frame's reading. No condition. tallagelaw06.MerkleTrees: its walk. tallageref06.Tree.Twins. Of MerkU. No condition. tallagelaw06.MerkleApart: its walk. tallagelaw06.MerkleRows: its walk. Proofs of places, plainly; tallagelaw07.light; proof.Build. -/
import Derived.Test.YtmclmccgghnglaaGreatLsOpen
import Derived.Test.YtmclmccgghnglaaGreatLs11
import Derived.Test.YtmclmccgghnglaaGreatLs16
import Derived.WalkMore
import Derived.Laws.BitsLemmas
namespace Go.Proofs.YtmclmccgghnglaaGreat
section
open Go.RowKit

section
variable {H : Type} {enc : TypeId × Value → H} {P : Program} {w : World} {base : Nat} {spare : Nat → Bool} {held : Bool}
end
end
section
open Go.RowKit

theorem Grew.far {w w' : World} {g : Nat} {a a' : Option Nat} {B : Nat} (h : Grew w g a w' a') (hB : B ≤ w.heap.size) (ha : ∀ k, a = some k → B ≤ k) : ∀ k, a' = some k → B ≤ k := by
  intro k hk
  rcases h.2 with h2 | ⟨x, h2, h3⟩
  · exact ha k (h2 ▸ hk)
  · rw [h2] at hk; cases hk; omega
def rowsV (k : Int) (l : List (List UInt8)) : List (List (List UInt8)) := if whyF k l.length = 0 then levelsF k.toNat l else []
theorem RowsOwn.nil (w : World) (B : Nat) : RowsOwn w B (.slice none 0 0) [] := ⟨[], Own.nil _ _ _ _ _, rfl, fun i u r p _ => by simp at p⟩
end
section
open Go.RowKit

theorem Tr.texts {w : World} {g : Nat} {a : Option Nat} {texts : List (List UInt8)} (h : Tr w g a texts) : ∃ v, w.heap[g]? = some (.cells #[v] 28 (0, 0)) ∧ Texts w v texts := by
  obtain ⟨v, vs, h1, h2, _, h4, h5⟩ := h
  exact ⟨v, h1, vs, h2.rd slE_len, h4, fun i u l p q => (h5 i u l p q).1⟩
/-- Text number i. -/
def tAt (l : List (List UInt8)) (i : Nat) : List UInt8 := l.getD i []
/-- What holds at the head of the loop over the texts. -/
def TwL (w : World) (l : List (List UInt8)) (i : Nat) (x : Value) (wr : World) : Prop := Below w.heap.size w wr ∧ Own wr w.heap.size 36 hE 32 x ((l.take i).map shaF) ∧ ¬ Twin (l.take i)
end
section
open Go.RowKit

theorem tAt_eqZ (l : List (List UInt8)) (i : Nat) (h : i < l.length) : tAt l i = l[i] := by
  unfold tAt
  rw [List.getD_eq_getElem?_getD, List.getElem?_eq_getElem h]; rfl
theorem tAt_memZ (l : List (List UInt8)) (i : Nat) (h : i < l.length) : tAt l i ∈ l := by
  rw [tAt_eqZ l i h]; exact List.getElem_mem _
theorem no_twin_nilZ : ¬ Twin [] := by rintro ⟨x, hx, _⟩; simp at hx
theorem no_twin_moreZ {l : List (List UInt8)} {i : Nat} (hi : i < l.length) (h : ¬ Twin (l.take i)) (hk : ∀ m, m < i → shaF (tAt l m) = shaF (tAt l i) → tAt l m = tAt l i) : ¬ Twin (l.take (i + 1)) := by
  rintro ⟨x, hx, y, hy, hne, he⟩
  rw [List.take_succ_eq_append_getElem hi, List.mem_append, List.mem_singleton] at hx hy
  have key : ∀ x ∈ l.take i, shaF x = shaF l[i] → x = l[i] := by
    intro x hx h
    obtain ⟨m, hm, rfl⟩ := List.getElem_of_mem hx
    have hm' : m < i := by rw [List.length_take] at hm; omega
    rw [List.getElem_take] at h ⊢
    have h2 := hk m hm'
    rw [tAt_eqZ l m (by omega), tAt_eqZ l i hi] at h2
    exact h2 h
  rcases hx with hx | hx <;> rcases hy with hy | hy
  · exact h ⟨x, hx, y, hy, hne, he⟩
  · subst hy; exact hne (key x hx he)
  · subst hx; exact hne (key y hy he.symm).symm
  · exact hne (hx.trans hy.symm)
theorem sums_atZ (l : List (List UInt8)) (i m : Nat) (hi : i ≤ l.length) (hm : m < i) : hAt ((l.take i).map shaF) m = shaF (tAt l m) := by
  rw [hAt_eq _ m (by rw [List.length_map, List.length_take]; omega), List.getElem_map, List.getElem_take, tAt_eqZ l m (by omega)]
theorem sums_32Z (l : List (List UInt8)) (i : Nat) : All32 ((l.take i).map shaF) := by
  intro x hx
  obtain ⟨y, _, rfl⟩ := List.mem_map.1 hx
  exact shaF_length _
theorem yields_convZ {P : Program} {ops : Array Oper} {S : World → Prop} {a : Act} {o : Oper} (hw : Region.wanted o (yielded ops a.tmps) = true) (src dst : TypeId) (x : Operand) (ho : o.op = .convert src dst x) (pv : Value) (hx : a.eval x = pv) (v : Value)
    (hl : ∀ w, S w → (convert src dst pv).run P w = .ok v w) : YieldsIf P ops S o v a := by
  refine .inl ⟨hw, fun w hS => ?_⟩
  unfold execOp
  simp only [ho, hx, Sem.run_bind, Sem.run_pure, hl w hS, Result.andThen_ok]
set_option maxRecDepth 100000 in
set_option maxHeartbeats 4000000 in
theorem twins_anyZ (w : World) (g : Nat) (a : Option Nat) (texts : List (List UInt8)) (ht : Tr w g a texts) (hn : texts.length < 900000000) (hl : ∀ t ∈ texts, t.length < 1099511627776) :
    Calls Tryz.prog 27 #[.pointer (some ⟨g, 0, none⟩)] w fun e w' => ∃ b, e = .returned (.bool b) ∧ (b = true ↔ Twin texts) ∧ Below w.heap.size w w' := by
  obtain ⟨v, hg, hT⟩ := ht.texts
  obtain ⟨ad, cap, rfl, hc1, hc2⟩ := hT.shape
  obtain ⟨n, hnn⟩ : ∃ n, n = texts.length := ⟨_, rfl⟩
  rw [← hnn] at hn hc1 hg hT
  have hglt := heap_lt hg
  have q : w.cell? ⟨g, 0, none⟩ = some (.slice ad n cap) := by
    have := Lib.cell_of_heap hg 0
    simpa only [List.getElem?_toArray, List.getElem?_cons_zero] using this
  have HG := Lib.hid q; have HT := Lib.hid hT; have HNN := Lib.hid hnn; have HL := Lib.hid hl
  clear hg hT hnn hl ht
  go_enter Tryz.func27, Tryz.ntmps27
  go_wp2_with fail
  clear q
  go_loopw [3, 14] (fun x y wr => ∃ i : Nat, i ≤ n ∧ y = .int .i64 i ∧ TwL w texts i x wr) (fun _ y _ => n - (intOf y).toNat)
  case atStart => exact ⟨0, Nat.zero_le _, rfl, Below.refl _ _, Own.nil _ _ _ _ _, no_twin_nilZ⟩
  case round =>
    obtain ⟨i, hi, rfl, hlay⟩ := hrel
    obtain ⟨hb, hown, hno⟩ := hlay
    by_cases hlt : i < n
    · obtain ⟨lb, off, u, rfl, hlb, hcell, hru⟩ := HT.out.at i (by have := HNN.out; omega)
      rw [← tAt_eqZ texts i (by have := HNN.out; omega)] at hru
      have hz : (tAt texts i).length < 1099511627776 := HL.out _ (tAt_memZ _ _ (by have := HNN.out; omega))
      obtain ⟨x, hx⟩ : ∃ x, x = tAt texts i := ⟨_, rfl⟩
      rw [← hx] at hru hz
      obtain ⟨uad, ucap, hu, _⟩ := hru.shape
      subst hu
      obtain ⟨m, hm⟩ : ∃ m, m = x.length := ⟨_, rfl⟩
      rw [← hm] at hcell hru
      have hcw := (hb.cell (p := ⟨lb, off + i, none⟩) hlb).trans hcell
      have hsl : ((texts.take i).map shaF).length = i := by rw [List.length_map, List.length_take]; have := HNN.out; omega
      obtain ⟨sad, scap, hs, _⟩ := (hown.rd hE_len).shape
      rw [hsl] at hs
      subst hs
      have HB := Lib.hid hb; have HOWN := Lib.hid hown; have HNO := Lib.hid hno; have HX := Lib.hid hx; have HRU := Lib.hid hru; have HCI := Lib.hid hcell; have HSL := Lib.hid hsl; have HM := Lib.hid hm
      clear hb hown hno hx hru hcell hsl hm
      go_wp2_with fail
      refine (refSum_any _ x _ (HRU.out.later HB.out) hz).mono ?_
      rintro e w1 ⟨rfl, hb1⟩
      obtain ⟨y, hy⟩ : ∃ y, y = shaF x := ⟨_, rfl⟩
      have hy32 : y.length = 32 := by rw [hy]; exact shaF_length _
      rw [← hy]
      have HY := Lib.hid hy; have HY32 := Lib.hid hy32
      have HB1 := Lib.hid (HB.out.trans (hb1.mono HB.out.size)); have HOWN1 := Lib.hid (HOWN.out.later hb1)
      clear hy hy32 hb1 HB HOWN hcw
      go_wp2_with (refine wpList_alloc_g rfl _ rfl _ _ Tryz.zeroHash rfl ?_)
      intro R w2 h2
      go_wp2_with (refine wpList_store_row_g (t := 36) (old := cB 32 []) rfl 36 _ _ rfl R (c8 y) rfl rfl h2.out.cells (Tryz.sizeHs _ HY32.out) (by rw [c8_size, HY32.out]; rfl) (by rw [← cB_full 32 _ HY32.out]; exact one_b _ _) ?_)
      intro w3 h3 k3 z3
      have hb13 : Below w1.heap.size w1 w3 := h2.out.below.trans (k3.below (B := w1.heap.size) (fun q hq e => by have := h2.out.eq; omega) h2.out.below.size)
      have HB3 := Lib.hid (HB1.out.trans (hb13.mono HB1.out.size)); have HOWN3 := Lib.hid (HOWN1.out.later hb13); have HR := Lib.hid h3
      clear hb13 h3 k3 z3 h2 HOWN1 HB1
      go_wp2_with fail
      go_loopw [23] (fun x wr => ∃ k : Nat, k ≤ i ∧ x = .int .i64 k ∧ Below w3.heap.size w3 wr ∧ Hid (∀ m, m < k → shaF (tAt texts m) = shaF (tAt texts i) → tAt texts m = tAt texts i)) (fun x _ => i - (intOf x).toNat)
      case atStart => exact ⟨0, Nat.zero_le _, rfl, Below.refl _ _, Lib.hid fun m hm => absurd hm (Nat.not_lt_zero _)⟩
      case round =>
        obtain ⟨k, hk, rfl, hb4, HK⟩ := hrel
        by_cases hki : k < i
        · have hrd := (HOWN3.out.rd hE_len).later hb4
          obtain ⟨rb, ro, hrp, hrb, hrange⟩ := hrd.hash (sums_32Z _ _) k (by rw [HSL.out]; exact hki)
          subst hrp
          rw [← hAt_eq _ k (by rw [HSL.out]; exact hki), sums_atZ texts i k (by have := HNN.out; omega) hki] at hrange
          obtain ⟨z, hz2⟩ : ∃ z, z = tAt texts k := ⟨_, rfl⟩
          obtain ⟨s, hs⟩ : ∃ s, s = shaF z := ⟨_, rfl⟩
          rw [← hz2, ← hs] at hrange
          have hs32 : s.length = 32 := by rw [hs]; exact shaF_length _
          have HB4 := Lib.hid hb4; have HRG := Lib.hid hrange; have HZ := Lib.hid hz2; have HS := Lib.hid hs; have HS32 := Lib.hid hs32
          clear hb4 hrange hz2 hs hs32 hrd
          go_wp2_with (first
            | (refine wpList_load_mid rfl _ _ rfl rb (ro + k * 32) rfl (s.map byteV) _ HRG.out Tryz.underlying36 rfl (Tryz.sizeHm _ HS32.out) ?_)
            | (refine wpList_alloc_g rfl _ rfl _ _ Tryz.zeroHash rfl ?_))
          intro R8 w5 h5
          go_wp2_with (refine wpList_store_row_g (t := 36) (old := cB 32 []) rfl 36 _ _ rfl R8 (c8 s) rfl rfl h5.out.cells (Tryz.sizeHs _ HS32.out) (by rw [c8_size, HS32.out]; rfl) (by rw [← cB_full 32 _ HS32.out]; exact one_b _ _) ?_)
          intro w6 h6 k6 z6
          have hb56 : Below wr.heap.size wr w6 := h5.out.below.trans (k6.below (B := wr.heap.size) (fun q hq e => by have := h5.out.eq; omega) h5.out.below.size)
          have hb36 := HB4.out.trans (hb56.mono HB4.out.size)
          have hr8 : w6.heap[R8]? = _ := h6
          have hr6 : w6.heap[R]? = _ := (hb36.block R (heap_lt HR.out)).trans HR.out
          have hb06 := HB3.out.trans (hb36.mono HB3.out.size)
          have hcg := (hb06.cell (p := ⟨g, 0, none⟩) hglt).trans HG.out
          have hci := (hb06.cell (p := ⟨lb, off + i, none⟩) hlb).trans HCI.out
          obtain ⟨lb2, off2, u2, hlb2, _, hck, hru2⟩ := HT.out.at k (by have := HNN.out; omega)
          cases hlb2
          rw [← tAt_eqZ texts k (by have := HNN.out; omega), ← HZ.out] at hru2
          obtain ⟨uad2, ucap2, hu2, _⟩ := hru2.shape
          subst hu2
          obtain ⟨m2, hm2⟩ : ∃ m2, m2 = z.length := ⟨_, rfl⟩
          rw [← hm2] at hck hru2
          replace hck := (hb06.cell (p := ⟨lb, off + k, none⟩) hlb).trans hck
          have L8 : Hid (∀ w', Below w6.heap.size w6 w' → (Instr.loadAt 36 (.pointer (some ⟨R8, 0, none⟩))).run Tryz.prog w' = .ok (.agg (c8 s)) w') := Lib.hid fun w' e => by exact load_hash ((e.block R8 (heap_lt hr8)).trans hr8) HS32.out
          have L6 : Hid (∀ w', Below w6.heap.size w6 w' → (Instr.loadAt 36 (.pointer (some ⟨R, 0, none⟩))).run Tryz.prog w' = .ok (.agg (c8 y)) w') := Lib.hid fun w' e => by exact load_hash ((e.block R (heap_lt hr6)).trans hr6) HY32.out
          have CG : Hid (∀ w', Below w6.heap.size w6 w' → w'.cell? ⟨g, 0, none⟩ = some (.slice (some ⟨lb, off, none⟩) n cap)) := Lib.hid fun w' e => (e.cell (p := ⟨g, 0, none⟩) (Nat.lt_of_lt_of_le hglt hb06.size)).trans hcg
          have CI : Hid (∀ w', Below w6.heap.size w6 w' → w'.cell? ⟨lb, off + i, none⟩ = some (.slice uad m ucap)) := Lib.hid fun w' e => (e.cell (p := ⟨lb, off + i, none⟩) (Nat.lt_of_lt_of_le hlb hb06.size)).trans hci
          have CK : Hid (∀ w', Below w6.heap.size w6 w' → w'.cell? ⟨lb, off + k, none⟩ = some (.slice uad2 m2 ucap2)) := Lib.hid fun w' e => (e.cell (p := ⟨lb, off + k, none⟩) (Nat.lt_of_lt_of_le hlb hb06.size)).trans hck
          have VI : Hid (∀ w', Below w6.heap.size w6 w' → (convert 100 9 (.slice uad m ucap)).run Tryz.prog w' = .ok (.string (bs x)) w') := Lib.hid fun w' e => by exact rd_conv Tryz.underlying100 Tryz.underlying5 Tryz.underlying9 ((HRU.out.later hb06).later e)
          have VK : Hid (∀ w', Below w6.heap.size w6 w' → (convert 100 9 (.slice uad2 m2 ucap2)).run Tryz.prog w' = .ok (.string (bs z)) w') := Lib.hid fun w' e => by exact rd_conv Tryz.underlying100 Tryz.underlying5 Tryz.underlying9 ((hru2.later hb06).later e)
          have hkn : k < n := by omega
          have HB36 := Lib.hid hb36; have HB06 := Lib.hid hb06
          clear hb56 hb36 hr8 hr6 hb06 hcg hci hck hru2 hm2 h6 k6 z6 h5
          have hS : Below w6.heap.size w6 w6.drew := (Below.refl _ _).drew
          have heq := Tryz.eqH s y HS32.out HY32.out
          by_cases hh : s = y
          · rw [decide_eq_true hh] at heq
            by_cases hxz : z = x
            · have hj : ((bs z).toList == (bs x).toList) = true := by rw [hxz]; simp
              have HXZ := Lib.hid hxz; have HJ := Lib.hid hj
              clear hxz hj hh
              go_wp2_with fail
              refine wp_region_till (fun w' => Below w6.heap.size w6 w') 21 22 (by kernel_rfl) rfl ?_
              refine till_take 0 (some 28) rfl rfl (by kernel_rfl) (by kernel_rfl) (by kernel_rfl) (by kernel_rfl) (by kernel_rfl) (by kernel_rfl) (fun _ _ _ h => h) (yields_load (by rfl) 36 (.tmp 8) rfl (.pointer (some ⟨R8, 0, none⟩)) rfl _ L8.out) hS ?_
              go_frame
              refine till_take 1 (some 29) rfl rfl (by kernel_rfl) (by kernel_rfl) (by kernel_rfl) (by kernel_rfl) (by kernel_rfl) (by kernel_rfl) (fun _ _ _ h => h) (yields_load (by rfl) 36 (.tmp 6) rfl (.pointer (some ⟨R, 0, none⟩)) rfl _ L6.out) hS ?_
              go_frame
              refine till_take 2 (some 30) rfl rfl (by kernel_rfl) (by kernel_rfl) (by kernel_rfl) (by kernel_rfl) (by kernel_rfl) (by kernel_rfl) (fun _ _ _ h => h) (.inl ⟨by rfl, fun w' _ => (by go_simp; rfl)⟩) hS ?_
              go_frame
              refine till_take 3 (some 31) rfl rfl (by kernel_rfl) (by kernel_rfl) (by kernel_rfl) (by kernel_rfl) (by kernel_rfl) (by kernel_rfl) (fun _ _ _ h => h) (.inl ⟨by rfl, fun w' _ => (by go_simp; rfl)⟩) hS ?_
              go_frame
              refine till_take 4 (some 32) rfl rfl (by kernel_rfl) (by kernel_rfl) (by kernel_rfl) (by kernel_rfl) (by kernel_rfl) (by kernel_rfl) (fun _ _ _ h => h) (.inl ⟨by rfl, fun w' _ => (by go_simp; rfl)⟩) hS ?_
              go_frame
              refine till_take 5 (some 33) rfl rfl (by kernel_rfl) (by kernel_rfl) (by kernel_rfl) (by kernel_rfl) (by kernel_rfl) (by kernel_rfl) (fun _ _ _ h => h) (.inl ⟨by rfl, fun w' _ => (by go_simp; rfl)⟩) hS ?_
              go_frame
              refine till_take 6 (some 34) rfl rfl (by kernel_rfl) (by kernel_rfl) (by kernel_rfl) (by kernel_rfl) (by kernel_rfl) (by kernel_rfl) (fun _ _ _ h => h) (.inl ⟨by rfl, fun w' _ => (by go_simp; rfl)⟩) hS ?_
              go_frame
              refine till_take 7 (some 35) rfl rfl (by kernel_rfl) (by kernel_rfl) (by kernel_rfl) (by kernel_rfl) (by kernel_rfl) (by kernel_rfl) (fun _ _ _ h => h) (.inl ⟨by rfl, fun w' hS' => (by have hc := CG.out w' hS'; go_simp; rfl)⟩) hS ?_
              go_frame
              refine till_take 8 (some 36) rfl rfl (by kernel_rfl) (by kernel_rfl) (by kernel_rfl) (by kernel_rfl) (by kernel_rfl) (by kernel_rfl) (fun _ _ _ h => h) (.inl ⟨by rfl, fun w' _ => (by go_simp; rfl)⟩) hS ?_
              go_frame
              refine till_take 9 (some 37) rfl rfl (by kernel_rfl) (by kernel_rfl) (by kernel_rfl) (by kernel_rfl) (by kernel_rfl) (by kernel_rfl) (fun _ _ _ h => h) (.inl ⟨by rfl, fun w' _ => (by go_simp; rfl)⟩) hS ?_
              go_frame
              refine till_take 10 (some 38) rfl rfl (by kernel_rfl) (by kernel_rfl) (by kernel_rfl) (by kernel_rfl) (by kernel_rfl) (by kernel_rfl) (fun _ _ _ h => h) (.inl ⟨by rfl, fun w' hS' => (by have hc := CK.out w' hS'; go_simp; rfl)⟩) hS ?_
              go_frame
              refine till_take 11 (some 39) rfl rfl (by kernel_rfl) (by kernel_rfl) (by kernel_rfl) (by kernel_rfl) (by kernel_rfl) (by kernel_rfl) (fun _ _ _ h => h) (yields_convZ (by rfl) 100 9 (.tmp 38) rfl (.slice uad2 m2 ucap2) rfl _ VK.out) hS ?_
              go_frame
              refine till_take 12 (some 40) rfl rfl (by kernel_rfl) (by kernel_rfl) (by kernel_rfl) (by kernel_rfl) (by kernel_rfl) (by kernel_rfl) (fun _ _ _ h => h) (.inl ⟨by rfl, fun w' _ => (by go_simp; rfl)⟩) hS ?_
              go_frame
              refine till_take 13 (some 41) rfl rfl (by kernel_rfl) (by kernel_rfl) (by kernel_rfl) (by kernel_rfl) (by kernel_rfl) (by kernel_rfl) (fun _ _ _ h => h) (.inl ⟨by rfl, fun w' _ => (by go_simp; rfl)⟩) hS ?_
              go_frame
              refine till_take 14 (some 42) rfl rfl (by kernel_rfl) (by kernel_rfl) (by kernel_rfl) (by kernel_rfl) (by kernel_rfl) (by kernel_rfl) (fun _ _ _ h => h) (.inl ⟨by rfl, fun w' _ => (by go_simp; rfl)⟩) hS ?_
              go_frame
              refine till_take 15 (some 43) rfl rfl (by kernel_rfl) (by kernel_rfl) (by kernel_rfl) (by kernel_rfl) (by kernel_rfl) (by kernel_rfl) (fun _ _ _ h => h) (.inl ⟨by rfl, fun w' hS' => (by have hc := CG.out w' hS'; go_simp; rfl)⟩) hS ?_
              go_frame
              refine till_take 16 (some 44) rfl rfl (by kernel_rfl) (by kernel_rfl) (by kernel_rfl) (by kernel_rfl) (by kernel_rfl) (by kernel_rfl) (fun _ _ _ h => h) (.inl ⟨by rfl, fun w' _ => (by go_simp; rfl)⟩) hS ?_
              go_frame
              refine till_take 17 (some 45) rfl rfl (by kernel_rfl) (by kernel_rfl) (by kernel_rfl) (by kernel_rfl) (by kernel_rfl) (by kernel_rfl) (fun _ _ _ h => h) (.inl ⟨by rfl, fun w' _ => (by go_simp; rfl)⟩) hS ?_
              go_frame
              refine till_take 18 (some 46) rfl rfl (by kernel_rfl) (by kernel_rfl) (by kernel_rfl) (by kernel_rfl) (by kernel_rfl) (by kernel_rfl) (fun _ _ _ h => h) (.inl ⟨by rfl, fun w' hS' => (by have hc := CI.out w' hS'; go_simp; rfl)⟩) hS ?_
              go_frame
              refine till_take 19 (some 47) rfl rfl (by kernel_rfl) (by kernel_rfl) (by kernel_rfl) (by kernel_rfl) (by kernel_rfl) (by kernel_rfl) (fun _ _ _ h => h) (yields_convZ (by rfl) 100 9 (.tmp 46) rfl (.slice uad m ucap) rfl _ VI.out) hS ?_
              go_frame
              refine till_take 20 (some 48) rfl rfl (by kernel_rfl) (by kernel_rfl) (by kernel_rfl) (by kernel_rfl) (by kernel_rfl) (by kernel_rfl) (fun _ _ _ h => h) (.inl ⟨by rfl, fun w' _ => (by have hj := HJ.out; go_simp; rfl)⟩) hS ?_
              go_frame
              refine till_one 21 rfl (by kernel_rfl) fun K hK => ?_
              simp only [List.getElem_toArray, List.getElem_cons_succ, List.getElem_cons_zero]
              rw [if_pos (by rfl)]
              go_simp
              refine hK _ _ (fun h => absurd rfl h) ?_
              clear hK heq
              refine till_done (by kernel_rfl) ?_ _
              have hj := HJ.out
              go_wp2_with fail
              go_roundw
              case rel => exact ⟨k + 1, by omega, by go_num, HB36.out.drew, Lib.hid fun m hm h => (by
                rcases Nat.lt_or_ge m k with h1 | h1
                · exact HK.out m h1 h
                · obtain rfl : m = k := by omega
                  rw [← HZ.out, ← HX.out]; exact HXZ.out)⟩
              case measure => simp [intOf]; omega
            · have hj : ((bs z).toList == (bs x).toList) = false := by
                rw [beq_eq_false_iff_ne]
                intro e
                rw [Lib.toList_data, Lib.toList_data] at e
                exact hxz e
              have HTW : Hid (Twin texts) := Lib.hid ⟨z, HZ.out ▸ tAt_memZ _ _ (by have := HNN.out; omega), x, HX.out ▸ tAt_memZ _ _ (by have := HNN.out; omega), hxz, by rw [← HS.out, ← HY.out]; exact hh⟩
              have HJ := Lib.hid hj
              clear hxz hj hh
              go_wp2_with fail
              refine wp_region_till (fun w' => Below w6.heap.size w6 w') 21 22 (by kernel_rfl) rfl ?_
              refine till_take 0 (some 28) rfl rfl (by kernel_rfl) (by kernel_rfl) (by kernel_rfl) (by kernel_rfl) (by kernel_rfl) (by kernel_rfl) (fun _ _ _ h => h) (yields_load (by rfl) 36 (.tmp 8) rfl (.pointer (some ⟨R8, 0, none⟩)) rfl _ L8.out) hS ?_
              go_frame
              refine till_take 1 (some 29) rfl rfl (by kernel_rfl) (by kernel_rfl) (by kernel_rfl) (by kernel_rfl) (by kernel_rfl) (by kernel_rfl) (fun _ _ _ h => h) (yields_load (by rfl) 36 (.tmp 6) rfl (.pointer (some ⟨R, 0, none⟩)) rfl _ L6.out) hS ?_
              go_frame
              refine till_take 2 (some 30) rfl rfl (by kernel_rfl) (by kernel_rfl) (by kernel_rfl) (by kernel_rfl) (by kernel_rfl) (by kernel_rfl) (fun _ _ _ h => h) (.inl ⟨by rfl, fun w' _ => (by go_simp; rfl)⟩) hS ?_
              go_frame
              refine till_take 3 (some 31) rfl rfl (by kernel_rfl) (by kernel_rfl) (by kernel_rfl) (by kernel_rfl) (by kernel_rfl) (by kernel_rfl) (fun _ _ _ h => h) (.inl ⟨by rfl, fun w' _ => (by go_simp; rfl)⟩) hS ?_
              go_frame
              refine till_take 4 (some 32) rfl rfl (by kernel_rfl) (by kernel_rfl) (by kernel_rfl) (by kernel_rfl) (by kernel_rfl) (by kernel_rfl) (fun _ _ _ h => h) (.inl ⟨by rfl, fun w' _ => (by go_simp; rfl)⟩) hS ?_
              go_frame
              refine till_take 5 (some 33) rfl rfl (by kernel_rfl) (by kernel_rfl) (by kernel_rfl) (by kernel_rfl) (by kernel_rfl) (by kernel_rfl) (fun _ _ _ h => h) (.inl ⟨by rfl, fun w' _ => (by go_simp; rfl)⟩) hS ?_
              go_frame
              refine till_take 6 (some 34) rfl rfl (by kernel_rfl) (by kernel_rfl) (by kernel_rfl) (by kernel_rfl) (by kernel_rfl) (by kernel_rfl) (fun _ _ _ h => h) (.inl ⟨by rfl, fun w' _ => (by go_simp; rfl)⟩) hS ?_
              go_frame
              refine till_take 7 (some 35) rfl rfl (by kernel_rfl) (by kernel_rfl) (by kernel_rfl) (by kernel_rfl) (by kernel_rfl) (by kernel_rfl) (fun _ _ _ h => h) (.inl ⟨by rfl, fun w' hS' => (by have hc := CG.out w' hS'; go_simp; rfl)⟩) hS ?_
              go_frame
              refine till_take 8 (some 36) rfl rfl (by kernel_rfl) (by kernel_rfl) (by kernel_rfl) (by kernel_rfl) (by kernel_rfl) (by kernel_rfl) (fun _ _ _ h => h) (.inl ⟨by rfl, fun w' _ => (by go_simp; rfl)⟩) hS ?_
              go_frame
              refine till_take 9 (some 37) rfl rfl (by kernel_rfl) (by kernel_rfl) (by kernel_rfl) (by kernel_rfl) (by kernel_rfl) (by kernel_rfl) (fun _ _ _ h => h) (.inl ⟨by rfl, fun w' _ => (by go_simp; rfl)⟩) hS ?_
              go_frame
              refine till_take 10 (some 38) rfl rfl (by kernel_rfl) (by kernel_rfl) (by kernel_rfl) (by kernel_rfl) (by kernel_rfl) (by kernel_rfl) (fun _ _ _ h => h) (.inl ⟨by rfl, fun w' hS' => (by have hc := CK.out w' hS'; go_simp; rfl)⟩) hS ?_
              go_frame
              refine till_take 11 (some 39) rfl rfl (by kernel_rfl) (by kernel_rfl) (by kernel_rfl) (by kernel_rfl) (by kernel_rfl) (by kernel_rfl) (fun _ _ _ h => h) (yields_convZ (by rfl) 100 9 (.tmp 38) rfl (.slice uad2 m2 ucap2) rfl _ VK.out) hS ?_
              go_frame
              refine till_take 12 (some 40) rfl rfl (by kernel_rfl) (by kernel_rfl) (by kernel_rfl) (by kernel_rfl) (by kernel_rfl) (by kernel_rfl) (fun _ _ _ h => h) (.inl ⟨by rfl, fun w' _ => (by go_simp; rfl)⟩) hS ?_
              go_frame
              refine till_take 13 (some 41) rfl rfl (by kernel_rfl) (by kernel_rfl) (by kernel_rfl) (by kernel_rfl) (by kernel_rfl) (by kernel_rfl) (fun _ _ _ h => h) (.inl ⟨by rfl, fun w' _ => (by go_simp; rfl)⟩) hS ?_
              go_frame
              refine till_take 14 (some 42) rfl rfl (by kernel_rfl) (by kernel_rfl) (by kernel_rfl) (by kernel_rfl) (by kernel_rfl) (by kernel_rfl) (fun _ _ _ h => h) (.inl ⟨by rfl, fun w' _ => (by go_simp; rfl)⟩) hS ?_
              go_frame
              refine till_take 15 (some 43) rfl rfl (by kernel_rfl) (by kernel_rfl) (by kernel_rfl) (by kernel_rfl) (by kernel_rfl) (by kernel_rfl) (fun _ _ _ h => h) (.inl ⟨by rfl, fun w' hS' => (by have hc := CG.out w' hS'; go_simp; rfl)⟩) hS ?_
              go_frame
              refine till_take 16 (some 44) rfl rfl (by kernel_rfl) (by kernel_rfl) (by kernel_rfl) (by kernel_rfl) (by kernel_rfl) (by kernel_rfl) (fun _ _ _ h => h) (.inl ⟨by rfl, fun w' _ => (by go_simp; rfl)⟩) hS ?_
              go_frame
              refine till_take 17 (some 45) rfl rfl (by kernel_rfl) (by kernel_rfl) (by kernel_rfl) (by kernel_rfl) (by kernel_rfl) (by kernel_rfl) (fun _ _ _ h => h) (.inl ⟨by rfl, fun w' _ => (by go_simp; rfl)⟩) hS ?_
              go_frame
              refine till_take 18 (some 46) rfl rfl (by kernel_rfl) (by kernel_rfl) (by kernel_rfl) (by kernel_rfl) (by kernel_rfl) (by kernel_rfl) (fun _ _ _ h => h) (.inl ⟨by rfl, fun w' hS' => (by have hc := CI.out w' hS'; go_simp; rfl)⟩) hS ?_
              go_frame
              refine till_take 19 (some 47) rfl rfl (by kernel_rfl) (by kernel_rfl) (by kernel_rfl) (by kernel_rfl) (by kernel_rfl) (by kernel_rfl) (fun _ _ _ h => h) (yields_convZ (by rfl) 100 9 (.tmp 46) rfl (.slice uad m ucap) rfl _ VI.out) hS ?_
              go_frame
              refine till_take 20 (some 48) rfl rfl (by kernel_rfl) (by kernel_rfl) (by kernel_rfl) (by kernel_rfl) (by kernel_rfl) (by kernel_rfl) (fun _ _ _ h => h) (.inl ⟨by rfl, fun w' _ => (by have hj := HJ.out; go_simp; rfl)⟩) hS ?_
              go_frame
              refine till_one 21 rfl (by kernel_rfl) fun K hK => ?_
              simp only [List.getElem_toArray, List.getElem_cons_succ, List.getElem_cons_zero]
              rw [if_pos (by rfl)]
              go_simp
              refine hK _ _ (fun h => absurd rfl h) ?_
              clear hK heq
              refine till_done (by kernel_rfl) ?_ _
              have hj := HJ.out
              go_wp2_with fail
              go_ret
              exact ⟨true, rfl, ⟨fun _ => HTW.out, fun _ => rfl⟩, HB06.out.drew⟩
          · rw [decide_eq_false hh] at heq
            have HH := Lib.hid hh
            clear hh
            go_wp2_with fail
            refine wp_region_till (fun w' => Below w6.heap.size w6 w') 21 22 (by kernel_rfl) rfl ?_
            refine till_take 0 (some 28) rfl rfl (by kernel_rfl) (by kernel_rfl) (by kernel_rfl) (by kernel_rfl) (by kernel_rfl) (by kernel_rfl) (fun _ _ _ h => h) (yields_load (by rfl) 36 (.tmp 8) rfl (.pointer (some ⟨R8, 0, none⟩)) rfl _ L8.out) hS ?_
            go_frame
            refine till_take 1 (some 29) rfl rfl (by kernel_rfl) (by kernel_rfl) (by kernel_rfl) (by kernel_rfl) (by kernel_rfl) (by kernel_rfl) (fun _ _ _ h => h) (yields_load (by rfl) 36 (.tmp 6) rfl (.pointer (some ⟨R, 0, none⟩)) rfl _ L6.out) hS ?_
            go_frame
            refine till_take 2 (some 30) rfl rfl (by kernel_rfl) (by kernel_rfl) (by kernel_rfl) (by kernel_rfl) (by kernel_rfl) (by kernel_rfl) (fun _ _ _ h => h) (.inl ⟨by rfl, fun w' _ => (by go_simp; rfl)⟩) hS ?_
            go_frame
            refine till_take 3 (some 31) rfl rfl (by kernel_rfl) (by kernel_rfl) (by kernel_rfl) (by kernel_rfl) (by kernel_rfl) (by kernel_rfl) (fun _ _ _ h => h) (.inl ⟨by rfl, fun w' _ => (by go_simp; rfl)⟩) hS ?_
            go_frame
            refine till_take 4 (some 32) rfl rfl (by kernel_rfl) (by kernel_rfl) (by kernel_rfl) (by kernel_rfl) (by kernel_rfl) (by kernel_rfl) (fun _ _ _ h => h) (.inr ⟨by rfl, rfl⟩) hS ?_
            go_frame
            refine till_take 5 (some 33) rfl rfl (by kernel_rfl) (by kernel_rfl) (by kernel_rfl) (by kernel_rfl) (by kernel_rfl) (by kernel_rfl) (fun _ _ _ h => h) (.inr ⟨by rfl, rfl⟩) hS ?_
            go_frame
            refine till_take 6 (some 34) rfl rfl (by kernel_rfl) (by kernel_rfl) (by kernel_rfl) (by kernel_rfl) (by kernel_rfl) (by kernel_rfl) (fun _ _ _ h => h) (.inr ⟨by rfl, rfl⟩) hS ?_
            go_frame
            refine till_take 7 (some 35) rfl rfl (by kernel_rfl) (by kernel_rfl) (by kernel_rfl) (by kernel_rfl) (by kernel_rfl) (by kernel_rfl) (fun _ _ _ h => h) (.inr ⟨by rfl, rfl⟩) hS ?_
            go_frame
            refine till_take 8 (some 36) rfl rfl (by kernel_rfl) (by kernel_rfl) (by kernel_rfl) (by kernel_rfl) (by kernel_rfl) (by kernel_rfl) (fun _ _ _ h => h) (.inr ⟨by rfl, rfl⟩) hS ?_
            go_frame
            refine till_take 9 (some 37) rfl rfl (by kernel_rfl) (by kernel_rfl) (by kernel_rfl) (by kernel_rfl) (by kernel_rfl) (by kernel_rfl) (fun _ _ _ h => h) (.inr ⟨by rfl, rfl⟩) hS ?_
            go_frame
            refine till_take 10 (some 38) rfl rfl (by kernel_rfl) (by kernel_rfl) (by kernel_rfl) (by kernel_rfl) (by kernel_rfl) (by kernel_rfl) (fun _ _ _ h => h) (.inr ⟨by rfl, rfl⟩) hS ?_
            go_frame
            refine till_take 11 (some 39) rfl rfl (by kernel_rfl) (by kernel_rfl) (by kernel_rfl) (by kernel_rfl) (by kernel_rfl) (by kernel_rfl) (fun _ _ _ h => h) (.inr ⟨by rfl, rfl⟩) hS ?_
            go_frame
            refine till_take 12 (some 40) rfl rfl (by kernel_rfl) (by kernel_rfl) (by kernel_rfl) (by kernel_rfl) (by kernel_rfl) (by kernel_rfl) (fun _ _ _ h => h) (.inr ⟨by rfl, rfl⟩) hS ?_
            go_frame
            refine till_take 13 (some 41) rfl rfl (by kernel_rfl) (by kernel_rfl) (by kernel_rfl) (by kernel_rfl) (by kernel_rfl) (by kernel_rfl) (fun _ _ _ h => h) (.inr ⟨by rfl, rfl⟩) hS ?_
            go_frame
            refine till_take 14 (some 42) rfl rfl (by kernel_rfl) (by kernel_rfl) (by kernel_rfl) (by kernel_rfl) (by kernel_rfl) (by kernel_rfl) (fun _ _ _ h => h) (.inr ⟨by rfl, rfl⟩) hS ?_
            go_frame
            refine till_take 15 (some 43) rfl rfl (by kernel_rfl) (by kernel_rfl) (by kernel_rfl) (by kernel_rfl) (by kernel_rfl) (by kernel_rfl) (fun _ _ _ h => h) (.inr ⟨by rfl, rfl⟩) hS ?_
            go_frame
            refine till_take 16 (some 44) rfl rfl (by kernel_rfl) (by kernel_rfl) (by kernel_rfl) (by kernel_rfl) (by kernel_rfl) (by kernel_rfl) (fun _ _ _ h => h) (.inr ⟨by rfl, rfl⟩) hS ?_
            go_frame
            refine till_take 17 (some 45) rfl rfl (by kernel_rfl) (by kernel_rfl) (by kernel_rfl) (by kernel_rfl) (by kernel_rfl) (by kernel_rfl) (fun _ _ _ h => h) (.inr ⟨by rfl, rfl⟩) hS ?_
            go_frame
            refine till_take 18 (some 46) rfl rfl (by kernel_rfl) (by kernel_rfl) (by kernel_rfl) (by kernel_rfl) (by kernel_rfl) (by kernel_rfl) (fun _ _ _ h => h) (.inr ⟨by rfl, rfl⟩) hS ?_
            go_frame
            refine till_take 19 (some 47) rfl rfl (by kernel_rfl) (by kernel_rfl) (by kernel_rfl) (by kernel_rfl) (by kernel_rfl) (by kernel_rfl) (fun _ _ _ h => h) (.inr ⟨by rfl, rfl⟩) hS ?_
            go_frame
            refine till_take 20 (some 48) rfl rfl (by kernel_rfl) (by kernel_rfl) (by kernel_rfl) (by kernel_rfl) (by kernel_rfl) (by kernel_rfl) (fun _ _ _ h => h) (.inr ⟨by rfl, rfl⟩) hS ?_
            go_frame
            refine till_one 21 rfl (by kernel_rfl) fun K hK => ?_
            simp only [List.getElem_toArray, List.getElem_cons_succ, List.getElem_cons_zero]
            rw [if_pos (by rfl)]
            go_simp
            refine hK _ _ (fun h => absurd rfl h) ?_
            clear hK heq
            refine till_done (by kernel_rfl) ?_ _
            go_wp2_with fail
            go_roundw
            case rel => exact ⟨k + 1, by omega, by go_num, HB36.out.drew, Lib.hid fun m hm h => (by
              rcases Nat.lt_or_ge m k with h1 | h1
              · exact HK.out m h1 h
              · obtain rfl : m = k := by omega
                exact absurd (by rw [HS.out, HY.out, HZ.out, HX.out]; exact h) HH.out)⟩
            case measure => simp [intOf]; omega
        · obtain rfl : k = i := by omega
          have HB4 := Lib.hid hb4
          have hnot := no_twin_moreZ (by have := HNN.out; omega) HNO.out HK.out
          have hown4 := HOWN3.out.later hb4
          have hr4 := (hb4.block R (heap_lt HR.out)).trans HR.out
          have hlr : ((texts.take k).map shaF).length = k := HSL.out
          have HNOT := Lib.hid hnot; have HOWN4 := Lib.hid hown4; have HR4 := Lib.hid hr4; have HB04 := Lib.hid (HB3.out.trans (hb4.mono HB3.out.size))
          clear hb4 hnot hown4 hr4 hlr
          go_wp2_with (first
            | (refine wpList_load_row rfl _ _ rfl R rfl _ (c8 y) _ _ HR4.out Tryz.underlying36 rfl (Tryz.sizeHs _ HY32.out) ?_)
            | (refine wpList_build1 rfl 42 _ rfl Tryz.underlying42 Tryz.infoHash rfl (by omega) (by omega) (.agg (c8 y)) (c8 y) rfl rfl (by rw [c8_size, HY32.out]) ?_)
            | (at_builtin; refine own_app rfl _ _ _ rfl Tryz.underlying42 Tryz.infoHash rfl (by omega) (B := w.heap.size) (base := w.heap.size) (w0 := w) (us := c8 y) y HOWN4.out rfl rfl (by rw [hE_32 _ HY32.out]; rfl) (hE_len _) (hE_one _) (by rw [HSL.out]; unfold maxLen; omega) (by rw [HSL.out]; omega) HB04.out (Nat.le_refl _) HB04.out.size (Nat.le_refl _) ?_))
          intro v' w7 hown7 hb7 hg7 _
          obtain ⟨oad', on', ocap', hox⟩ := hown7.slice
          subst hox
          have htk : (texts.take (k + 1)).map shaF = (texts.take k).map shaF ++ [y] := by
            rw [List.take_succ_eq_append_getElem (by have := HNN.out; omega), List.map_append, List.map_cons, List.map_nil, ← tAt_eqZ texts k (by have := HNN.out; omega), ← HX.out, HY.out]
          rw [← List.map_take, ← htk] at hown7
          have HLAY : Hid (TwL w texts (k + 1) (.slice oad' on' ocap') w7) := Lib.hid ⟨hb7, hown7, HNOT.out⟩
          clear hown7 hb7 hg7 htk
          go_wp2_with fail
          go_roundw
          case rel => exact ⟨k + 1, by omega, by go_num, HLAY.out⟩
          case measure => simp [intOf]; omega
    · obtain rfl : i = n := by omega
      rw [List.take_of_length_le (by rw [← HNN.out]; exact Nat.le_refl _)] at hno
      have HB := Lib.hid hb; have HNO := Lib.hid hno
      obtain ⟨sad, on, scap, hs⟩ := hown.slice
      subst hs
      clear hb hno hown
      go_wp2_with fail
      go_ret
      exact ⟨false, rfl, ⟨fun h => (by cases h), fun h => absurd h HNO.out⟩, HB.out⟩
end
section
open Go.RowKit

/-- Alike up to number i. -/
def AlikeTo (a b : List (List UInt8)) (i : Nat) : Prop := ∀ j, j < i → tAt a j = tAt b j
theorem rootV_ok {k : Int} {l : List (List UInt8)} (h : whyF k l.length = 0) : rootV k l = .tuple #[.agg (c8 (rootF k.toNat l)), .int .i64 0] := by unfold rootV; rw [if_pos h]
end
section
open Go.RowKit

/-- Row number j. -/
def rowN (k : Int) (l : List (List UInt8)) (j : Nat) : List (List UInt8) := rowAt k.toNat (groundF k.toNat (depthF l.length) l) j
theorem rowN_32 (k : Int) (l : List (List UInt8)) (j : Nat) : All32 (rowN k l j) := rowAt_32 _ _ (groundF_32 _ _ _) j
theorem rowN_pow (k : Int) (l : List (List UInt8)) (j : Nat) (hj : j ≤ depthF l.length) : (rowN k l j).length = 2 ^ (depthF l.length - j) := rowAt_pow _ _ _ (groundF_length _ _ _) j hj
theorem rowN_half (k : Int) (l : List (List UInt8)) (j : Nat) (hj : j + 1 ≤ depthF l.length) : (rowN k l j).length = 2 * (rowN k l (j + 1)).length := by
  rw [rowN_pow k l j (by omega), rowN_pow k l (j + 1) hj, show depthF l.length - j = (depthF l.length - (j + 1)) + 1 by omega, Nat.pow_succ]
  omega
theorem rowN_len (k : Int) (l : List (List UInt8)) (j : Nat) (hj : j ≤ depthF l.length) (hn : l.length ≤ 1024) : 0 < (rowN k l j).length ∧ (rowN k l j).length ≤ 1024 := by
  rw [rowN_pow k l j hj]
  exact ⟨Nat.pow_pos (by omega), Nat.le_trans (Nat.pow_le_pow_right (by omega) (Nat.le_trans (Nat.sub_le _ _) (depthF_10 _ hn))) (by decide)⟩
theorem rowN_top (k : Int) (l : List (List UInt8)) : rowN k l (depthF l.length) = [rootF k.toNat l] := top_eq _ _
theorem rowN_node {k : Int} (hk : k = 1 ∨ k = 2) (l : List (List UInt8)) (j m : Nat) (hj : j + 1 ≤ depthF l.length) (hm : m < (rowN k l (j + 1)).length) : hAt (rowN k l (j + 1)) m = nodeK k (hAt (rowN k l j) (2 * m)) (hAt (rowN k l j) (2 * m + 1)) := by
  have h2 := rowN_half k l j hj
  have e := row_up k.toNat (rowN k l j)
  have hm2 : m < (upF k.toNat (rowN k l j)).length := hm
  rw [hAt_eq _ m hm]
  unfold nodeK
  rw [if_pos hk]
  have h3 : (rowN k l (j + 1))[m]? = some (nodeF k.toNat (hAt (rowN k l j) (2 * m)) (hAt (rowN k l j) (2 * m + 1))) := by
    show (upF k.toNat (rowN k l j))[m]? = _
    rw [← e, List.getElem?_map, List.getElem?_range (by omega)]; rfl
  rw [List.getElem?_eq_getElem hm] at h3
  exact Option.some.inj h3
theorem rowN_leaf {k : Int} (hk : k = 1 ∨ k = 2) (l : List (List UInt8)) (i : Nat) (hi : i < l.length) : hAt (rowN k l 0) i = leafK k (tAt l i) ∧ i < (rowN k l 0).length := by
  have h0 := depthF_ge l.length
  have h1 : i < (rowN k l 0).length := by rw [rowN_pow k l 0 (Nat.zero_le _), Nat.sub_zero]; omega
  refine ⟨?_, h1⟩
  rw [hAt_eq _ i h1]
  unfold leafK
  rw [if_pos hk]
  have h3 : (rowN k l 0)[i]? = some (leafF k.toNat (l.getD i [])) := groundF_at _ _ _ _ (by omega)
  rw [List.getElem?_eq_getElem h1] at h3
  exact Option.some.inj h3
theorem rows_at {w : World} {rb ro n cap : Nat} {k : Int} {l : List (List UInt8)} (h : RowsAt w (.slice (some ⟨rb, ro, none⟩) n cap) (levelsF k.toNat l)) (j : Nat) (hj : j ≤ depthF l.length) (hn : l.length ≤ 1024) :
    ∃ p q rc len, len = (rowN k l j).length ∧ 0 < len ∧ len ≤ 1024 ∧ rb < w.heap.size ∧ w.cell? ⟨rb, ro + j, none⟩ = some (.slice (some ⟨p, q, none⟩) len rc) ∧ p < w.heap.size ∧ Rd w hE 32 (.slice (some ⟨p, q, none⟩) len rc) (rowN k l j) := by
  obtain ⟨b, off, u, e, hb, hc, hr⟩ := h.at j (by rw [levelsF_length]; omega)
  cases e
  have he := levelsF_at k.toNat l j hj
  rw [List.getElem?_eq_getElem (by rw [levelsF_length]; omega)] at he
  have he2 : (levelsF k.toNat l)[j]'(by rw [levelsF_length]; omega) = rowN k l j := Option.some.inj he
  rw [he2] at hr
  have hl := rowN_len k l j hj hn
  obtain ⟨rad, rc, hu, _, _⟩ := hr.shape
  subst hu
  obtain ⟨p, q, hpq, hp⟩ := hr.ptr hl.1
  subst hpq
  exact ⟨p, q, rc, _, rfl, hl.1, hl.2, hb, hc, hp, hr⟩
end
section
open Go.RowKit

/-- Beside number x. -/
def bes (x : Nat) : Nat := if x % 2 = 1 then x - 1 else x + 1
theorem bes_lt {x m : Nat} (h : x < 2 ^ (m + 1)) : bes x < 2 ^ (m + 1) := by
  rw [Nat.pow_succ] at h ⊢
  unfold bes; split <;> omega
/-- The hashes beside the way of number i. -/
def proofF (k : Int) (l : List (List UInt8)) (i : Nat) : List (List UInt8) := (List.range (depthF l.length)).map fun j => hAt (rowN k l j) (bes (i / 2 ^ j))
/-- Build's error, and its hashes. -/
def proofE (k : Int) (l : List (List UInt8)) (i : Int) : Int := if whyF k l.length = 0 then (if i < 0 ∨ (l.length : Int) ≤ i then 5 else 0) else whyF k l.length
def proofV (k : Int) (l : List (List UInt8)) (i : Int) : List (List UInt8) := if proofE k l i = 0 then proofF k l i.toNat else []
theorem proofF_length (k : Int) (l : List (List UInt8)) (i : Nat) : (proofF k l i).length = depthF l.length := by simp [proofF]
theorem proofF_32 (k : Int) (l : List (List UInt8)) (i : Nat) : All32 (proofF k l i) := by
  intro x hx
  unfold proofF at hx
  obtain ⟨j, _, rfl⟩ := List.mem_map.1 hx
  exact hAt_length (rowN_32 _ _ _) _
theorem proofF_take (k : Int) (l : List (List UInt8)) (i j : Nat) (hj : j < depthF l.length) : (proofF k l i).take (j + 1) = (proofF k l i).take j ++ [hAt (rowN k l j) (bes (i / 2 ^ j))] := by
  rw [List.take_succ_eq_append_getElem (by rw [proofF_length]; exact hj)]
  simp [proofF]
theorem place_lt {i n j : Nat} (hi : i < n) (hj : j ≤ depthF n) : i / 2 ^ j < 2 ^ (depthF n - j) := by
  have h := depthF_ge n
  rw [Nat.div_lt_iff_lt_mul (Nat.pow_pos (by omega)), ← Nat.pow_add, Nat.sub_add_cancel hj]
  omega
theorem place_next (i j : Nat) : i / 2 ^ (j + 1) = i / 2 ^ j / 2 := by rw [Nat.pow_succ, Nat.div_div_eq_div_mul]
theorem rootV_no {k : Int} {l : List (List UInt8)} (h : ¬ whyF k l.length = 0) : rootV k l = .tuple #[.agg (c8 zero32), .int .i64 (whyF k l.length)] := by unfold rootV; rw [if_neg h]

theorem nat_xor1 (x : Nat) : x ^^^ 1 = bes x := by
  have h1 : (x ^^^ 1) / 2 = x / 2 := by rw [Nat.xor_div_two]; simp
  have h2 := @Nat.xor_mod_two_eq_one x 1
  unfold bes
  split <;> omega
theorem i64_xor1 (x : Nat) (hx : x < 9223372036854775807) : bits .xor .i64 (x : Int) 1 = (bes x : Int) := by
  show IntKind.i64.wrap ((BitVec.ofInt 64 (x : Int) ^^^ BitVec.ofInt 64 1).toNat : Int) = _
  have h1 : (BitVec.ofInt 64 1).toNat = 1 := by decide
  have h2 : (BitVec.ofInt 64 (x : Int)).toNat = x := by
    rw [BitVec.ofInt_natCast, BitVec.toNat_ofNat]; exact Nat.mod_eq_of_lt (by omega)
  have h3 : bes x ≤ x + 1 := by unfold bes; split <;> omega
  rw [BitVec.toNat_xor, h1, h2, nat_xor1, IntKind.wrap_i64]
  omega
theorem i64_and1 (n : Int) : bits .and .i64 n 1 = n % 2 := by
  have h1 : (BitVec.ofInt 64 1).toNat = 2 ^ 1 - 1 := by decide
  have key : (BitVec.ofInt 64 n &&& BitVec.ofInt 64 1).toNat = (n % ((2 ^ 64 : Nat) : Int)).toNat % 2 ^ 1 := by
    rw [BitVec.toNat_and, BitVec.toNat_ofInt, h1, Nat.and_two_pow_sub_one_eq_mod]
  show IntKind.i64.wrap ((BitVec.ofInt 64 n &&& BitVec.ofInt 64 1).toNat : Nat) = n % 2
  rw [key, IntKind.wrap_i64]
  omega

set_option maxRecDepth 100000 in
set_option maxHeartbeats 4000000 in
theorem pbuild_any (k i : Int) (l : List (List UInt8)) (v : Value) (w : World) (h : Texts w v l) (hf : Fair l) :
    Calls Tryz.prog 91 #[.int .i64 k, v, .int .i64 i] w fun e w' => ∃ v', e = .returned (.tuple #[v', .int .i64 (proofE k l i)]) ∧ Own w' w.heap.size 36 hE 32 v' (proofV k l i) ∧ Below w.heap.size w w' := by
  obtain ⟨ad, cap, rfl, hc1, hc2⟩ := h.shape
  have H := Lib.hid h; have HF := Lib.hid hf
  clear h hf
  obtain ⟨n, hn⟩ : ∃ n, n = l.length := ⟨_, rfl⟩
  rw [← hn] at hc1 H ⊢
  have HN := Lib.hid hn
  by_cases hy : whyF k l.length = 0
  · obtain ⟨hk, h1, hn1⟩ := why_zero hy
    obtain ⟨ga, hra, hga32⟩ : ∃ ga, rootV k l = .tuple #[.agg (c8 ga), .int .i64 0] ∧ ga.length = 32 := ⟨_, rootV_ok hy, rootF_length _ _⟩
    rw [← hn] at h1 hn1
    by_cases hi : i < 0 ∨ (n : Int) ≤ i
    · have hE : proofE k l i = 5 := by unfold proofE; rw [if_pos hy, if_pos (by rw [← hn]; exact hi)]
      have hV : proofV k l i = [] := by unfold proofV; rw [hE]; rfl
      rw [hE, hV]
      have HRA := Lib.hid hra; have HG32 := Lib.hid hga32
      clear hra hga32 hE hV hy hn
      have hi2 : i < 0 ∨ (¬ i < 0 ∧ (n : Int) ≤ i) := by omega
      clear hi
      rcases hi2 with hi | ⟨hi, hi3⟩
      all_goals
        go_enter Tryz.func91, Tryz.ntmps91
        go_wp2_with fail
        go_step3
        go_wp2_with fail
        refine (mroot_any k l _ _ H.out HF.out).mono ?_
        rintro e w2 ⟨rfl, hb2⟩
        rw [HRA.out]
        have HB2 := Lib.hid hb2; clear hb2
        go_wp2_with (refine wpList_alloc_g rfl _ rfl _ _ Tryz.zeroHash rfl ?_)
        intro R w3 h3
        go_wp2_with (refine wpList_store_row_g (t := 36) (old := cB 32 []) rfl 36 _ _ rfl R (c8 ga) rfl rfl h3.out.cells (Tryz.sizeHs _ HG32.out) (by rw [c8_size, HG32.out]; rfl) (by rw [← cB_full 32 _ HG32.out]; exact one_b _ _) ?_)
        intro w4 h4 k4 z4
        have hb24 : Below w2.heap.size w2 w4 := h3.out.below.trans (k4.below (B := w2.heap.size) (fun q hq e => by have := h3.out.eq; omega) h3.out.below.size)
        have HB4 := Lib.hid (HB2.out.trans (hb24.mono HB2.out.size))
        clear hb24 h4 k4 z4 h3 HB2
        go_wp2_with fail
        rw [Exit.noGoto_ret]
        go_ret2
        exact ⟨_, rfl, Own.nil _ _ _ _ _, HB4.out⟩
    · have hi1 : ¬ i < 0 := by omega
      have hi2 : ¬ (n : Int) ≤ i := by omega
      have hE : proofE k l i = 0 := by unfold proofE; rw [if_pos hy, if_neg (by rw [← hn]; exact hi)]
      have hV : proofV k l i = proofF k l i.toNat := by unfold proofV; rw [hE]; rfl
      rw [hE, hV]
      have HRA := Lib.hid hra; have HG32 := Lib.hid hga32; have HK := Lib.hid hk
      clear hra hga32 hE hV hy hn hi hk
      obtain ⟨i0, rfl⟩ : ∃ i0 : Nat, i = (i0 : Int) := ⟨i.toNat, by omega⟩
      rw [Int.toNat_natCast]
      have hin : i0 < n := by omega
      replace hi1 : ((i0 : Int) < 0) = False := eq_false hi1
      have hi3 : ¬ n ≤ i0 := by omega
      go_enter Tryz.func91, Tryz.ntmps91
      go_wp2_with fail
      go_step3
      go_wp2_with fail
      refine (mroot_any k l _ _ H.out HF.out).mono ?_
      rintro e w2 ⟨rfl, hb2⟩
      rw [HRA.out]
      have HB2 := Lib.hid hb2; clear hb2
      go_wp2_with (refine wpList_alloc_g rfl _ rfl _ _ Tryz.zeroHash rfl ?_)
      intro R w3 h3
      go_wp2_with (refine wpList_store_row_g (t := 36) (old := cB 32 []) rfl 36 _ _ rfl R (c8 ga) rfl rfl h3.out.cells (Tryz.sizeHs _ HG32.out) (by rw [c8_size, HG32.out]; rfl) (by rw [← cB_full 32 _ HG32.out]; exact one_b _ _) ?_)
      intro w4 h4 k4 z4
      have hb24 : Below w2.heap.size w2 w4 := h3.out.below.trans (k4.below (B := w2.heap.size) (fun q hq e => by have := h3.out.eq; omega) h3.out.below.size)
      have HB4 := Lib.hid (HB2.out.trans (hb24.mono HB2.out.size))
      clear hb24 h4 k4 z4 h3 HB2
      go_wp2_with fail
      obtain ⟨d, hd⟩ : ∃ d, d = depthF l.length := ⟨_, rfl⟩
      have hd10 : d ≤ 10 := by rw [hd]; exact depthF_10 _ (by have := HN.out; omega)
      have HD := Lib.hid hd; have HN10 : Hid (l.length ≤ 1024) := Lib.hid (by have := HN.out; omega)
      clear hd
      refine (levels_any k l _ _ (H.out.later HB4.out) HK.out (by have := HN.out; omega) HN10.out HF.out).mono ?_
      rintro e w5 ⟨v5, rfl, hr5, hb5⟩
      replace hr5 := hr5.rows
      obtain ⟨rad, rcap, hv5, hrc1, hrc2⟩ := hr5.shape
      rw [levelsF_length, ← HD.out] at hv5 hrc1
      subst hv5
      obtain ⟨rb, ro, u0, hrad, hrb, _, _⟩ := hr5.at 0 (by rw [levelsF_length]; omega)
      subst hrad
      have hrow : ∀ j, j ≤ d → _ := fun j hj => rows_at hr5 j (by rw [← HD.out]; exact hj) HN10.out
      have HROW := Lib.hid hrow; have HB5 := Lib.hid (HB4.out.trans (hb5.mono HB4.out.size))
      clear hrow hr5 hb5
      go_wp2_with fail
      go_step3
      go_wp2_with fail
      go_loopw [2, 10, 36] (fun x y z wr => ∃ j p : Nat, j ≤ d ∧ z = .int .i64 j ∧ Hid (p = i0 / 2 ^ j) ∧ x = .int .i64 p ∧ Own wr w5.heap.size 36 hE 32 y ((proofF k l i0).take j) ∧ Below w5.heap.size w5 wr) (fun _ _ z _ => d + 1 - (intOf z).toNat)
      case atStart => exact ⟨0, i0, Nat.zero_le _, rfl, Lib.hid (by simp), rfl, Own.nil _ _ _ _ _, Below.refl _ _⟩
      case round =>
        obtain ⟨j, p, hj, rfl, hp, rfl, hown, hb⟩ := hrel
        have hjd : (j : Int) < (d : Int) + 1 := by omega
        obtain ⟨pj, qj, rcj, h, hh, hh1, hh2, hrb5, hcj, hpj, hrdj⟩ := HROW.out j hj
        have hcw := (hb.cell (p := ⟨rb, ro + j, none⟩) hrb5).trans hcj
        have hlen : h = 2 ^ (d - j) := by rw [hh, rowN_pow k l j (by rw [← HD.out]; exact hj), HD.out]
        by_cases hjd2 : j < d
        · have hpl : p < 2 ^ (d - j) := by rw [hp.out, HD.out]; exact place_lt (by rw [← HN.out]; exact hin) (by rw [← HD.out]; exact hj)
          have hbl : bes p < h := by
            rw [hlen, show d - j = d - j - 1 + 1 by omega] at *
            exact bes_lt hpl
          have hh3 : 2 ≤ h := by
            have : 2 ^ 1 ≤ 2 ^ (d - j) := Nat.pow_le_pow_right (by omega) (by omega)
            rw [hlen]; exact this
          rw [← hlen] at hpl
          have hne : ((h : Int) == 1) = false := by simp; omega
          obtain ⟨y, hy⟩ : ∃ y, y = hAt (rowN k l j) (bes p) := ⟨_, rfl⟩
          have hy32 : y.length = 32 := by rw [hy]; exact hAt_length (rowN_32 _ _ _) _
          obtain ⟨_, _, e1, _, hrange⟩ := (hrdj.later hb).hash (rowN_32 _ _ _) (bes p) (by rw [← hh]; exact hbl)
          cases e1
          rw [← hAt_eq _ (bes p) (by rw [← hh]; exact hbl), ← hy] at hrange
          have htk := proofF_take k l i0 j (by rw [← HD.out]; exact hjd2)
          rw [← hp.out, ← hy] at htk
          have hlr : ((proofF k l i0).take j).length = j := by rw [List.length_take, proofF_length, ← HD.out]; omega
          obtain ⟨oad, on, ocap, hox⟩ := hown.slice
          subst hox
          have hxor : bits BinOp.xor IntKind.i64 (p : Int) 1 = (bes p : Int) := i64_xor1 p (by omega)
          have hbi : (bes p : Int) < (h : Int) := by omega
          obtain ⟨q, hq⟩ : ∃ q, q = bes p := ⟨_, rfl⟩
          rw [← hq] at hxor hbi hrange
          have HRG := Lib.hid hrange; have HY32 := Lib.hid hy32; have HTK := Lib.hid htk; have HOWN := Lib.hid hown; have HBR := Lib.hid hb; have HLR := Lib.hid hlr
          clear hrange hy hy32 htk hown hb hlr hh hlen hq hcj hrdj hbl hh1 hpl
          go_wp2_with (first
            | (refine wpList_load_mid rfl _ _ rfl pj (qj + q * 32) rfl (y.map byteV) _ HRG.out Tryz.underlying36 rfl (Tryz.sizeHm _ HY32.out) ?_)
            | (refine wpList_build1 rfl 42 _ rfl Tryz.underlying42 Tryz.infoHash rfl (by omega) (by omega) (.agg (c8 y)) (c8 y) rfl rfl (by rw [c8_size, HY32.out]) ?_)
            | (at_builtin; refine own_app rfl _ _ _ rfl Tryz.underlying42 Tryz.infoHash rfl (by omega) (B := w5.heap.size) (base := w5.heap.size) (w0 := w5) (us := c8 y) y HOWN.out rfl rfl (by rw [hE_32 _ HY32.out]; rfl) (hE_len _) (hE_one _) (by rw [HLR.out]; unfold maxLen; omega) (by rw [HLR.out]; omega) HBR.out (Nat.le_refl _) HBR.out.size (Nat.le_refl _) ?_))
          intro v' w7 hown7 hb7 hg7 _
          obtain ⟨oad', on', ocap', hox⟩ := hown7.slice
          subst hox
          rw [← HTK.out] at hown7
          have HO7 := Lib.hid hown7; have HB7 := Lib.hid hb7
          clear hown7 hb7 hg7 hcw
          go_wp2_with fail
          go_roundw
          case rel => exact ⟨j + 1, p / 2, by omega, by go_num, Lib.hid (by rw [hp.out, place_next]), by go_num, HO7.out, HB7.out⟩
          case measure => simp [intOf]; omega
        · obtain rfl : j = d := by omega
          have hl1 : h = 1 := by rw [hlen, Nat.sub_self]
          subst hl1
          rw [List.take_of_length_le (by rw [proofF_length, ← HD.out]; exact Nat.le_refl _)] at hown
          obtain ⟨oad, on, ocap, hox⟩ := hown.slice
          subst hox
          have HOWN := Lib.hid (hown.mono HB5.out.size); have HBR := Lib.hid (HB5.out.trans (hb.mono HB5.out.size))
          clear hown hb hh hlen hcj hrdj
          go_wp2_with fail
          rw [Exit.noGoto_ret]
          go_ret2
          exact ⟨_, rfl, HOWN.out, HBR.out⟩
  · have hE : proofE k l i = whyF k l.length := by unfold proofE; rw [if_neg hy]
    have hV : proofV k l i = [] := by unfold proofV; rw [hE, if_neg hy]
    rw [hE, hV]
    obtain ⟨ga, hra, hga32⟩ : ∃ ga, rootV k l = .tuple #[.agg (c8 ga), .int .i64 (whyF k l.length)] ∧ ga.length = 32 := ⟨_, rootV_no hy, rfl⟩
    have HRA := Lib.hid hra; have HG32 := Lib.hid hga32
    have hne : (whyF k l.length != 0) = true := by simpa using hy
    obtain ⟨ye, hye⟩ : ∃ ye, ye = whyF k l.length := ⟨_, rfl⟩
    rw [← hye] at hne HRA ⊢
    clear hra hga32 hE hV hy hn hye
    go_enter Tryz.func91, Tryz.ntmps91
    go_wp2_with fail
    go_step3
    go_wp2_with fail
    refine (mroot_any k l _ _ H.out HF.out).mono ?_
    rintro e w2 ⟨rfl, hb2⟩
    rw [HRA.out]
    have HB2 := Lib.hid hb2; clear hb2
    go_wp2_with (refine wpList_alloc_g rfl _ rfl _ _ Tryz.zeroHash rfl ?_)
    intro R w3 h3
    go_wp2_with (refine wpList_store_row_g (t := 36) (old := cB 32 []) rfl 36 _ _ rfl R (c8 ga) rfl rfl h3.out.cells (Tryz.sizeHs _ HG32.out) (by rw [c8_size, HG32.out]; rfl) (by rw [← cB_full 32 _ HG32.out]; exact one_b _ _) ?_)
    intro w4 h4 k4 z4
    have hb24 : Below w2.heap.size w2 w4 := h3.out.below.trans (k4.below (B := w2.heap.size) (fun q hq e => by have := h3.out.eq; omega) h3.out.below.size)
    have HB4 := Lib.hid (HB2.out.trans (hb24.mono HB2.out.size))
    clear hb24 h4 k4 z4 h3 HB2
    go_wp2_with fail
    rw [Exit.noGoto_ret]
    go_ret2
    exact ⟨_, rfl, Own.nil _ _ _ _ _, HB4.out⟩
end
end Go.Proofs.YtmclmccgghnglaaGreat
