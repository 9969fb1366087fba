/- Hashes and amounts put into bytes (code, and the document's); the leaves of reward trees. No condition. -/
import Derived.Test.YtmclmccgghnglaaOctB
import Derived.Test.YtmclmccgghnglaaMerkC
import Derived.Test.YtmclmccgghnglaaReg
namespace Go.Proofs.Ytmclmccgghnglaa
open Go.RowKit

theorem ubyt_any {a b c d : Int} {m : Nat} (h : UIs a b c d m) (w : World) : Calls Try.prog 55 #[.agg #[.int .u64 a, .int .u64 b, .int .u64 c, .int .u64 d]] w (RowB w (amtB m)) := by
  have h1 := bytes_any a b c d w h.1.1 h.1.2 h.2.1.1 h.2.1.2 h.2.2.1.1 h.2.2.1.2 h.2.2.2.1.1 h.2.2.2.1.2
  rw [ubytes_is h] at h1
  exact h1
/-- What is read elsewhere stays, while a slice of the call's own is appended to. -/
theorem Own.rdo {α β : Type} {w w' : World} {B : Nat} {e : TypeId} {enc : α → List Value} {enc2 : β → List Value} {sz sz2 : Nat} {v u : Value} {l : List α} {l2 : List β} (h : Own w B e enc sz v l) (hg : w.grownBy w' v.ownBlock) (hr : Rd w enc2 sz2 u l2) (hu : ∀ k, u.ownBlock = some k → k < B) : Rd w' enc2 sz2 u l2 := by
  obtain ⟨ad, cap, rfl, h1, h2, h3⟩ := hr
  refine ⟨ad, cap, rfl, h1, h2, fun hne => ?_⟩
  obtain ⟨b, off, rfl, hb', hc⟩ := h3 hne
  refine ⟨b, off, rfl, Nat.lt_of_lt_of_le hb' hg.size, fun i hi j hj => ?_⟩
  rw [World.cell?_of_block (w := w) (w' := w') (hg.block b hb' (fun e => by have := (h.lt b e.symm).1; have := hu b rfl; omega))]
  exact hc i hi j hj

set_option maxHeartbeats 4000000 in
set_option maxRecDepth 100000 in
theorem ohash_any (w : World) (v : Value) (l h : List UInt8) (hr : Rd w u8E 1 v l) (hlen : l.length < 1000000000) (hh : h.length = 32) :
    Calls Try.prog 32 #[v, .agg (c8 h)] w (RowB w (l ++ h)) := by
  have HR := Lib.hid hr; have HL := Lib.hid hlen; have HH := Lib.hid hh
  clear hr hlen hh
  go_enter Try.func32, Try.ntmps32
  go_wp2_with fail
  obtain ⟨w1, hw1⟩ : ∃ w1, w1 = w.alloc (.cells (c8 h) 23) := ⟨_, rfl⟩
  obtain ⟨X, hX⟩ : ∃ X, X = w.heap.size := ⟨_, rfl⟩
  rw [← hw1, ← hX]
  have HX := Lib.hid (show w1.heap[X]? = some (.cells (c8 h) 23 (0, 0)) by rw [hw1, hX]; exact heap_alloc_new _ _)
  have HB := Lib.hid (show Below w.heap.size w w1 by rw [hw1]; exact (Below.refl _ _).alloc (Nat.le_refl _) _)
  clear hw1 hX
  obtain ⟨wz, hwz⟩ : ∃ wz, wz = w1.drew := ⟨_, rfl⟩
  have hbz : Below w1.heap.size w1 wz := by rw [hwz]; exact (Below.refl _ _).drew
  have HXz := Lib.hid (below_at2 hbz HX.out)
  have HBz := Lib.hid (HB.out.trans (hbz.mono HB.out.size))
  clear hbz HX HB
  refine wp_region_till (fun _ => True) 5 5 (by kernel_rfl) rfl ?_
  rw [← hwz]
  clear hwz
  refine till_take 0 (some 5) rfl rfl (by kernel_rfl) (by kernel_rfl) (by kernel_rfl) (by kernel_rfl) (by kernel_rfl) (by kernel_rfl) (fun _ _ _ h => h) (.inl ⟨by rfl, fun w' _ => (by go_simp; rfl)⟩) (by trivial) ?_
  go_frame
  refine till_take 2 (some 7) rfl rfl (by kernel_rfl) (by kernel_rfl) (by kernel_rfl) (by kernel_rfl) (by kernel_rfl) (by kernel_rfl) (fun _ _ _ h => h) (.inl ⟨by rfl, fun w' _ => (by go_simp; rfl)⟩) (by trivial) ?_
  go_frame
  refine till_one 1 rfl (by kernel_rfl) fun K hK => ?_
  simp only [List.getElem_toArray, List.getElem_cons_succ, List.getElem_cons_zero]
  rw [if_pos (by rfl)]
  go_simp
  refine (clone_bytes _ v l (HR.out.later HBz.out) (by have := HL.out; omega)).mono ?_
  rintro e w2 ⟨v2, rfl, ho, hb⟩
  have HO := Lib.hid ho
  have HX2 := Lib.hid (below_at2 hb HXz.out)
  have HB2 := Lib.hid (HBz.out.trans (hb.mono HBz.out.size))
  clear ho
  refine hK _ _ (fun _ _ => trivial) ?_
  clear hK HXz
  refine till_one 3 rfl (by kernel_rfl) fun K hK => ?_
  simp only [List.getElem_toArray, List.getElem_cons_succ, List.getElem_cons_zero]
  rw [if_pos (by rfl)]
  refine wp_own_apps (.tmp 6) (.tmp 7) 55 rfl Try.underlying55 Try.infoU8 rfl (by decide) u8_len u8_one HO.out rfl _ rfl (rd_box HX2.out 32 HH.out.symm (by omega)) (by rw [HH.out]; have := HL.out; unfold maxLen; omega) (by rw [HH.out]; have := HL.out; omega) (B := w.heap.size) (w0 := w) HB2.out HBz.out.size hb.size ?_
  intro v3 w3 ho3 hb3 _
  have HO3 := Lib.hid ho3; have HB3 := Lib.hid hb3
  refine hK _ _ (fun _ _ => trivial) ?_
  clear hK hb HO HX2 HB2 ho3 hb3
  refine till_take 4 (some 4) rfl rfl (by kernel_rfl) (by kernel_rfl) (by kernel_rfl) (by kernel_rfl) (by kernel_rfl) (by kernel_rfl) (fun _ _ _ h => h) (.inl ⟨by rfl, fun w' _ => (by go_simp; rfl)⟩) (by trivial) ?_
  go_frame
  refine till_done (by kernel_rfl) ?_ _
  go_wp2_with fail
  go_ret
  exact ⟨_, rfl, HO3.out.mono HBz.out.size, HB3.out⟩

theorem sig_le (m : Nat) : (sigB (amtB m)).length ≤ 32 := by have := sigB_le (amtB m); rw [amtB_length] at this; exact this
/-- An amount, in as few bytes as it needs. -/
def amtT (m : Nat) : List UInt8 := UInt8.ofNat (sigB (amtB m)).length :: sigB (amtB m)
theorem amtT_len (m : Nat) : (amtT m).length ≤ 33 := by have := sig_le m; unfold amtT; simp; omega
theorem be_amtB {m : Nat} (h : m < uMax) : be (amtB m) = m := by have := amtF_B h; unfold amtF at this; rwa [if_pos (amtB_length m)] at this
theorem sig_bits {m : Nat} (h : m < uMax) : (bitsN m + 7) / 8 = (sigB (amtB m)).length := by have := sigB_bits (amtB m); rwa [be_amtB h] at this
set_option maxHeartbeats 4000000 in
set_option maxRecDepth 100000 in
theorem oamt_any (w : World) (v : Value) (l : List UInt8) (hr : Rd w u8E 1 v l) (hlen : l.length < 1000000000) {a b c d : Int} {m : Nat} (h : UIs a b c d m) :
    Calls Try.prog 34 #[v, .agg #[.int .u64 a, .int .u64 b, .int .u64 c, .int .u64 d]] w (RowB w (l ++ amtT m)) := by
  have HR := Lib.hid hr; have HL := Lib.hid hlen; have H := Lib.hid h
  obtain ⟨D, hD⟩ : ∃ D, D = bitsN m := ⟨_, rfl⟩
  obtain ⟨k, hk⟩ : ∃ k, k = (sigB (amtB m)).length := ⟨_, rfl⟩
  have hdk : ((D : Int) + 7) / 8 = (k : Int) := by have := sig_bits h.lt; rw [← hD, ← hk] at this; omega
  have hk32 : k ≤ 32 := by rw [hk]; exact sig_le m
  have hD256 : D ≤ 256 := by rw [hD]; exact bitsN_le m 256 (by have := h.lt; unfold uMax at this; exact this)
  obtain ⟨c0, hc0⟩ : ∃ c0, c0 = UInt8.ofNat k := ⟨_, rfl⟩
  have HC0 := Lib.hid (by rw [hc0]; exact byte_cell (by omega) (by rw [IntKind.wrap_u8]; omega) : u8E c0 = [Value.int .u8 (IntKind.u8.wrap (k : Int))])
  have HT := Lib.hid (by unfold amtT; rw [hc0, hk] : amtT m = c0 :: sigB (amtB m))
  have HDK := Lib.hid hD; have HKK := Lib.hid hk
  have hw32 : IntKind.i64.wrap ((32 : Int) - (k : Int)) = 32 - (k : Int) := IntWalk.i64_in _ (by omega)
  clear hr hlen hD hk hc0 h
  go_enter Try.func34, Try.ntmps34
  go_wp2_with fail
  obtain ⟨w1, hw1⟩ : ∃ w1, w1 = w.alloc (.cells #[.int .u64 a, .int .u64 b, .int .u64 c, .int .u64 d] 31) := ⟨_, rfl⟩
  obtain ⟨X, hX⟩ : ∃ X, X = w.heap.size := ⟨_, rfl⟩
  rw [← hw1, ← hX]
  have HX := Lib.hid (show w1.heap[X]? = some (.cells #[.int .u64 a, .int .u64 b, .int .u64 c, .int .u64 d] 31 (0, 0)) by rw [hw1, hX]; exact heap_alloc_new _ _)
  have HB := Lib.hid (show Below w.heap.size w w1 by rw [hw1]; exact (Below.refl _ _).alloc (Nat.le_refl _) _)
  clear hw1 hX
  refine (ubits_any H.out w1).mono ?_
  rintro e w2 ⟨rfl, hb2⟩
  rw [← HDK.out]
  have HX2 := Lib.hid (below_at2 hb2 HX.out); have HB2 := Lib.hid (HB.out.trans (hb2.mono HB.out.size))
  clear hb2 HX HB
  go_wp2_with (refine wpList_load_row rfl 31 _ rfl X rfl 31 _ _ _ HX2.out Try.underlying31 rfl Try.sizeU ?_)
  refine (ubyt_any H.out w2).mono ?_
  rintro e w3 ⟨va, rfl, ho, hb3⟩
  have hrd := ho.rd u8_len
  obtain ⟨ad, cap, rfl, _, _⟩ := hrd.shape
  rw [amtB_length]
  rw [amtB_length] at hrd
  obtain ⟨vs, hs1, hs2, hs5⟩ := hrd.from Try.underlying55 (sz := 1) (by kernel_rfl) (32 - k) (by rw [amtB_length]; omega)
  have hs3 : sigB (amtB m) = (amtB m).drop (32 - k) := by have := sigB_drop (amtB m); rw [amtB_length, ← HKK.out] at this; exact this.symm
  rw [← hs3] at hs2
  have hs4 : ∀ w kl, (Instr.slice 55 (.slice ad 32 cap) (some (.int kl ((32 : Int) - (k : Int)))) none none).run Try.prog w = .ok vs w := fun w kl => by
    have := hs1 w kl
    rwa [show ((32 - k : Nat) : Int) = (32 : Int) - (k : Int) by omega] at this
  have HS := Lib.hid hs2; have HB := Lib.hid (HB2.out.trans (hb3.mono HB2.out.size))
  have HLS := Lib.hid (by rw [← HKK.out]; exact hk32 : (sigB (amtB m)).length ≤ 32)
  have HQ3 := Lib.hid (fun q e => (ho.lt q (hs5 q e)).2 : ∀ q, vs.ownBlock = some q → q < w3.heap.size)
  clear ho hrd hb3 hs1 hs2 hs3 hs5 HX2 HB2
  go_wp2_with fail
  obtain ⟨wz, hwz⟩ : ∃ wz, wz = w3.drew := ⟨_, rfl⟩
  have hbz : Below w3.heap.size w3 wz := by rw [hwz]; exact (Below.refl _ _).drew
  have HR0 := Lib.hid (HR.out.later (HB.out.trans (hbz.mono HB.out.size)))
  have HS0 := Lib.hid (HS.out.later hbz)
  have HB0 := Lib.hid (HB.out.trans (hbz.mono HB.out.size))
  have HZ0 := Lib.hid (Nat.le_refl wz.heap.size)
  have HQ := Lib.hid (fun q e => Nat.lt_of_lt_of_le (HQ3.out q e) hbz.size : ∀ q, vs.ownBlock = some q → q < wz.heap.size)
  clear hbz HR HS HB HQ3
  have hS : True := trivial
  have HW := Lib.hid HB0.out.size
  refine wp_region_till (fun _ => True) 14 14 (by kernel_rfl) rfl ?_
  rw [← hwz]
  clear hwz
  refine till_take 0 (some 13) rfl rfl (by kernel_rfl) (by kernel_rfl) (by kernel_rfl) (by kernel_rfl) (by kernel_rfl) (by kernel_rfl) (fun _ _ _ h => h) (.inl ⟨by rfl, fun w' _ => (by go_simp; rfl)⟩) hS ?_
  go_frame
  refine till_take 2 (some 15) rfl rfl (by kernel_rfl) (by kernel_rfl) (by kernel_rfl) (by kernel_rfl) (by kernel_rfl) (by kernel_rfl) (fun _ _ _ h => h) (.inl ⟨by rfl, fun w' _ => (by go_simp; rfl)⟩) hS ?_
  go_frame
  refine till_take 3 (some 16) rfl rfl (by kernel_rfl) (by kernel_rfl) (by kernel_rfl) (by kernel_rfl) (by kernel_rfl) (by kernel_rfl) (fun _ _ _ h => h) (.inl ⟨by rfl, fun w' _ => (by go_simp; rfl)⟩) hS ?_
  go_frame
  refine till_take 6 (some 19) rfl rfl (by kernel_rfl) (by kernel_rfl) (by kernel_rfl) (by kernel_rfl) (by kernel_rfl) (by kernel_rfl) (fun _ _ _ h => h) (.inl ⟨by rfl, fun w' _ => (by go_simp; rfl)⟩) hS ?_
  go_frame
  refine till_take 7 (some 20) rfl rfl (by kernel_rfl) (by kernel_rfl) (by kernel_rfl) (by kernel_rfl) (by kernel_rfl) (by kernel_rfl) (fun _ _ _ h => h) (.inl ⟨by rfl, fun w' _ => (by go_simp; rfl)⟩) hS ?_
  go_frame
  refine till_take 8 (some 21) rfl rfl (by kernel_rfl) (by kernel_rfl) (by kernel_rfl) (by kernel_rfl) (by kernel_rfl) (by kernel_rfl) (fun _ _ _ h => h) (.inl ⟨by rfl, fun w' _ => (by go_simp; rfl)⟩) hS ?_
  go_frame
  refine till_take 9 (some 22) rfl rfl (by kernel_rfl) (by kernel_rfl) (by kernel_rfl) (by kernel_rfl) (by kernel_rfl) (by kernel_rfl) (fun _ _ _ h => h) (.inl ⟨by rfl, fun w' _ => (by go_simp; rfl)⟩) hS ?_
  go_frame
  refine till_take 10 (some 23) rfl rfl (by kernel_rfl) (by kernel_rfl) (by kernel_rfl) (by kernel_rfl) (by kernel_rfl) (by kernel_rfl) (fun _ _ _ h => h) (.inl ⟨by rfl, fun w' _ => (by go_simp; rfl)⟩) hS ?_
  go_frame
  refine till_take 11 (some 24) rfl rfl (by kernel_rfl) (by kernel_rfl) (by kernel_rfl) (by kernel_rfl) (by kernel_rfl) (by kernel_rfl) (fun _ _ _ h => h) (.inl ⟨by rfl, fun w' _ => (by go_simp; rfl)⟩) hS ?_
  go_frame
  refine till_two 1 4 rfl rfl (by kernel_rfl) (fun K hK => ?_) (fun K hK => ?_)
  · simp only [List.getElem_toArray, List.getElem_cons_succ, List.getElem_cons_zero]
    rw [if_pos (by rfl)]
    go_simp
    refine (clone_bytes _ v l HR0.out (by have := HL.out; omega)).mono ?_
    rintro e wt1 ⟨v2, rfl, ho, hb⟩
    have HO1 := Lib.hid (ho.mono HZ0.out)
    clear ho
    have HR1 := Lib.hid (HR0.out.later hb)
    have HS1 := Lib.hid (HS0.out.later hb)
    have HB1 := Lib.hid (HB0.out.trans (hb.mono HB0.out.size))
    have HZ1 := Lib.hid (Nat.le_trans HZ0.out hb.size)
    clear hb HR0 HS0 HB0 HZ0
    refine hK _ _ (fun _ _ => hS) ?_
    clear hK
    refine till_one 4 rfl (by kernel_rfl) fun K hK => ?_
    simp only [List.getElem_toArray, List.getElem_cons_succ, List.getElem_cons_zero]
    rw [if_pos (by rfl)]
    go_simp
    obtain ⟨wt2, hw⟩ : ∃ w2, w2 = World.alloc wt1 (.cells #[.int .u8 (IntKind.u8.wrap (k : Int))] 5) := ⟨_, rfl⟩
    obtain ⟨Y, hY⟩ : ∃ Y, Y = (World.heap wt1).size := ⟨_, rfl⟩
    rw [← hw, ← hY]
    have HY2 := Lib.hid (show Rd wt2 u8E 1 (.slice (some ⟨Y, 0, none⟩) 1 1) [c0] by rw [hw, hY]; exact rd_new1 _ u8E u8_len 5 [c0] _ 1 rfl (by omega) (by simp [HC0.out]))
    have hb : Below (World.heap wt1).size wt1 wt2 := by rw [hw]; exact (Below.refl _ _).alloc (Nat.le_refl _) _
    clear hw hY
    have HR2 := Lib.hid (HR1.out.later hb)
    have HS2 := Lib.hid (HS1.out.later hb)
    have HB2 := Lib.hid (HB1.out.trans (hb.mono HB1.out.size))
    have HZ2 := Lib.hid (Nat.le_trans HZ1.out hb.size)
    have HO2 := Lib.hid (HO1.out.later hb)
    clear hb HR1 HS1 HB1 HZ1 HO1
    refine hK _ _ (fun _ _ => hS) ?_
    clear hK
    refine till_one 5 rfl (by kernel_rfl) fun K hK => ?_
    simp only [List.getElem_toArray, List.getElem_cons_succ, List.getElem_cons_zero]
    rw [if_pos (by rfl)]
    refine wp_own_apps (.tmp 14) (.tmp 17) 55 rfl Try.underlying55 Try.infoU8 rfl (by decide) u8_len u8_one HO2.out rfl _ rfl HY2.out (by have := HL.out; simp only [List.length_cons, List.length_nil]; unfold maxLen; omega) (by have := HL.out; simp only [List.length_cons, List.length_nil]; omega) (B := w.heap.size) (w0 := w) HB2.out HW.out HZ2.out ?_
    intro v3 wt3 ho hb hg
    have HO3 := Lib.hid ho; have HB3 := Lib.hid hb; have HZ3 := Lib.hid (Nat.le_trans HZ2.out hg.size)
    have HS3 := Lib.hid (HO2.out.rdo hg HS2.out HQ.out)
    clear ho hb hg HR2 HS2 HB2 HZ2 HO2 HY2
    refine hK _ _ (fun _ _ => hS) ?_
    clear hK
    refine till_one 12 rfl (by kernel_rfl) fun K hK => ?_
    simp only [List.getElem_toArray, List.getElem_cons_succ, List.getElem_cons_zero]
    rw [if_pos (by rfl)]
    refine wp_own_apps (.tmp 18) (.tmp 24) 55 rfl Try.underlying55 Try.infoU8 rfl (by decide) u8_len u8_one HO3.out rfl _ rfl HS3.out (by have := HL.out; have := HLS.out; simp only [List.length_append, List.length_cons, List.length_nil]; unfold maxLen; omega) (by have := HL.out; have := HLS.out; simp only [List.length_append, List.length_cons, List.length_nil]; omega) (B := w.heap.size) (w0 := w) HB3.out HW.out HZ3.out ?_
    intro v4 wt4 ho hb hg
    have HO4 := Lib.hid ho; have HB4 := Lib.hid hb; have HZ4 := Lib.hid (Nat.le_trans HZ3.out hg.size)
    clear ho hb hg HO3 HB3 HZ3 HS3
    refine hK _ _ (fun _ _ => hS) ?_
    clear hK
    refine till_take 13 (some 4) rfl rfl (by kernel_rfl) (by kernel_rfl) (by kernel_rfl) (by kernel_rfl) (by kernel_rfl) (by kernel_rfl) (fun _ _ _ h => h) (.inl ⟨by rfl, fun w' _ => (by go_simp; rfl)⟩) hS ?_
    go_frame
    refine till_done (by kernel_rfl) ?_ _
    go_wp2_with fail
    go_ret
    exact ⟨_, rfl, by rw [HT.out]; have h := HO4.out; rw [List.append_assoc] at h; exact h.mono HW.out, HB4.out⟩
  · simp only [List.getElem_toArray, List.getElem_cons_succ, List.getElem_cons_zero]
    rw [if_pos (by rfl)]
    go_simp
    obtain ⟨wt5, hw⟩ : ∃ w2, w2 = World.alloc wz (.cells #[.int .u8 (IntKind.u8.wrap (k : Int))] 5) := ⟨_, rfl⟩
    obtain ⟨Y, hY⟩ : ∃ Y, Y = (World.heap wz).size := ⟨_, rfl⟩
    rw [← hw, ← hY]
    have HY5 := Lib.hid (show Rd wt5 u8E 1 (.slice (some ⟨Y, 0, none⟩) 1 1) [c0] by rw [hw, hY]; exact rd_new1 _ u8E u8_len 5 [c0] _ 1 rfl (by omega) (by simp [HC0.out]))
    have hb : Below (World.heap wz).size wz wt5 := by rw [hw]; exact (Below.refl _ _).alloc (Nat.le_refl _) _
    clear hw hY
    have HR5 := Lib.hid (HR0.out.later hb)
    have HS5 := Lib.hid (HS0.out.later hb)
    have HB5 := Lib.hid (HB0.out.trans (hb.mono HB0.out.size))
    have HZ5 := Lib.hid (Nat.le_trans HZ0.out hb.size)
    clear hb HR0 HS0 HB0 HZ0
    refine hK _ _ (fun _ _ => hS) ?_
    clear hK
    refine till_one 1 rfl (by kernel_rfl) fun K hK => ?_
    simp only [List.getElem_toArray, List.getElem_cons_succ, List.getElem_cons_zero]
    rw [if_pos (by rfl)]
    go_simp
    refine (clone_bytes _ v l HR5.out (by have := HL.out; omega)).mono ?_
    rintro e wt6 ⟨v2, rfl, ho, hb⟩
    have HO6 := Lib.hid (ho.mono HZ5.out)
    clear ho
    have HR6 := Lib.hid (HR5.out.later hb)
    have HS6 := Lib.hid (HS5.out.later hb)
    have HB6 := Lib.hid (HB5.out.trans (hb.mono HB5.out.size))
    have HZ6 := Lib.hid (Nat.le_trans HZ5.out hb.size)
    have HY6 := Lib.hid (HY5.out.later hb)
    clear hb HR5 HS5 HB5 HZ5 HY5
    refine hK _ _ (fun _ _ => hS) ?_
    clear hK
    refine till_one 5 rfl (by kernel_rfl) fun K hK => ?_
    simp only [List.getElem_toArray, List.getElem_cons_succ, List.getElem_cons_zero]
    rw [if_pos (by rfl)]
    refine wp_own_apps (.tmp 14) (.tmp 17) 55 rfl Try.underlying55 Try.infoU8 rfl (by decide) u8_len u8_one HO6.out rfl _ rfl HY6.out (by have := HL.out; simp only [List.length_cons, List.length_nil]; unfold maxLen; omega) (by have := HL.out; simp only [List.length_cons, List.length_nil]; omega) (B := w.heap.size) (w0 := w) HB6.out HW.out HZ6.out ?_
    intro v7 wt7 ho hb hg
    have HO7 := Lib.hid ho; have HB7 := Lib.hid hb; have HZ7 := Lib.hid (Nat.le_trans HZ6.out hg.size)
    have HS7 := Lib.hid (HO6.out.rdo hg HS6.out HQ.out)
    clear ho hb hg HR6 HS6 HB6 HZ6 HY6 HO6
    refine hK _ _ (fun _ _ => hS) ?_
    clear hK
    refine till_one 12 rfl (by kernel_rfl) fun K hK => ?_
    simp only [List.getElem_toArray, List.getElem_cons_succ, List.getElem_cons_zero]
    rw [if_pos (by rfl)]
    refine wp_own_apps (.tmp 18) (.tmp 24) 55 rfl Try.underlying55 Try.infoU8 rfl (by decide) u8_len u8_one HO7.out rfl _ rfl HS7.out (by have := HL.out; have := HLS.out; simp only [List.length_append, List.length_cons, List.length_nil]; unfold maxLen; omega) (by have := HL.out; have := HLS.out; simp only [List.length_append, List.length_cons, List.length_nil]; omega) (B := w.heap.size) (w0 := w) HB7.out HW.out HZ7.out ?_
    intro v8 wt8 ho hb hg
    have HO8 := Lib.hid ho; have HB8 := Lib.hid hb; have HZ8 := Lib.hid (Nat.le_trans HZ7.out hg.size)
    clear ho hb hg HO7 HB7 HZ7 HS7
    refine hK _ _ (fun _ _ => hS) ?_
    clear hK
    refine till_take 13 (some 4) rfl rfl (by kernel_rfl) (by kernel_rfl) (by kernel_rfl) (by kernel_rfl) (by kernel_rfl) (by kernel_rfl) (fun _ _ _ h => h) (.inl ⟨by rfl, fun w' _ => (by go_simp; rfl)⟩) hS ?_
    go_frame
    refine till_done (by kernel_rfl) ?_ _
    go_wp2_with fail
    go_ret
    exact ⟨_, rfl, by rw [HT.out]; have h := HO8.out; rw [List.append_assoc] at h; exact h.mono HW.out, HB8.out⟩

theorem Rd.grown {β : Type} {w w' : World} {row : Option Nat} {enc2 : β → List Value} {sz2 : Nat} {u : Value} {l2 : List β} (hr : Rd w enc2 sz2 u l2) (hg : w.grownBy w' row) (hu : ∀ k, u.ownBlock = some k → row ≠ some k) : Rd w' enc2 sz2 u l2 := by
  obtain ⟨ad, cap, rfl, h1, h2, h3⟩ := hr
  refine ⟨ad, cap, rfl, h1, h2, fun hne => ?_⟩
  obtain ⟨b, off, rfl, hb', hc⟩ := h3 hne
  refine ⟨b, off, rfl, Nat.lt_of_lt_of_le hb' hg.size, fun i hi j hj => ?_⟩
  rw [World.cell?_of_block (w := w) (w' := w') (hg.block b hb' (fun e => hu b rfl e.symm))]
  exact hc i hi j hj
end Go.Proofs.Ytmclmccgghnglaa
