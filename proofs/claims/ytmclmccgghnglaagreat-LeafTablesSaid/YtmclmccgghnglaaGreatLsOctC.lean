/- Hashes and amounts put into bytes (code, and the document's); the leaves of reward trees. No condition. -/
import Derived.Test.YtmclmccgghnglaaGreatLsOctB
import Derived.Test.YtmclmccgghnglaaGreatLsMerkC
import Derived.Test.YtmclmccgghnglaaGreatLsReg
namespace Go.Proofs.YtmclmccgghnglaaGreat
open Go.RowKit

theorem ubyt_any {a b c d : Int} {m : Nat} (h : UIs a b c d m) (w : World) : Calls Tryz.prog 258 #[.agg #[.int .u64 a, .int .u64 b, .int .u64 c, .int .u64 d]] w (RowB w (amtB m)) := by
  have h1 := bytes_any a b c d w h.1.1 h.1.2 h.2.1.1 h.2.1.2 h.2.2.1.1 h.2.2.1.2 h.2.2.2.1.1 h.2.2.2.1.2
  rw [ubytes_is h] at h1
  exact h1
/-- What is read elsewhere stays, while a slice of the call's own is appended to. -/
theorem Own.rdo {α β : Type} {w w' : World} {B : Nat} {e : TypeId} {enc : α → List Value} {enc2 : β → List Value} {sz sz2 : Nat} {v u : Value} {l : List α} {l2 : List β} (h : Own w B e enc sz v l) (hg : w.grownBy w' v.ownBlock) (hr : Rd w enc2 sz2 u l2) (hu : ∀ k, u.ownBlock = some k → k < B) : Rd w' enc2 sz2 u l2 := by
  obtain ⟨ad, cap, rfl, h1, h2, h3⟩ := hr
  refine ⟨ad, cap, rfl, h1, h2, fun hne => ?_⟩
  obtain ⟨b, off, rfl, hb', hc⟩ := h3 hne
  refine ⟨b, off, rfl, Nat.lt_of_lt_of_le hb' hg.size, fun i hi j hj => ?_⟩
  rw [World.cell?_of_block (w := w) (w' := w') (hg.block b hb' (fun e => by have := (h.lt b e.symm).1; have := hu b rfl; omega))]
  exact hc i hi j hj

set_option maxHeartbeats 4000000 in
set_option maxRecDepth 100000 in
theorem ohash_any (w : World) (v : Value) (l h : List UInt8) (hr : Rd w u8E 1 v l) (hlen : l.length < 1000000000) (hh : h.length = 32) :
    Calls Tryz.prog 157 #[v, .agg (c8 h)] w (RowB w (l ++ h)) := by
  have HR := Lib.hid hr; have HL := Lib.hid hlen; have HH := Lib.hid hh
  clear hr hlen hh
  go_enter Tryz.func157, Tryz.ntmps157
  go_wp2_with fail
  obtain ⟨w1, hw1⟩ : ∃ w1, w1 = w.alloc (.cells (c8 h) 36) := ⟨_, rfl⟩
  obtain ⟨X, hX⟩ : ∃ X, X = w.heap.size := ⟨_, rfl⟩
  rw [← hw1, ← hX]
  have HX := Lib.hid (show w1.heap[X]? = some (.cells (c8 h) 36 (0, 0)) by rw [hw1, hX]; exact heap_alloc_new _ _)
  have HB := Lib.hid (show Below w.heap.size w w1 by rw [hw1]; exact (Below.refl _ _).alloc (Nat.le_refl _) _)
  clear hw1 hX
  obtain ⟨wz, hwz⟩ : ∃ wz, wz = w1.drew := ⟨_, rfl⟩
  have hbz : Below w1.heap.size w1 wz := by rw [hwz]; exact (Below.refl _ _).drew
  have HXz := Lib.hid (below_at2 hbz HX.out)
  have HBz := Lib.hid (HB.out.trans (hbz.mono HB.out.size))
  clear hbz HX HB
  refine wp_region_till (fun _ => True) 5 5 (by kernel_rfl) rfl ?_
  rw [← hwz]
  clear hwz
  refine till_take 0 (some 5) rfl rfl (by kernel_rfl) (by kernel_rfl) (by kernel_rfl) (by kernel_rfl) (by kernel_rfl) (by kernel_rfl) (fun _ _ _ h => h) (.inl ⟨by rfl, fun w' _ => (by go_simp; rfl)⟩) (by trivial) ?_
  go_frame
  refine till_take 2 (some 7) rfl rfl (by kernel_rfl) (by kernel_rfl) (by kernel_rfl) (by kernel_rfl) (by kernel_rfl) (by kernel_rfl) (fun _ _ _ h => h) (.inl ⟨by rfl, fun w' _ => (by go_simp; rfl)⟩) (by trivial) ?_
  go_frame
  refine till_one 1 rfl (by kernel_rfl) fun K hK => ?_
  simp only [List.getElem_toArray, List.getElem_cons_succ, List.getElem_cons_zero]
  rw [if_pos (by rfl)]
  go_simp
  refine (clone_bytes _ v l (HR.out.later HBz.out) (by have := HL.out; omega)).mono ?_
  rintro e w2 ⟨v2, rfl, ho, hb⟩
  have HO := Lib.hid ho
  have HX2 := Lib.hid (below_at2 hb HXz.out)
  have HB2 := Lib.hid (HBz.out.trans (hb.mono HBz.out.size))
  clear ho
  refine hK _ _ (fun _ _ => trivial) ?_
  clear hK HXz
  refine till_one 3 rfl (by kernel_rfl) fun K hK => ?_
  simp only [List.getElem_toArray, List.getElem_cons_succ, List.getElem_cons_zero]
  rw [if_pos (by rfl)]
  refine wp_own_apps (.tmp 6) (.tmp 7) 100 rfl Tryz.underlying100 Tryz.infoU8 rfl (by decide) u8_len u8_one HO.out rfl _ rfl (rd_box HX2.out 32 HH.out.symm (by omega)) (by rw [HH.out]; have := HL.out; unfold maxLen; omega) (by rw [HH.out]; have := HL.out; omega) (B := w.heap.size) (w0 := w) HB2.out HBz.out.size hb.size ?_
  intro v3 w3 ho3 hb3 _
  have HO3 := Lib.hid ho3; have HB3 := Lib.hid hb3
  refine hK _ _ (fun _ _ => trivial) ?_
  clear hK hb HO HX2 HB2 ho3 hb3
  refine till_take 4 (some 4) rfl rfl (by kernel_rfl) (by kernel_rfl) (by kernel_rfl) (by kernel_rfl) (by kernel_rfl) (by kernel_rfl) (fun _ _ _ h => h) (.inl ⟨by rfl, fun w' _ => (by go_simp; rfl)⟩) (by trivial) ?_
  go_frame
  refine till_done (by kernel_rfl) ?_ _
  go_wp2_with fail
  go_ret
  exact ⟨_, rfl, HO3.out.mono HBz.out.size, HB3.out⟩

set_option maxHeartbeats 4000000 in
set_option maxRecDepth 100000 in
theorem rhash_any (w : World) (v : Value) (l h : List UInt8) (hr : Rd w u8E 1 v l) (hlen : l.length < 1000000000) (hh : h.length = 32) :
    Calls Tryz.prog 159 #[v, .agg (c8 h)] w (RowB w (l ++ h)) := by
  have HR := Lib.hid hr; have HL := Lib.hid hlen; have HH := Lib.hid hh
  clear hr hlen hh
  go_enter Tryz.func159, Tryz.ntmps159
  go_wp2_with fail
  obtain ⟨w1, hw1⟩ : ∃ w1, w1 = w.alloc (.cells (c8 h) 36) := ⟨_, rfl⟩
  obtain ⟨X, hX⟩ : ∃ X, X = w.heap.size := ⟨_, rfl⟩
  rw [← hw1, ← hX]
  have HX := Lib.hid (show w1.heap[X]? = some (.cells (c8 h) 36 (0, 0)) by rw [hw1, hX]; exact heap_alloc_new _ _)
  have HB := Lib.hid (show Below w.heap.size w w1 by rw [hw1]; exact (Below.refl _ _).alloc (Nat.le_refl _) _)
  clear hw1 hX
  obtain ⟨wz, hwz⟩ : ∃ wz, wz = w1.drew := ⟨_, rfl⟩
  have hbz : Below w1.heap.size w1 wz := by rw [hwz]; exact (Below.refl _ _).drew
  have HXz := Lib.hid (below_at2 hbz HX.out)
  have HBz := Lib.hid (HB.out.trans (hbz.mono HB.out.size))
  clear hbz HX HB
  refine wp_region_till (fun _ => True) 6 6 (by kernel_rfl) rfl ?_
  rw [← hwz]
  clear hwz
  refine till_take 1 (some 6) rfl rfl (by kernel_rfl) (by kernel_rfl) (by kernel_rfl) (by kernel_rfl) (by kernel_rfl) (by kernel_rfl) (fun _ _ _ h => h) (.inl ⟨by rfl, fun w' _ => (by go_simp; rfl)⟩) (by trivial) ?_
  go_frame
  refine till_take 3 (some 8) rfl rfl (by kernel_rfl) (by kernel_rfl) (by kernel_rfl) (by kernel_rfl) (by kernel_rfl) (by kernel_rfl) (fun _ _ _ h => h) (.inl ⟨by rfl, fun w' _ => (by go_simp; rfl)⟩) (by trivial) ?_
  go_frame
  refine till_one 0 rfl (by kernel_rfl) fun K hK => ?_
  simp only [List.getElem_toArray, List.getElem_cons_zero]
  rw [if_pos (by rfl)]
  go_simp
  obtain ⟨w2, hw2⟩ : ∃ w2, w2 = wz.alloc (.cells #[] 5) := ⟨_, rfl⟩
  obtain ⟨G, hG⟩ : ∃ G, G = wz.heap.size := ⟨_, rfl⟩
  rw [← hw2, ← hG]
  have HO := Lib.hid (show Own w2 wz.heap.size 5 u8E 1 (.slice (some ⟨G, 0, none⟩) 0 0) ([] : List UInt8) by rw [hw2, hG]; exact own_mt wz _ (Nat.le_refl _))
  have hb2 : Below wz.heap.size wz w2 := by rw [hw2]; exact (Below.refl _ _).alloc (Nat.le_refl _) _
  have HX2 := Lib.hid (below_at2 hb2 HXz.out); have HB2 := Lib.hid (HBz.out.trans (hb2.mono HBz.out.size)); have HZ2 := Lib.hid hb2.size
  have HR2 := Lib.hid (HR.out.later HB2.out)
  have HXL := Lib.hid (heap_lt HXz.out)
  refine hK _ _ (fun _ _ => trivial) ?_
  clear hK HXz hw2 hG hb2 HR
  refine till_one 2 rfl (by kernel_rfl) fun K hK => ?_
  simp only [List.getElem_toArray, List.getElem_cons_succ, List.getElem_cons_zero]
  rw [if_pos (by rfl)]
  refine wp_own_apps (.tmp 5) (.tmp 6) 100 rfl Tryz.underlying100 Tryz.infoU8 rfl (by decide) u8_len u8_one HO.out rfl _ rfl HR2.out (by have := HL.out; simp only [List.length_nil]; unfold maxLen; omega) (by have := HL.out; simp only [List.length_nil]; omega) (B := w.heap.size) (w0 := w) HB2.out HBz.out.size HZ2.out ?_
  intro v3 w3 ho3 hb3 hg3
  have HX3 := Lib.hid (HO.out.other hg3 HXL.out HX2.out)
  have HO3 := Lib.hid ho3; have HB3 := Lib.hid hb3; have HZ3 := Lib.hid (Nat.le_trans HZ2.out hg3.size)
  refine hK _ _ (fun _ _ => trivial) ?_
  clear hK HO HX2 HB2 HZ2 ho3 hb3 hg3 HR2
  refine till_one 4 rfl (by kernel_rfl) fun K hK => ?_
  simp only [List.getElem_toArray, List.getElem_cons_succ, List.getElem_cons_zero]
  rw [if_pos (by rfl)]
  refine wp_own_apps (.tmp 7) (.tmp 8) 100 rfl Tryz.underlying100 Tryz.infoU8 rfl (by decide) u8_len u8_one HO3.out rfl _ rfl (rd_box HX3.out 32 HH.out.symm (by omega)) (by rw [HH.out]; have := HL.out; simp only [List.nil_append]; unfold maxLen; omega) (by rw [HH.out]; have := HL.out; simp only [List.nil_append]; omega) (B := w.heap.size) (w0 := w) HB3.out HBz.out.size HZ3.out ?_
  intro v4 w4 ho4 hb4 _
  have HO4 := Lib.hid ho4; have HB4 := Lib.hid hb4
  refine hK _ _ (fun _ _ => trivial) ?_
  clear hK HO3 HX3 HB3 HZ3 ho4 hb4
  refine till_take 5 (some 4) rfl rfl (by kernel_rfl) (by kernel_rfl) (by kernel_rfl) (by kernel_rfl) (by kernel_rfl) (by kernel_rfl) (fun _ _ _ h => h) (.inl ⟨by rfl, fun w' _ => (by go_simp; rfl)⟩) (by trivial) ?_
  go_frame
  refine till_done (by kernel_rfl) ?_ _
  go_wp2_with fail
  go_ret
  exact ⟨_, rfl, HO4.out.mono HBz.out.size, HB4.out⟩

theorem sig_le (m : Nat) : (sigB (amtB m)).length ≤ 32 := by have := sigB_le (amtB m); rw [amtB_length] at this; exact this
/-- An amount, in as few bytes as it needs. -/
def amtT (m : Nat) : List UInt8 := UInt8.ofNat (sigB (amtB m)).length :: sigB (amtB m)
theorem amtT_len (m : Nat) : (amtT m).length ≤ 33 := by have := sig_le m; unfold amtT; simp; omega
theorem be_amtB {m : Nat} (h : m < uMax) : be (amtB m) = m := by have := amtF_B h; unfold amtF at this; rwa [if_pos (amtB_length m)] at this
theorem sig_bits {m : Nat} (h : m < uMax) : (bitsN m + 7) / 8 = (sigB (amtB m)).length := by have := sigB_bits (amtB m); rwa [be_amtB h] at this
set_option maxHeartbeats 4000000 in
set_option maxRecDepth 100000 in
theorem oamt_any (w : World) (v : Value) (l : List UInt8) (hr : Rd w u8E 1 v l) (hlen : l.length < 1000000000) {a b c d : Int} {m : Nat} (h : UIs a b c d m) :
    Calls Tryz.prog 161 #[v, .agg #[.int .u64 a, .int .u64 b, .int .u64 c, .int .u64 d]] w (RowB w (l ++ amtT m)) := by
  have HR := Lib.hid hr; have HL := Lib.hid hlen; have H := Lib.hid h
  obtain ⟨D, hD⟩ : ∃ D, D = bitsN m := ⟨_, rfl⟩
  obtain ⟨k, hk⟩ : ∃ k, k = (sigB (amtB m)).length := ⟨_, rfl⟩
  have hdk : ((D : Int) + 7) / 8 = (k : Int) := by have := sig_bits h.lt; rw [← hD, ← hk] at this; omega
  have hk32 : k ≤ 32 := by rw [hk]; exact sig_le m
  have hD256 : D ≤ 256 := by rw [hD]; exact bitsN_le m 256 (by have := h.lt; unfold uMax at this; exact this)
  obtain ⟨c0, hc0⟩ : ∃ c0, c0 = UInt8.ofNat k := ⟨_, rfl⟩
  have HC0 := Lib.hid (by rw [hc0]; exact byte_cell (by omega) (by rw [IntKind.wrap_u8]; omega) : u8E c0 = [Value.int .u8 (IntKind.u8.wrap (k : Int))])
  have HT := Lib.hid (by unfold amtT; rw [hc0, hk] : amtT m = c0 :: sigB (amtB m))
  have HDK := Lib.hid hD; have HKK := Lib.hid hk
  have hw32 : IntKind.i64.wrap ((32 : Int) - (k : Int)) = 32 - (k : Int) := IntWalk.i64_in _ (by omega)
  clear hr hlen hD hk hc0 h
  go_enter Tryz.func161, Tryz.ntmps161
  go_wp2_with fail
  obtain ⟨w1, hw1⟩ : ∃ w1, w1 = w.alloc (.cells #[.int .u64 a, .int .u64 b, .int .u64 c, .int .u64 d] 55) := ⟨_, rfl⟩
  obtain ⟨X, hX⟩ : ∃ X, X = w.heap.size := ⟨_, rfl⟩
  rw [← hw1, ← hX]
  have HX := Lib.hid (show w1.heap[X]? = some (.cells #[.int .u64 a, .int .u64 b, .int .u64 c, .int .u64 d] 55 (0, 0)) by rw [hw1, hX]; exact heap_alloc_new _ _)
  have HB := Lib.hid (show Below w.heap.size w w1 by rw [hw1]; exact (Below.refl _ _).alloc (Nat.le_refl _) _)
  clear hw1 hX
  refine (ubits_any H.out w1).mono ?_
  rintro e w2 ⟨rfl, hb2⟩
  rw [← HDK.out]
  have HX2 := Lib.hid (below_at2 hb2 HX.out); have HB2 := Lib.hid (HB.out.trans (hb2.mono HB.out.size))
  clear hb2 HX HB
  go_wp2_with (refine wpList_load_row rfl 55 _ rfl X rfl 55 _ _ _ HX2.out Tryz.underlying55 rfl Tryz.sizeU ?_)
  refine (ubyt_any H.out w2).mono ?_
  rintro e w3 ⟨va, rfl, ho, hb3⟩
  have hrd := ho.rd u8_len
  obtain ⟨ad, cap, rfl, _, _⟩ := hrd.shape
  rw [amtB_length]
  rw [amtB_length] at hrd
  obtain ⟨vs, hs1, hs2, hs5⟩ := hrd.from Tryz.underlying100 (sz := 1) (by kernel_rfl) (32 - k) (by rw [amtB_length]; omega)
  have hs3 : sigB (amtB m) = (amtB m).drop (32 - k) := by have := sigB_drop (amtB m); rw [amtB_length, ← HKK.out] at this; exact this.symm
  rw [← hs3] at hs2
  have hs4 : ∀ w kl, (Instr.slice 100 (.slice ad 32 cap) (some (.int kl ((32 : Int) - (k : Int)))) none none).run Tryz.prog w = .ok vs w := fun w kl => by
    have := hs1 w kl
    rwa [show ((32 - k : Nat) : Int) = (32 : Int) - (k : Int) by omega] at this
  have HS := Lib.hid hs2; have HB := Lib.hid (HB2.out.trans (hb3.mono HB2.out.size))
  have HLS := Lib.hid (by rw [← HKK.out]; exact hk32 : (sigB (amtB m)).length ≤ 32)
  have HQ3 := Lib.hid (fun q e => (ho.lt q (hs5 q e)).2 : ∀ q, vs.ownBlock = some q → q < w3.heap.size)
  clear ho hrd hb3 hs1 hs2 hs3 hs5 HX2 HB2
  go_wp2_with fail
  obtain ⟨wz, hwz⟩ : ∃ wz, wz = w3.drew := ⟨_, rfl⟩
  have hbz : Below w3.heap.size w3 wz := by rw [hwz]; exact (Below.refl _ _).drew
  have HR0 := Lib.hid (HR.out.later (HB.out.trans (hbz.mono HB.out.size)))
  have HS0 := Lib.hid (HS.out.later hbz)
  have HB0 := Lib.hid (HB.out.trans (hbz.mono HB.out.size))
  have HZ0 := Lib.hid (Nat.le_refl wz.heap.size)
  have HQ := Lib.hid (fun q e => Nat.lt_of_lt_of_le (HQ3.out q e) hbz.size : ∀ q, vs.ownBlock = some q → q < wz.heap.size)
  clear hbz HR HS HB HQ3
  have hS : True := trivial
  have HW := Lib.hid HB0.out.size
  refine wp_region_till (fun _ => True) 14 14 (by kernel_rfl) rfl ?_
  rw [← hwz]
  clear hwz
  refine till_take 0 (some 13) rfl rfl (by kernel_rfl) (by kernel_rfl) (by kernel_rfl) (by kernel_rfl) (by kernel_rfl) (by kernel_rfl) (fun _ _ _ h => h) (.inl ⟨by rfl, fun w' _ => (by go_simp; rfl)⟩) hS ?_
  go_frame
  refine till_take 2 (some 15) rfl rfl (by kernel_rfl) (by kernel_rfl) (by kernel_rfl) (by kernel_rfl) (by kernel_rfl) (by kernel_rfl) (fun _ _ _ h => h) (.inl ⟨by rfl, fun w' _ => (by go_simp; rfl)⟩) hS ?_
  go_frame
  refine till_take 3 (some 16) rfl rfl (by kernel_rfl) (by kernel_rfl) (by kernel_rfl) (by kernel_rfl) (by kernel_rfl) (by kernel_rfl) (fun _ _ _ h => h) (.inl ⟨by rfl, fun w' _ => (by go_simp; rfl)⟩) hS ?_
  go_frame
  refine till_take 6 (some 19) rfl rfl (by kernel_rfl) (by kernel_rfl) (by kernel_rfl) (by kernel_rfl) (by kernel_rfl) (by kernel_rfl) (fun _ _ _ h => h) (.inl ⟨by rfl, fun w' _ => (by go_simp; rfl)⟩) hS ?_
  go_frame
  refine till_take 7 (some 20) rfl rfl (by kernel_rfl) (by kernel_rfl) (by kernel_rfl) (by kernel_rfl) (by kernel_rfl) (by kernel_rfl) (fun _ _ _ h => h) (.inl ⟨by rfl, fun w' _ => (by go_simp; rfl)⟩) hS ?_
  go_frame
  refine till_take 8 (some 21) rfl rfl (by kernel_rfl) (by kernel_rfl) (by kernel_rfl) (by kernel_rfl) (by kernel_rfl) (by kernel_rfl) (fun _ _ _ h => h) (.inl ⟨by rfl, fun w' _ => (by go_simp; rfl)⟩) hS ?_
  go_frame
  refine till_take 9 (some 22) rfl rfl (by kernel_rfl) (by kernel_rfl) (by kernel_rfl) (by kernel_rfl) (by kernel_rfl) (by kernel_rfl) (fun _ _ _ h => h) (.inl ⟨by rfl, fun w' _ => (by go_simp; rfl)⟩) hS ?_
  go_frame
  refine till_take 10 (some 23) rfl rfl (by kernel_rfl) (by kernel_rfl) (by kernel_rfl) (by kernel_rfl) (by kernel_rfl) (by kernel_rfl) (fun _ _ _ h => h) (.inl ⟨by rfl, fun w' _ => (by go_simp; rfl)⟩) hS ?_
  go_frame
  refine till_take 11 (some 24) rfl rfl (by kernel_rfl) (by kernel_rfl) (by kernel_rfl) (by kernel_rfl) (by kernel_rfl) (by kernel_rfl) (fun _ _ _ h => h) (.inl ⟨by rfl, fun w' _ => (by go_simp; rfl)⟩) hS ?_
  go_frame
  refine till_two 1 4 rfl rfl (by kernel_rfl) (fun K hK => ?_) (fun K hK => ?_)
  · simp only [List.getElem_toArray, List.getElem_cons_succ, List.getElem_cons_zero]
    rw [if_pos (by rfl)]
    go_simp
    refine (clone_bytes _ v l HR0.out (by have := HL.out; omega)).mono ?_
    rintro e wt1 ⟨v2, rfl, ho, hb⟩
    have HO1 := Lib.hid (ho.mono HZ0.out)
    clear ho
    have HR1 := Lib.hid (HR0.out.later hb)
    have HS1 := Lib.hid (HS0.out.later hb)
    have HB1 := Lib.hid (HB0.out.trans (hb.mono HB0.out.size))
    have HZ1 := Lib.hid (Nat.le_trans HZ0.out hb.size)
    clear hb HR0 HS0 HB0 HZ0
    refine hK _ _ (fun _ _ => hS) ?_
    clear hK
    refine till_one 4 rfl (by kernel_rfl) fun K hK => ?_
    simp only [List.getElem_toArray, List.getElem_cons_succ, List.getElem_cons_zero]
    rw [if_pos (by rfl)]
    go_simp
    obtain ⟨wt2, hw⟩ : ∃ w2, w2 = World.alloc wt1 (.cells #[.int .u8 (IntKind.u8.wrap (k : Int))] 5) := ⟨_, rfl⟩
    obtain ⟨Y, hY⟩ : ∃ Y, Y = (World.heap wt1).size := ⟨_, rfl⟩
    rw [← hw, ← hY]
    have HY2 := Lib.hid (show Rd wt2 u8E 1 (.slice (some ⟨Y, 0, none⟩) 1 1) [c0] by rw [hw, hY]; exact rd_new1 _ u8E u8_len 5 [c0] _ 1 rfl (by omega) (by simp [HC0.out]))
    have hb : Below (World.heap wt1).size wt1 wt2 := by rw [hw]; exact (Below.refl _ _).alloc (Nat.le_refl _) _
    clear hw hY
    have HR2 := Lib.hid (HR1.out.later hb)
    have HS2 := Lib.hid (HS1.out.later hb)
    have HB2 := Lib.hid (HB1.out.trans (hb.mono HB1.out.size))
    have HZ2 := Lib.hid (Nat.le_trans HZ1.out hb.size)
    have HO2 := Lib.hid (HO1.out.later hb)
    clear hb HR1 HS1 HB1 HZ1 HO1
    refine hK _ _ (fun _ _ => hS) ?_
    clear hK
    refine till_one 5 rfl (by kernel_rfl) fun K hK => ?_
    simp only [List.getElem_toArray, List.getElem_cons_succ, List.getElem_cons_zero]
    rw [if_pos (by rfl)]
    refine wp_own_apps (.tmp 14) (.tmp 17) 100 rfl Tryz.underlying100 Tryz.infoU8 rfl (by decide) u8_len u8_one HO2.out rfl _ rfl HY2.out (by have := HL.out; simp only [List.length_cons, List.length_nil]; unfold maxLen; omega) (by have := HL.out; simp only [List.length_cons, List.length_nil]; omega) (B := w.heap.size) (w0 := w) HB2.out HW.out HZ2.out ?_
    intro v3 wt3 ho hb hg
    have HO3 := Lib.hid ho; have HB3 := Lib.hid hb; have HZ3 := Lib.hid (Nat.le_trans HZ2.out hg.size)
    have HS3 := Lib.hid (HO2.out.rdo hg HS2.out HQ.out)
    clear ho hb hg HR2 HS2 HB2 HZ2 HO2 HY2
    refine hK _ _ (fun _ _ => hS) ?_
    clear hK
    refine till_one 12 rfl (by kernel_rfl) fun K hK => ?_
    simp only [List.getElem_toArray, List.getElem_cons_succ, List.getElem_cons_zero]
    rw [if_pos (by rfl)]
    refine wp_own_apps (.tmp 18) (.tmp 24) 100 rfl Tryz.underlying100 Tryz.infoU8 rfl (by decide) u8_len u8_one HO3.out rfl _ rfl HS3.out (by have := HL.out; have := HLS.out; simp only [List.length_append, List.length_cons, List.length_nil]; unfold maxLen; omega) (by have := HL.out; have := HLS.out; simp only [List.length_append, List.length_cons, List.length_nil]; omega) (B := w.heap.size) (w0 := w) HB3.out HW.out HZ3.out ?_
    intro v4 wt4 ho hb hg
    have HO4 := Lib.hid ho; have HB4 := Lib.hid hb; have HZ4 := Lib.hid (Nat.le_trans HZ3.out hg.size)
    clear ho hb hg HO3 HB3 HZ3 HS3
    refine hK _ _ (fun _ _ => hS) ?_
    clear hK
    refine till_take 13 (some 4) rfl rfl (by kernel_rfl) (by kernel_rfl) (by kernel_rfl) (by kernel_rfl) (by kernel_rfl) (by kernel_rfl) (fun _ _ _ h => h) (.inl ⟨by rfl, fun w' _ => (by go_simp; rfl)⟩) hS ?_
    go_frame
    refine till_done (by kernel_rfl) ?_ _
    go_wp2_with fail
    go_ret
    exact ⟨_, rfl, by rw [HT.out]; have h := HO4.out; rw [List.append_assoc] at h; exact h.mono HW.out, HB4.out⟩
  · simp only [List.getElem_toArray, List.getElem_cons_succ, List.getElem_cons_zero]
    rw [if_pos (by rfl)]
    go_simp
    obtain ⟨wt5, hw⟩ : ∃ w2, w2 = World.alloc wz (.cells #[.int .u8 (IntKind.u8.wrap (k : Int))] 5) := ⟨_, rfl⟩
    obtain ⟨Y, hY⟩ : ∃ Y, Y = (World.heap wz).size := ⟨_, rfl⟩
    rw [← hw, ← hY]
    have HY5 := Lib.hid (show Rd wt5 u8E 1 (.slice (some ⟨Y, 0, none⟩) 1 1) [c0] by rw [hw, hY]; exact rd_new1 _ u8E u8_len 5 [c0] _ 1 rfl (by omega) (by simp [HC0.out]))
    have hb : Below (World.heap wz).size wz wt5 := by rw [hw]; exact (Below.refl _ _).alloc (Nat.le_refl _) _
    clear hw hY
    have HR5 := Lib.hid (HR0.out.later hb)
    have HS5 := Lib.hid (HS0.out.later hb)
    have HB5 := Lib.hid (HB0.out.trans (hb.mono HB0.out.size))
    have HZ5 := Lib.hid (Nat.le_trans HZ0.out hb.size)
    clear hb HR0 HS0 HB0 HZ0
    refine hK _ _ (fun _ _ => hS) ?_
    clear hK
    refine till_one 1 rfl (by kernel_rfl) fun K hK => ?_
    simp only [List.getElem_toArray, List.getElem_cons_succ, List.getElem_cons_zero]
    rw [if_pos (by rfl)]
    go_simp
    refine (clone_bytes _ v l HR5.out (by have := HL.out; omega)).mono ?_
    rintro e wt6 ⟨v2, rfl, ho, hb⟩
    have HO6 := Lib.hid (ho.mono HZ5.out)
    clear ho
    have HR6 := Lib.hid (HR5.out.later hb)
    have HS6 := Lib.hid (HS5.out.later hb)
    have HB6 := Lib.hid (HB5.out.trans (hb.mono HB5.out.size))
    have HZ6 := Lib.hid (Nat.le_trans HZ5.out hb.size)
    have HY6 := Lib.hid (HY5.out.later hb)
    clear hb HR5 HS5 HB5 HZ5 HY5
    refine hK _ _ (fun _ _ => hS) ?_
    clear hK
    refine till_one 5 rfl (by kernel_rfl) fun K hK => ?_
    simp only [List.getElem_toArray, List.getElem_cons_succ, List.getElem_cons_zero]
    rw [if_pos (by rfl)]
    refine wp_own_apps (.tmp 14) (.tmp 17) 100 rfl Tryz.underlying100 Tryz.infoU8 rfl (by decide) u8_len u8_one HO6.out rfl _ rfl HY6.out (by have := HL.out; simp only [List.length_cons, List.length_nil]; unfold maxLen; omega) (by have := HL.out; simp only [List.length_cons, List.length_nil]; omega) (B := w.heap.size) (w0 := w) HB6.out HW.out HZ6.out ?_
    intro v7 wt7 ho hb hg
    have HO7 := Lib.hid ho; have HB7 := Lib.hid hb; have HZ7 := Lib.hid (Nat.le_trans HZ6.out hg.size)
    have HS7 := Lib.hid (HO6.out.rdo hg HS6.out HQ.out)
    clear ho hb hg HR6 HS6 HB6 HZ6 HY6 HO6
    refine hK _ _ (fun _ _ => hS) ?_
    clear hK
    refine till_one 12 rfl (by kernel_rfl) fun K hK => ?_
    simp only [List.getElem_toArray, List.getElem_cons_succ, List.getElem_cons_zero]
    rw [if_pos (by rfl)]
    refine wp_own_apps (.tmp 18) (.tmp 24) 100 rfl Tryz.underlying100 Tryz.infoU8 rfl (by decide) u8_len u8_one HO7.out rfl _ rfl HS7.out (by have := HL.out; have := HLS.out; simp only [List.length_append, List.length_cons, List.length_nil]; unfold maxLen; omega) (by have := HL.out; have := HLS.out; simp only [List.length_append, List.length_cons, List.length_nil]; omega) (B := w.heap.size) (w0 := w) HB7.out HW.out HZ7.out ?_
    intro v8 wt8 ho hb hg
    have HO8 := Lib.hid ho; have HB8 := Lib.hid hb; have HZ8 := Lib.hid (Nat.le_trans HZ7.out hg.size)
    clear ho hb hg HO7 HB7 HZ7 HS7
    refine hK _ _ (fun _ _ => hS) ?_
    clear hK
    refine till_take 13 (some 4) rfl rfl (by kernel_rfl) (by kernel_rfl) (by kernel_rfl) (by kernel_rfl) (by kernel_rfl) (by kernel_rfl) (fun _ _ _ h => h) (.inl ⟨by rfl, fun w' _ => (by go_simp; rfl)⟩) hS ?_
    go_frame
    refine till_done (by kernel_rfl) ?_ _
    go_wp2_with fail
    go_ret
    exact ⟨_, rfl, by rw [HT.out]; have h := HO8.out; rw [List.append_assoc] at h; exact h.mono HW.out, HB8.out⟩

theorem ubytes_tk (a : Nat → Int) {n : Nat} (h : n < 32) : (ubytes a).take (n + 1) = (ubytes a).take n ++ [ub a n] := by
  rw [List.take_succ_eq_append_getElem (by rw [ubytes_length]; exact h)]
  congr 1
  simp [ubytes]
set_option maxHeartbeats 16000000 in
set_option maxRecDepth 100000 in
theorem rbyt_any {a0 a1 a2 a3 : Int} {m : Nat} (h : UIs a0 a1 a2 a3 m) (w : World) :
    Calls Tryz.prog 259 #[.agg #[.int .u64 a0, .int .u64 a1, .int .u64 a2, .int .u64 a3]] w (RowB w (amtB m)) := by
  have HM : Hid (ubytes (w4 a0 a1 a2 a3) = amtB m) := Lib.hid (ubytes_is h)
  obtain ⟨⟨p0, p0'⟩, ⟨p1, p1'⟩, ⟨p2, p2'⟩, ⟨p3, p3'⟩, _⟩ := h
  go_enter Tryz.func259, Tryz.ntmps259
  go_wp2_with fail
  obtain ⟨w1, hw1⟩ : ∃ w1, w1 = w.alloc (.cells #[.int .u64 a0, .int .u64 a1, .int .u64 a2, .int .u64 a3] 55) := ⟨_, rfl⟩
  obtain ⟨X, hX⟩ : ∃ X, X = w.heap.size := ⟨_, rfl⟩
  rw [← hw1, ← hX]
  have HX1 : Hid (w1.heap[X]? = some (.cells #[.int .u64 a0, .int .u64 a1, .int .u64 a2, .int .u64 a3] 55 (0, 0))) := Lib.hid (by rw [hw1, hX]; exact heap_alloc_new _ _)
  have HB1 : Hid (Below w.heap.size w w1) := Lib.hid (by rw [hw1]; exact (Below.refl _ _).alloc (Nat.le_refl _) _)
  have WX : Hid (w.heap.size ≤ X) := Lib.hid (by omega)
  clear hw1 hX
  go_loopw [3, 4] (fun vo vi wr => ∃ n : Nat, n ≤ 32 ∧ vi = .int .i64 (31 - (n : Int)) ∧ Hid (Own wr (X + 1) 5 u8E 1 vo ((ubytes (w4 a0 a1 a2 a3)).take n)) ∧ Hid (wr.heap[X]? = some (.cells #[.int .u64 a0, .int .u64 a1, .int .u64 a2, .int .u64 a3] 55 (0, 0))) ∧ Hid (Below w.heap.size w wr)) (fun _ vi _ => (intOf vi + 1).toNat)
  case atStart => exact ⟨0, by omega, rfl, Lib.hid (Own.nil _ _ _ _ _), HX1, HB1⟩
  case round =>
    clear HX1 HB1
    obtain ⟨n, hn, rfl, HO, HX, HB⟩ := hrel
    by_cases hlt : n < 32
    · have HLT := Lib.hid hlt
      have HTK : Hid ((ubytes (w4 a0 a1 a2 a3)).take (n + 1) = (ubytes (w4 a0 a1 a2 a3)).take n ++ [ub (w4 a0 a1 a2 a3) n]) := Lib.hid (ubytes_tk _ hlt)
      have HLEN : Hid (((ubytes (w4 a0 a1 a2 a3)).take n).length = n) := Lib.hid (by rw [List.length_take, ubytes_length]; omega)
      obtain ⟨o, ho⟩ : ∃ o, o = (ubytes (w4 a0 a1 a2 a3)).take n := ⟨_, rfl⟩
      rw [← ho] at HO HTK HLEN
      clear ho
      rcases (show n < 8 ∨ (8 ≤ n ∧ n < 16) ∨ (16 ≤ n ∧ n < 24) ∨ 24 ≤ n by omega) with hc | hc | hc | hc
      · have e1 : (31 - (n : Int)) / 8 = 3 := by omega
        have e2 : (31 - (n : Int)) % 8 = 7 - n := by omega
        have k1 : wr.cell? ⟨X, 3, none⟩ = some (.int .u64 a3) := Lib.cell_of_heap HX.out 3
        have j0 : ¬ (31 - (n : Int)) < 0 := by omega
        have HV := Lib.hid (ub_val (w4 a0 a1 a2 a3) n 0 3 (by omega) (by omega) rfl)
        go_wp2_with (at_builtin; refine own_app1 rfl _ _ _ rfl Tryz.underlying100 Tryz.infoU8 rfl (ub (w4 a0 a1 a2 a3) n) HO.out rfl rfl (congrArg (fun v => [v]) HV.out) rfl (by have := HLEN.out; have := HLT.out; unfold maxLen; omega) (by have := HLEN.out; have := HLT.out; omega) HB.out (Nat.le_trans WX.out (Nat.le_succ _)) (Nat.succ_le_of_lt (heap_lt HX.out)) (Nat.le_refl _) ?_)
        intro va w5 ho5 hb5 hg5
        have HO5 := Lib.hid ho5; have HB5 := Lib.hid hb5; have HX5 := Lib.hid (HO.out.other hg5 (Nat.lt_succ_self X) HX.out)
        clear ho5 hb5 hg5 HO HB HX k1
        go_wp2_with fail
        go_roundw
        case rel => exact ⟨n + 1, HLT.out, by go_num, by rw [HTK.out]; exact HO5, HX5, HB5⟩
        case measure => have := HLT.out; simp [intOf]; omega
      · have e1 : (31 - (n : Int)) / 8 = 2 := by omega
        have e2 : (31 - (n : Int)) % 8 = 15 - n := by omega
        have k1 : wr.cell? ⟨X, 2, none⟩ = some (.int .u64 a2) := Lib.cell_of_heap HX.out 2
        have j0 : ¬ (31 - (n : Int)) < 0 := by omega
        have HV := Lib.hid (ub_val (w4 a0 a1 a2 a3) n 1 2 (by omega) (by omega) rfl)
        go_wp2_with (at_builtin; refine own_app1 rfl _ _ _ rfl Tryz.underlying100 Tryz.infoU8 rfl (ub (w4 a0 a1 a2 a3) n) HO.out rfl rfl (congrArg (fun v => [v]) HV.out) rfl (by have := HLEN.out; have := HLT.out; unfold maxLen; omega) (by have := HLEN.out; have := HLT.out; omega) HB.out (Nat.le_trans WX.out (Nat.le_succ _)) (Nat.succ_le_of_lt (heap_lt HX.out)) (Nat.le_refl _) ?_)
        intro va w5 ho5 hb5 hg5
        have HO5 := Lib.hid ho5; have HB5 := Lib.hid hb5; have HX5 := Lib.hid (HO.out.other hg5 (Nat.lt_succ_self X) HX.out)
        clear ho5 hb5 hg5 HO HB HX k1
        go_wp2_with fail
        go_roundw
        case rel => exact ⟨n + 1, HLT.out, by go_num, by rw [HTK.out]; exact HO5, HX5, HB5⟩
        case measure => have := HLT.out; simp [intOf]; omega
      · have e1 : (31 - (n : Int)) / 8 = 1 := by omega
        have e2 : (31 - (n : Int)) % 8 = 23 - n := by omega
        have k1 : wr.cell? ⟨X, 1, none⟩ = some (.int .u64 a1) := Lib.cell_of_heap HX.out 1
        have j0 : ¬ (31 - (n : Int)) < 0 := by omega
        have HV := Lib.hid (ub_val (w4 a0 a1 a2 a3) n 2 1 (by omega) (by omega) rfl)
        go_wp2_with (at_builtin; refine own_app1 rfl _ _ _ rfl Tryz.underlying100 Tryz.infoU8 rfl (ub (w4 a0 a1 a2 a3) n) HO.out rfl rfl (congrArg (fun v => [v]) HV.out) rfl (by have := HLEN.out; have := HLT.out; unfold maxLen; omega) (by have := HLEN.out; have := HLT.out; omega) HB.out (Nat.le_trans WX.out (Nat.le_succ _)) (Nat.succ_le_of_lt (heap_lt HX.out)) (Nat.le_refl _) ?_)
        intro va w5 ho5 hb5 hg5
        have HO5 := Lib.hid ho5; have HB5 := Lib.hid hb5; have HX5 := Lib.hid (HO.out.other hg5 (Nat.lt_succ_self X) HX.out)
        clear ho5 hb5 hg5 HO HB HX k1
        go_wp2_with fail
        go_roundw
        case rel => exact ⟨n + 1, HLT.out, by go_num, by rw [HTK.out]; exact HO5, HX5, HB5⟩
        case measure => have := HLT.out; simp [intOf]; omega
      · have e1 : (31 - (n : Int)) / 8 = 0 := by omega
        have e2 : (31 - (n : Int)) % 8 = 31 - n := by omega
        have k1 : wr.cell? ⟨X, 0, none⟩ = some (.int .u64 a0) := Lib.cell_of_heap HX.out 0
        have j0 : ¬ (31 - (n : Int)) < 0 := by omega
        have HV := Lib.hid (ub_val (w4 a0 a1 a2 a3) n 3 0 (by omega) (by omega) rfl)
        go_wp2_with (at_builtin; refine own_app1 rfl _ _ _ rfl Tryz.underlying100 Tryz.infoU8 rfl (ub (w4 a0 a1 a2 a3) n) HO.out rfl rfl (congrArg (fun v => [v]) HV.out) rfl (by have := HLEN.out; have := HLT.out; unfold maxLen; omega) (by have := HLEN.out; have := HLT.out; omega) HB.out (Nat.le_trans WX.out (Nat.le_succ _)) (Nat.succ_le_of_lt (heap_lt HX.out)) (Nat.le_refl _) ?_)
        intro va w5 ho5 hb5 hg5
        have HO5 := Lib.hid ho5; have HB5 := Lib.hid hb5; have HX5 := Lib.hid (HO.out.other hg5 (Nat.lt_succ_self X) HX.out)
        clear ho5 hb5 hg5 HO HB HX k1
        go_wp2_with fail
        go_roundw
        case rel => exact ⟨n + 1, HLT.out, by go_num, by rw [HTK.out]; exact HO5, HX5, HB5⟩
        case measure => have := HLT.out; simp [intOf]; omega
    · obtain rfl : n = 32 := by omega
      have HE : Hid ((ubytes (w4 a0 a1 a2 a3)).take 32 = amtB m) := Lib.hid (by rw [List.take_of_length_le (by rw [ubytes_length]; omega)]; exact HM.out)
      go_wp2_with fail
      go_ret
      exact ⟨_, rfl, by rw [← HE.out]; exact HO.out.mono (Nat.le_trans WX.out (Nat.le_succ _)), HB.out⟩

theorem Rd.grown {β : Type} {w w' : World} {row : Option Nat} {enc2 : β → List Value} {sz2 : Nat} {u : Value} {l2 : List β} (hr : Rd w enc2 sz2 u l2) (hg : w.grownBy w' row) (hu : ∀ k, u.ownBlock = some k → row ≠ some k) : Rd w' enc2 sz2 u l2 := by
  obtain ⟨ad, cap, rfl, h1, h2, h3⟩ := hr
  refine ⟨ad, cap, rfl, h1, h2, fun hne => ?_⟩
  obtain ⟨b, off, rfl, hb', hc⟩ := h3 hne
  refine ⟨b, off, rfl, Nat.lt_of_lt_of_le hb' hg.size, fun i hi j hj => ?_⟩
  rw [World.cell?_of_block (w := w) (w' := w') (hg.block b hb' (fun e => hu b rfl e.symm))]
  exact hc i hi j hj
set_option maxHeartbeats 8000000 in
set_option maxRecDepth 100000 in
theorem ramt_any (w : World) (v : Value) (l : List UInt8) (hr : Rd w u8E 1 v l) (hlen : l.length < 1000000000) {a b c d : Int} {m : Nat} (h : UIs a b c d m) :
    Calls Tryz.prog 162 #[v, .agg #[.int .u64 a, .int .u64 b, .int .u64 c, .int .u64 d]] w (RowB w (l ++ amtT m)) := by
  have HR := Lib.hid hr; have HL := Lib.hid hlen; have H := Lib.hid h
  clear hr hlen h
  go_enter Tryz.func162, Tryz.ntmps162
  go_wp2_with fail
  obtain ⟨w1, hw1⟩ : ∃ w1, w1 = w.alloc (.cells #[.int .u64 a, .int .u64 b, .int .u64 c, .int .u64 d] 55) := ⟨_, rfl⟩
  obtain ⟨X, hX⟩ : ∃ X, X = w.heap.size := ⟨_, rfl⟩
  rw [← hw1, ← hX]
  have HB := Lib.hid (show Below w.heap.size w w1 by rw [hw1]; exact (Below.refl _ _).alloc (Nat.le_refl _) _)
  clear hw1 hX
  refine (rbyt_any H.out w1).mono ?_
  rintro e w3 ⟨va, rfl, ho, hb3⟩
  have hrd := ho.rd u8_len
  obtain ⟨ad, cap, rfl, _, _⟩ := hrd.shape
  rw [amtB_length]
  rw [amtB_length] at hrd
  have HB3 := Lib.hid (HB.out.trans (hb3.mono HB.out.size))
  have HQ3 := Lib.hid (fun q e => (ho.lt q e).2 : ∀ q, Value.ownBlock (.slice ad (amtB m).length cap) = some q → q < w3.heap.size)
  have HD := Lib.hid hrd
  clear ho hrd hb3 HB
  rw [amtB_length] at HQ3
  go_wp2_with fail
  go_loopw [6] (fun x wr => wr = w3 ∧ ∃ n : Nat, n ≤ 32 ∧ x = .int .i64 n ∧ Hid (∀ j, j < n → ∀ h : j < (amtB m).length, (amtB m)[j] = 0)) (fun x _ => 32 - (intOf x).toNat)
  case atStart => exact ⟨rfl, 0, by omega, rfl, Lib.hid fun j h => by omega⟩
  case round =>
    obtain ⟨rfl, n, hn, rfl, HJ⟩ := hrel
    by_cases hgo : ∃ h : n < (amtB m).length, (amtB m)[n] = 0
    · obtain ⟨hlt, hz⟩ := hgo
      have hn32 : n < 32 := by rw [amtB_length] at hlt; exact hlt
      obtain ⟨bb, off, rfl, _, hc⟩ := HD.out.at n hlt
      replace hc : wr.cell? ⟨bb, off + n, none⟩ = some (.int .u8 0) := by rw [hc, hz]; rfl
      have HJ2 : Hid (∀ j, j < n + 1 → ∀ h : j < (amtB m).length, (amtB m)[j] = 0) := Lib.hid fun j h1 h2 => by
        rcases (show j < n ∨ j = n by omega) with h3 | rfl
        · exact HJ.out j h3 h2
        · exact hz
      clear hz hlt HJ
      go_wp2_with fail
      go_roundw
      case rel => exact ⟨by first | rfl | trivial, n + 1, by omega, by go_num, HJ2⟩
      case measure => simp [intOf]; omega
    · have hk := sig_at (amtB m) n HJ.out (by rw [amtB_length]; exact hn) (fun h hz => hgo ⟨h, hz⟩)
      rw [amtB_length] at hk
      obtain ⟨k, hk2⟩ : ∃ k, k = (sigB (amtB m)).length := ⟨_, rfl⟩
      have hk32 : k ≤ 32 := by rw [hk2]; exact sig_le m
      rw [← hk2] at hk
      have hdk : (32 : Int) - (n : Int) = (k : Int) := by omega
      have hw32 : IntKind.i64.wrap (k : Int) = (k : Int) := IntWalk.i64_in _ (by omega)
      have HDR := HD.out
      obtain ⟨vs, hs1, hs2, hs5⟩ := HDR.from Tryz.underlying100 (sz := 1) (by kernel_rfl) n (by rw [amtB_length]; exact hn)
      have hs3 : sigB (amtB m) = (amtB m).drop n := by have := sigB_drop (amtB m); rw [amtB_length, ← hk2, hk] at this; exact this.symm
      rw [← hs3] at hs2
      obtain ⟨c0, hc0⟩ : ∃ c0, c0 = UInt8.ofNat k := ⟨_, rfl⟩
      have HC0 := Lib.hid (by rw [hc0]; exact byte_cell (by omega) (by rw [IntKind.wrap_u8]; omega) : u8E c0 = [Value.int .u8 (IntKind.u8.wrap (k : Int))])
      have HT := Lib.hid (by unfold amtT; rw [hc0, ← hk2] : amtT m = c0 :: sigB (amtB m))
      have HLS := Lib.hid (by rw [← hk2]; exact hk32 : (sigB (amtB m)).length ≤ 32)
      have HS := Lib.hid hs2; have HB := HB3
      have HQ4 := Lib.hid (fun q e => HQ3.out q (hs5 q e) : ∀ q, vs.ownBlock = some q → q < wr.heap.size)
      have hcell : (n = 32) ∨ ∃ (bb off : Nat) (x : Int), n < 32 ∧ ad = some ⟨bb, off, none⟩ ∧ wr.cell? ⟨bb, off + n, none⟩ = some (.int .u8 x) ∧ (x == 0) = false := by
        by_cases h32 : n < 32
        · right
          obtain ⟨bb, off, e, _, hc⟩ := HD.out.at n (by rw [amtB_length]; exact h32)
          refine ⟨bb, off, _, h32, e, by rw [hc]; rfl, ?_⟩
          have : (amtB m)[n]'(by rw [amtB_length]; exact h32) ≠ 0 := fun hz => hgo ⟨_, hz⟩
          have h0 : ((amtB m)[n]'(by rw [amtB_length]; exact h32)).toNat ≠ 0 := fun e => this (UInt8.toNat_inj.1 (by rw [e]; rfl))
          simp; omega
        · left; omega
      clear hk hk2 hc0 hs2 hs3 hs5 HDR HD HB3 HQ3 HJ hgo
      rcases hcell with h32 | ⟨bb, off, x, hn32, rfl, hc, hx0⟩
      · have hge : ¬ n < 32 := by omega
        clear h32
        go_wp2_with fail
        obtain ⟨wz, hwz⟩ : ∃ wz, wz = World.drew wr := ⟨_, rfl⟩
        have hbz : Below (World.heap wr).size wr wz := by rw [hwz]; exact (Below.refl _ _).drew
        have HR0 := Lib.hid (HR.out.later (HB.out.trans (hbz.mono HB.out.size)))
        have HS0 := Lib.hid (HS.out.later hbz)
        have HB0 := Lib.hid (HB.out.trans (hbz.mono HB.out.size))
        have HZ0 := Lib.hid (Nat.le_refl wz.heap.size)
        have HQ := Lib.hid (fun q e => Nat.lt_of_lt_of_le (HQ4.out q e) hbz.size : ∀ q, vs.ownBlock = some q → q < wz.heap.size)
        clear hbz HR HS HB HQ4
        have hS : True := trivial
        have HW := Lib.hid HB0.out.size
        refine wp_region_till (fun _ => True) 13 13 (by kernel_rfl) rfl ?_
        rw [← hwz]
        clear hwz
        refine till_take 1 (some 21) rfl rfl (by kernel_rfl) (by kernel_rfl) (by kernel_rfl) (by kernel_rfl) (by kernel_rfl) (by kernel_rfl) (fun _ _ _ h => h) (.inl ⟨by rfl, fun w' _ => (by go_simp; rfl)⟩) hS ?_
        go_frame
        refine till_take 3 (some 23) rfl rfl (by kernel_rfl) (by kernel_rfl) (by kernel_rfl) (by kernel_rfl) (by kernel_rfl) (by kernel_rfl) (fun _ _ _ h => h) (.inl ⟨by rfl, fun w' _ => (by go_simp; rfl)⟩) hS ?_
        go_frame
        refine till_take 4 (some 24) rfl rfl (by kernel_rfl) (by kernel_rfl) (by kernel_rfl) (by kernel_rfl) (by kernel_rfl) (by kernel_rfl) (fun _ _ _ h => h) (.inl ⟨by rfl, fun w' _ => (by go_simp; rfl)⟩) hS ?_
        go_frame
        refine till_take 5 (some 25) rfl rfl (by kernel_rfl) (by kernel_rfl) (by kernel_rfl) (by kernel_rfl) (by kernel_rfl) (by kernel_rfl) (fun _ _ _ h => h) (.inl ⟨by rfl, fun w' _ => (by go_simp; rfl)⟩) hS ?_
        go_frame
        refine till_take 8 (some 28) rfl rfl (by kernel_rfl) (by kernel_rfl) (by kernel_rfl) (by kernel_rfl) (by kernel_rfl) (by kernel_rfl) (fun _ _ _ h => h) (.inl ⟨by rfl, fun w' _ => (by go_simp; rfl)⟩) hS ?_
        go_frame
        refine till_take 9 (some 29) rfl rfl (by kernel_rfl) (by kernel_rfl) (by kernel_rfl) (by kernel_rfl) (by kernel_rfl) (by kernel_rfl) (fun _ _ _ h => h) (.inl ⟨by rfl, fun w' _ => (by go_simp; rfl)⟩) hS ?_
        go_frame
        refine till_take 10 (some 30) rfl rfl (by kernel_rfl) (by kernel_rfl) (by kernel_rfl) (by kernel_rfl) (by kernel_rfl) (by kernel_rfl) (fun _ _ _ h => h) (.inl ⟨by rfl, fun w' _ => (by go_simp; rfl)⟩) hS ?_
        go_frame
        refine till_two 0 6 rfl rfl (by kernel_rfl) (fun K hK => ?_) (fun K hK => ?_)
        · simp only [List.getElem_toArray, List.getElem_cons_zero]
          rw [if_pos (by rfl)]
          go_simp
          obtain ⟨wt1, hw⟩ : ∃ w2, w2 = World.alloc wz (.cells #[] 5) := ⟨_, rfl⟩
          obtain ⟨G, hG⟩ : ∃ G, G = (World.heap wz).size := ⟨_, rfl⟩
          rw [← hw, ← hG]
          have HO1 := Lib.hid (show Own wt1 wz.heap.size 5 u8E 1 (.slice (some ⟨G, 0, none⟩) 0 0) ([] : List UInt8) by rw [hw, hG]; exact own_mt wz _ HZ0.out)
          have hb : Below (World.heap wz).size wz wt1 := by rw [hw]; exact (Below.refl _ _).alloc (Nat.le_refl _) _
          clear hw hG
          have HR1 := Lib.hid (HR0.out.later hb)
          have HS1 := Lib.hid (HS0.out.later hb)
          have HB1 := Lib.hid (HB0.out.trans (hb.mono HB0.out.size))
          have HZ1 := Lib.hid (Nat.le_trans HZ0.out hb.size)
          clear hb HR0 HS0 HB0 HZ0
          refine hK _ _ (fun _ _ => hS) ?_
          clear hK
          refine till_two 2 6 rfl rfl (by kernel_rfl) (fun K hK => ?_) (fun K hK => ?_)
          · simp only [List.getElem_toArray, List.getElem_cons_succ, List.getElem_cons_zero]
            rw [if_pos (by rfl)]
            refine wp_own_apps (.tmp 20) (.tmp 21) 100 rfl Tryz.underlying100 Tryz.infoU8 rfl (by decide) u8_len u8_one HO1.out rfl _ rfl HR1.out (by have := HL.out; simp only [List.length_nil]; unfold maxLen; omega) (by have := HL.out; simp only [List.length_nil]; omega) (B := w.heap.size) (w0 := w) HB1.out HW.out HZ1.out ?_
            intro v2 wt2 ho hb hg
            have HO2 := Lib.hid ho; have HB2 := Lib.hid hb; have HZ2 := Lib.hid (Nat.le_trans HZ1.out hg.size)
            have HS2 := Lib.hid (HO1.out.rdo hg HS1.out HQ.out)
            clear ho hb hg HR1 HS1 HB1 HZ1 HO1
            refine hK _ _ (fun _ _ => hS) ?_
            clear hK
            refine till_one 6 rfl (by kernel_rfl) fun K hK => ?_
            simp only [List.getElem_toArray, List.getElem_cons_succ, List.getElem_cons_zero]
            rw [if_pos (by rfl)]
            go_simp
            obtain ⟨wt3, hw⟩ : ∃ w2, w2 = World.alloc wt2 (.cells #[.int .u8 (IntKind.u8.wrap (k : Int))] 5) := ⟨_, rfl⟩
            obtain ⟨Y, hY⟩ : ∃ Y, Y = (World.heap wt2).size := ⟨_, rfl⟩
            rw [← hw, ← hY]
            have HY3 := Lib.hid (show Rd wt3 u8E 1 (.slice (some ⟨Y, 0, none⟩) 1 1) [c0] by rw [hw, hY]; exact rd_new1 _ u8E u8_len 5 [c0] _ 1 rfl (by omega) (by simp [HC0.out]))
            have HP3 := Lib.hid (show Y < (World.heap wt3).size by rw [hw, hY]; simp)
            have hb : Below (World.heap wt2).size wt2 wt3 := by rw [hw]; exact (Below.refl _ _).alloc (Nat.le_refl _) _
            clear hw hY
            have HO3 := Lib.hid (HO2.out.later hb)
            have HB3 := Lib.hid (HB2.out.trans (hb.mono HB2.out.size))
            have HZ3 := Lib.hid (Nat.le_trans HZ2.out hb.size)
            have HS3 := Lib.hid (HS2.out.later hb)
            clear hb HO2 HB2 HZ2 HS2
            refine hK _ _ (fun _ _ => hS) ?_
            clear hK
            refine till_one 7 rfl (by kernel_rfl) fun K hK => ?_
            simp only [List.getElem_toArray, List.getElem_cons_succ, List.getElem_cons_zero]
            rw [if_pos (by rfl)]
            refine wp_own_apps (.tmp 22) (.tmp 26) 100 rfl Tryz.underlying100 Tryz.infoU8 rfl (by decide) u8_len u8_one HO3.out rfl _ rfl HY3.out (by have := HL.out; simp only [List.length_cons, List.length_nil, List.nil_append]; unfold maxLen; omega) (by have := HL.out; simp only [List.length_cons, List.length_nil, List.nil_append]; omega) (B := w.heap.size) (w0 := w) HB3.out HW.out HZ3.out ?_
            intro v4 wt4 ho hb hg
            have HO4 := Lib.hid ho; have HB4 := Lib.hid hb; have HZ4 := Lib.hid (Nat.le_trans HZ3.out hg.size)
            have HS4 := Lib.hid (HO3.out.rdo hg HS3.out HQ.out)
            clear ho hb hg HO3 HB3 HZ3 HS3 HY3 HP3
            refine hK _ _ (fun _ _ => hS) ?_
            clear hK
            refine till_one 11 rfl (by kernel_rfl) fun K hK => ?_
            simp only [List.getElem_toArray, List.getElem_cons_succ, List.getElem_cons_zero]
            rw [if_pos (by rfl)]
            refine wp_own_apps (.tmp 27) (.tmp 30) 100 rfl Tryz.underlying100 Tryz.infoU8 rfl (by decide) u8_len u8_one HO4.out rfl _ rfl HS4.out (by have := HL.out; have := HLS.out; simp only [List.length_append, List.length_cons, List.length_nil, List.nil_append]; unfold maxLen; omega) (by have := HL.out; have := HLS.out; simp only [List.length_append, List.length_cons, List.length_nil, List.nil_append]; omega) (B := w.heap.size) (w0 := w) HB4.out HW.out HZ4.out ?_
            intro v5 wt5 ho hb hg
            have HO5 := Lib.hid ho; have HB5 := Lib.hid hb; have HZ5 := Lib.hid (Nat.le_trans HZ4.out hg.size)
            clear ho hb hg HO4 HB4 HZ4 HS4
            refine hK _ _ (fun _ _ => hS) ?_
            clear hK
            refine till_take 12 (some 4) rfl rfl (by kernel_rfl) (by kernel_rfl) (by kernel_rfl) (by kernel_rfl) (by kernel_rfl) (by kernel_rfl) (fun _ _ _ h => h) (.inl ⟨by rfl, fun w' _ => (by go_simp; rfl)⟩) hS ?_
            go_frame
            refine till_done (by kernel_rfl) ?_ _
            go_wp2_with fail
            go_ret
            exact ⟨_, rfl, by rw [HT.out]; have h := HO5.out; rw [List.nil_append, List.append_assoc] at h; exact h.mono HW.out, HB5.out⟩
          · simp only [List.getElem_toArray, List.getElem_cons_succ, List.getElem_cons_zero]
            rw [if_pos (by rfl)]
            go_simp
            obtain ⟨wt6, hw⟩ : ∃ w2, w2 = World.alloc wt1 (.cells #[.int .u8 (IntKind.u8.wrap (k : Int))] 5) := ⟨_, rfl⟩
            obtain ⟨Y, hY⟩ : ∃ Y, Y = (World.heap wt1).size := ⟨_, rfl⟩
            rw [← hw, ← hY]
            have HY6 := Lib.hid (show Rd wt6 u8E 1 (.slice (some ⟨Y, 0, none⟩) 1 1) [c0] by rw [hw, hY]; exact rd_new1 _ u8E u8_len 5 [c0] _ 1 rfl (by omega) (by simp [HC0.out]))
            have HP6 := Lib.hid (show Y < (World.heap wt6).size by rw [hw, hY]; simp)
            have hb : Below (World.heap wt1).size wt1 wt6 := by rw [hw]; exact (Below.refl _ _).alloc (Nat.le_refl _) _
            have HN : Hid (Y ≠ G) := Lib.hid (by have := (HO1.out.lt G rfl).2; omega)
            clear hw hY
            have HR6 := Lib.hid (HR1.out.later hb)
            have HS6 := Lib.hid (HS1.out.later hb)
            have HB6 := Lib.hid (HB1.out.trans (hb.mono HB1.out.size))
            have HZ6 := Lib.hid (Nat.le_trans HZ1.out hb.size)
            have HO6 := Lib.hid (HO1.out.later hb)
            clear hb HR1 HS1 HB1 HZ1 HO1
            refine hK _ _ (fun _ _ => hS) ?_
            clear hK
            refine till_one 2 rfl (by kernel_rfl) fun K hK => ?_
            simp only [List.getElem_toArray, List.getElem_cons_succ, List.getElem_cons_zero]
            rw [if_pos (by rfl)]
            refine wp_own_apps (.tmp 20) (.tmp 21) 100 rfl Tryz.underlying100 Tryz.infoU8 rfl (by decide) u8_len u8_one HO6.out rfl _ rfl HR6.out (by have := HL.out; simp only [List.length_nil]; unfold maxLen; omega) (by have := HL.out; simp only [List.length_nil]; omega) (B := w.heap.size) (w0 := w) HB6.out HW.out HZ6.out ?_
            intro v7 wt7 ho hb hg
            have HO7 := Lib.hid ho; have HB7 := Lib.hid hb; have HZ7 := Lib.hid (Nat.le_trans HZ6.out hg.size)
            have HS7 := Lib.hid (HO6.out.rdo hg HS6.out HQ.out)
            have HY7 := Lib.hid (HY6.out.grown hg (fun q e => by cases e; intro e2; cases e2; exact HN.out rfl))
            have HP7 := Lib.hid (Nat.lt_of_lt_of_le HP6.out hg.size)
            clear ho hb hg HR6 HS6 HB6 HZ6 HO6 HY6 HP6 HN
            refine hK _ _ (fun _ _ => hS) ?_
            clear hK
            refine till_one 7 rfl (by kernel_rfl) fun K hK => ?_
            simp only [List.getElem_toArray, List.getElem_cons_succ, List.getElem_cons_zero]
            rw [if_pos (by rfl)]
            refine wp_own_apps (.tmp 22) (.tmp 26) 100 rfl Tryz.underlying100 Tryz.infoU8 rfl (by decide) u8_len u8_one HO7.out rfl _ rfl HY7.out (by have := HL.out; simp only [List.length_cons, List.length_nil, List.nil_append]; unfold maxLen; omega) (by have := HL.out; simp only [List.length_cons, List.length_nil, List.nil_append]; omega) (B := w.heap.size) (w0 := w) HB7.out HW.out HZ7.out ?_
            intro v8 wt8 ho hb hg
            have HO8 := Lib.hid ho; have HB8 := Lib.hid hb; have HZ8 := Lib.hid (Nat.le_trans HZ7.out hg.size)
            have HS8 := Lib.hid (HO7.out.rdo hg HS7.out HQ.out)
            clear ho hb hg HO7 HB7 HZ7 HS7 HY7 HP7
            refine hK _ _ (fun _ _ => hS) ?_
            clear hK
            refine till_one 11 rfl (by kernel_rfl) fun K hK => ?_
            simp only [List.getElem_toArray, List.getElem_cons_succ, List.getElem_cons_zero]
            rw [if_pos (by rfl)]
            refine wp_own_apps (.tmp 27) (.tmp 30) 100 rfl Tryz.underlying100 Tryz.infoU8 rfl (by decide) u8_len u8_one HO8.out rfl _ rfl HS8.out (by have := HL.out; have := HLS.out; simp only [List.length_append, List.length_cons, List.length_nil, List.nil_append]; unfold maxLen; omega) (by have := HL.out; have := HLS.out; simp only [List.length_append, List.length_cons, List.length_nil, List.nil_append]; omega) (B := w.heap.size) (w0 := w) HB8.out HW.out HZ8.out ?_
            intro v9 wt9 ho hb hg
            have HO9 := Lib.hid ho; have HB9 := Lib.hid hb; have HZ9 := Lib.hid (Nat.le_trans HZ8.out hg.size)
            clear ho hb hg HO8 HB8 HZ8 HS8
            refine hK _ _ (fun _ _ => hS) ?_
            clear hK
            refine till_take 12 (some 4) rfl rfl (by kernel_rfl) (by kernel_rfl) (by kernel_rfl) (by kernel_rfl) (by kernel_rfl) (by kernel_rfl) (fun _ _ _ h => h) (.inl ⟨by rfl, fun w' _ => (by go_simp; rfl)⟩) hS ?_
            go_frame
            refine till_done (by kernel_rfl) ?_ _
            go_wp2_with fail
            go_ret
            exact ⟨_, rfl, by rw [HT.out]; have h := HO9.out; rw [List.nil_append, List.append_assoc] at h; exact h.mono HW.out, HB9.out⟩
        · simp only [List.getElem_toArray, List.getElem_cons_succ, List.getElem_cons_zero]
          rw [if_pos (by rfl)]
          go_simp
          obtain ⟨wt10, hw⟩ : ∃ w2, w2 = World.alloc wz (.cells #[.int .u8 (IntKind.u8.wrap (k : Int))] 5) := ⟨_, rfl⟩
          obtain ⟨Y, hY⟩ : ∃ Y, Y = (World.heap wz).size := ⟨_, rfl⟩
          rw [← hw, ← hY]
          have HY10 := Lib.hid (show Rd wt10 u8E 1 (.slice (some ⟨Y, 0, none⟩) 1 1) [c0] by rw [hw, hY]; exact rd_new1 _ u8E u8_len 5 [c0] _ 1 rfl (by omega) (by simp [HC0.out]))
          have HP10 := Lib.hid (show Y < (World.heap wt10).size by rw [hw, hY]; simp)
          have hb : Below (World.heap wz).size wz wt10 := by rw [hw]; exact (Below.refl _ _).alloc (Nat.le_refl _) _
          clear hw hY
          have HR10 := Lib.hid (HR0.out.later hb)
          have HS10 := Lib.hid (HS0.out.later hb)
          have HB10 := Lib.hid (HB0.out.trans (hb.mono HB0.out.size))
          have HZ10 := Lib.hid (Nat.le_trans HZ0.out hb.size)
          clear hb HR0 HS0 HB0 HZ0
          refine hK _ _ (fun _ _ => hS) ?_
          clear hK
          refine till_one 0 rfl (by kernel_rfl) fun K hK => ?_
          simp only [List.getElem_toArray, List.getElem_cons_zero]
          rw [if_pos (by rfl)]
          go_simp
          obtain ⟨wt11, hw⟩ : ∃ w2, w2 = World.alloc wt10 (.cells #[] 5) := ⟨_, rfl⟩
          obtain ⟨G, hG⟩ : ∃ G, G = (World.heap wt10).size := ⟨_, rfl⟩
          rw [← hw, ← hG]
          have HO11 := Lib.hid (show Own wt11 wz.heap.size 5 u8E 1 (.slice (some ⟨G, 0, none⟩) 0 0) ([] : List UInt8) by rw [hw, hG]; exact own_mt wt10 _ HZ10.out)
          have hb : Below (World.heap wt10).size wt10 wt11 := by rw [hw]; exact (Below.refl _ _).alloc (Nat.le_refl _) _
          have HN : Hid (Y ≠ G) := Lib.hid (by have := HP10.out; omega)
          clear hw hG
          have HR11 := Lib.hid (HR10.out.later hb)
          have HS11 := Lib.hid (HS10.out.later hb)
          have HB11 := Lib.hid (HB10.out.trans (hb.mono HB10.out.size))
          have HZ11 := Lib.hid (Nat.le_trans HZ10.out hb.size)
          have HY11 := Lib.hid (HY10.out.later hb)
          have HP11 := Lib.hid (Nat.lt_of_lt_of_le HP10.out hb.size)
          clear hb HR10 HS10 HB10 HZ10 HY10 HP10
          refine hK _ _ (fun _ _ => hS) ?_
          clear hK
          refine till_one 2 rfl (by kernel_rfl) fun K hK => ?_
          simp only [List.getElem_toArray, List.getElem_cons_succ, List.getElem_cons_zero]
          rw [if_pos (by rfl)]
          refine wp_own_apps (.tmp 20) (.tmp 21) 100 rfl Tryz.underlying100 Tryz.infoU8 rfl (by decide) u8_len u8_one HO11.out rfl _ rfl HR11.out (by have := HL.out; simp only [List.length_nil]; unfold maxLen; omega) (by have := HL.out; simp only [List.length_nil]; omega) (B := w.heap.size) (w0 := w) HB11.out HW.out HZ11.out ?_
          intro v12 wt12 ho hb hg
          have HO12 := Lib.hid ho; have HB12 := Lib.hid hb; have HZ12 := Lib.hid (Nat.le_trans HZ11.out hg.size)
          have HS12 := Lib.hid (HO11.out.rdo hg HS11.out HQ.out)
          have HY12 := Lib.hid (HY11.out.grown hg (fun q e => by cases e; intro e2; cases e2; exact HN.out rfl))
          have HP12 := Lib.hid (Nat.lt_of_lt_of_le HP11.out hg.size)
          clear ho hb hg HR11 HS11 HB11 HZ11 HY11 HP11 HO11 HN
          refine hK _ _ (fun _ _ => hS) ?_
          clear hK
          refine till_one 7 rfl (by kernel_rfl) fun K hK => ?_
          simp only [List.getElem_toArray, List.getElem_cons_succ, List.getElem_cons_zero]
          rw [if_pos (by rfl)]
          refine wp_own_apps (.tmp 22) (.tmp 26) 100 rfl Tryz.underlying100 Tryz.infoU8 rfl (by decide) u8_len u8_one HO12.out rfl _ rfl HY12.out (by have := HL.out; simp only [List.length_cons, List.length_nil, List.nil_append]; unfold maxLen; omega) (by have := HL.out; simp only [List.length_cons, List.length_nil, List.nil_append]; omega) (B := w.heap.size) (w0 := w) HB12.out HW.out HZ12.out ?_
          intro v13 wt13 ho hb hg
          have HO13 := Lib.hid ho; have HB13 := Lib.hid hb; have HZ13 := Lib.hid (Nat.le_trans HZ12.out hg.size)
          have HS13 := Lib.hid (HO12.out.rdo hg HS12.out HQ.out)
          clear ho hb hg HO12 HB12 HZ12 HS12 HY12 HP12
          refine hK _ _ (fun _ _ => hS) ?_
          clear hK
          refine till_one 11 rfl (by kernel_rfl) fun K hK => ?_
          simp only [List.getElem_toArray, List.getElem_cons_succ, List.getElem_cons_zero]
          rw [if_pos (by rfl)]
          refine wp_own_apps (.tmp 27) (.tmp 30) 100 rfl Tryz.underlying100 Tryz.infoU8 rfl (by decide) u8_len u8_one HO13.out rfl _ rfl HS13.out (by have := HL.out; have := HLS.out; simp only [List.length_append, List.length_cons, List.length_nil, List.nil_append]; unfold maxLen; omega) (by have := HL.out; have := HLS.out; simp only [List.length_append, List.length_cons, List.length_nil, List.nil_append]; omega) (B := w.heap.size) (w0 := w) HB13.out HW.out HZ13.out ?_
          intro v14 wt14 ho hb hg
          have HO14 := Lib.hid ho; have HB14 := Lib.hid hb; have HZ14 := Lib.hid (Nat.le_trans HZ13.out hg.size)
          clear ho hb hg HO13 HB13 HZ13 HS13
          refine hK _ _ (fun _ _ => hS) ?_
          clear hK
          refine till_take 12 (some 4) rfl rfl (by kernel_rfl) (by kernel_rfl) (by kernel_rfl) (by kernel_rfl) (by kernel_rfl) (by kernel_rfl) (fun _ _ _ h => h) (.inl ⟨by rfl, fun w' _ => (by go_simp; rfl)⟩) hS ?_
          go_frame
          refine till_done (by kernel_rfl) ?_ _
          go_wp2_with fail
          go_ret
          exact ⟨_, rfl, by rw [HT.out]; have h := HO14.out; rw [List.nil_append, List.append_assoc] at h; exact h.mono HW.out, HB14.out⟩
      · go_wp2_with fail
        obtain ⟨wz, hwz⟩ : ∃ wz, wz = World.drew wr := ⟨_, rfl⟩
        have hbz : Below (World.heap wr).size wr wz := by rw [hwz]; exact (Below.refl _ _).drew
        have HR0 := Lib.hid (HR.out.later (HB.out.trans (hbz.mono HB.out.size)))
        have HS0 := Lib.hid (HS.out.later hbz)
        have HB0 := Lib.hid (HB.out.trans (hbz.mono HB.out.size))
        have HZ0 := Lib.hid (Nat.le_refl wz.heap.size)
        have HQ := Lib.hid (fun q e => Nat.lt_of_lt_of_le (HQ4.out q e) hbz.size : ∀ q, vs.ownBlock = some q → q < wz.heap.size)
        clear hbz HR HS HB HQ4
        have hS : True := trivial
        have HW := Lib.hid HB0.out.size
        refine wp_region_till (fun _ => True) 13 13 (by kernel_rfl) rfl ?_
        rw [← hwz]
        clear hwz
        refine till_take 1 (some 21) rfl rfl (by kernel_rfl) (by kernel_rfl) (by kernel_rfl) (by kernel_rfl) (by kernel_rfl) (by kernel_rfl) (fun _ _ _ h => h) (.inl ⟨by rfl, fun w' _ => (by go_simp; rfl)⟩) hS ?_
        go_frame
        refine till_take 3 (some 23) rfl rfl (by kernel_rfl) (by kernel_rfl) (by kernel_rfl) (by kernel_rfl) (by kernel_rfl) (by kernel_rfl) (fun _ _ _ h => h) (.inl ⟨by rfl, fun w' _ => (by go_simp; rfl)⟩) hS ?_
        go_frame
        refine till_take 4 (some 24) rfl rfl (by kernel_rfl) (by kernel_rfl) (by kernel_rfl) (by kernel_rfl) (by kernel_rfl) (by kernel_rfl) (fun _ _ _ h => h) (.inl ⟨by rfl, fun w' _ => (by go_simp; rfl)⟩) hS ?_
        go_frame
        refine till_take 5 (some 25) rfl rfl (by kernel_rfl) (by kernel_rfl) (by kernel_rfl) (by kernel_rfl) (by kernel_rfl) (by kernel_rfl) (fun _ _ _ h => h) (.inl ⟨by rfl, fun w' _ => (by go_simp; rfl)⟩) hS ?_
        go_frame
        refine till_take 8 (some 28) rfl rfl (by kernel_rfl) (by kernel_rfl) (by kernel_rfl) (by kernel_rfl) (by kernel_rfl) (by kernel_rfl) (fun _ _ _ h => h) (.inl ⟨by rfl, fun w' _ => (by go_simp; rfl)⟩) hS ?_
        go_frame
        refine till_take 9 (some 29) rfl rfl (by kernel_rfl) (by kernel_rfl) (by kernel_rfl) (by kernel_rfl) (by kernel_rfl) (by kernel_rfl) (fun _ _ _ h => h) (.inl ⟨by rfl, fun w' _ => (by go_simp; rfl)⟩) hS ?_
        go_frame
        refine till_take 10 (some 30) rfl rfl (by kernel_rfl) (by kernel_rfl) (by kernel_rfl) (by kernel_rfl) (by kernel_rfl) (by kernel_rfl) (fun _ _ _ h => h) (.inl ⟨by rfl, fun w' _ => (by go_simp; rfl)⟩) hS ?_
        go_frame
        refine till_two 0 6 rfl rfl (by kernel_rfl) (fun K hK => ?_) (fun K hK => ?_)
        · simp only [List.getElem_toArray, List.getElem_cons_zero]
          rw [if_pos (by rfl)]
          go_simp
          obtain ⟨wt1, hw⟩ : ∃ w2, w2 = World.alloc wz (.cells #[] 5) := ⟨_, rfl⟩
          obtain ⟨G, hG⟩ : ∃ G, G = (World.heap wz).size := ⟨_, rfl⟩
          rw [← hw, ← hG]
          have HO1 := Lib.hid (show Own wt1 wz.heap.size 5 u8E 1 (.slice (some ⟨G, 0, none⟩) 0 0) ([] : List UInt8) by rw [hw, hG]; exact own_mt wz _ HZ0.out)
          have hb : Below (World.heap wz).size wz wt1 := by rw [hw]; exact (Below.refl _ _).alloc (Nat.le_refl _) _
          clear hw hG
          have HR1 := Lib.hid (HR0.out.later hb)
          have HS1 := Lib.hid (HS0.out.later hb)
          have HB1 := Lib.hid (HB0.out.trans (hb.mono HB0.out.size))
          have HZ1 := Lib.hid (Nat.le_trans HZ0.out hb.size)
          clear hb HR0 HS0 HB0 HZ0
          refine hK _ _ (fun _ _ => hS) ?_
          clear hK
          refine till_two 2 6 rfl rfl (by kernel_rfl) (fun K hK => ?_) (fun K hK => ?_)
          · simp only [List.getElem_toArray, List.getElem_cons_succ, List.getElem_cons_zero]
            rw [if_pos (by rfl)]
            refine wp_own_apps (.tmp 20) (.tmp 21) 100 rfl Tryz.underlying100 Tryz.infoU8 rfl (by decide) u8_len u8_one HO1.out rfl _ rfl HR1.out (by have := HL.out; simp only [List.length_nil]; unfold maxLen; omega) (by have := HL.out; simp only [List.length_nil]; omega) (B := w.heap.size) (w0 := w) HB1.out HW.out HZ1.out ?_
            intro v2 wt2 ho hb hg
            have HO2 := Lib.hid ho; have HB2 := Lib.hid hb; have HZ2 := Lib.hid (Nat.le_trans HZ1.out hg.size)
            have HS2 := Lib.hid (HO1.out.rdo hg HS1.out HQ.out)
            clear ho hb hg HR1 HS1 HB1 HZ1 HO1
            refine hK _ _ (fun _ _ => hS) ?_
            clear hK
            refine till_one 6 rfl (by kernel_rfl) fun K hK => ?_
            simp only [List.getElem_toArray, List.getElem_cons_succ, List.getElem_cons_zero]
            rw [if_pos (by rfl)]
            go_simp
            obtain ⟨wt3, hw⟩ : ∃ w2, w2 = World.alloc wt2 (.cells #[.int .u8 (IntKind.u8.wrap (k : Int))] 5) := ⟨_, rfl⟩
            obtain ⟨Y, hY⟩ : ∃ Y, Y = (World.heap wt2).size := ⟨_, rfl⟩
            rw [← hw, ← hY]
            have HY3 := Lib.hid (show Rd wt3 u8E 1 (.slice (some ⟨Y, 0, none⟩) 1 1) [c0] by rw [hw, hY]; exact rd_new1 _ u8E u8_len 5 [c0] _ 1 rfl (by omega) (by simp [HC0.out]))
            have HP3 := Lib.hid (show Y < (World.heap wt3).size by rw [hw, hY]; simp)
            have hb : Below (World.heap wt2).size wt2 wt3 := by rw [hw]; exact (Below.refl _ _).alloc (Nat.le_refl _) _
            clear hw hY
            have HO3 := Lib.hid (HO2.out.later hb)
            have HB3 := Lib.hid (HB2.out.trans (hb.mono HB2.out.size))
            have HZ3 := Lib.hid (Nat.le_trans HZ2.out hb.size)
            have HS3 := Lib.hid (HS2.out.later hb)
            clear hb HO2 HB2 HZ2 HS2
            refine hK _ _ (fun _ _ => hS) ?_
            clear hK
            refine till_one 7 rfl (by kernel_rfl) fun K hK => ?_
            simp only [List.getElem_toArray, List.getElem_cons_succ, List.getElem_cons_zero]
            rw [if_pos (by rfl)]
            refine wp_own_apps (.tmp 22) (.tmp 26) 100 rfl Tryz.underlying100 Tryz.infoU8 rfl (by decide) u8_len u8_one HO3.out rfl _ rfl HY3.out (by have := HL.out; simp only [List.length_cons, List.length_nil, List.nil_append]; unfold maxLen; omega) (by have := HL.out; simp only [List.length_cons, List.length_nil, List.nil_append]; omega) (B := w.heap.size) (w0 := w) HB3.out HW.out HZ3.out ?_
            intro v4 wt4 ho hb hg
            have HO4 := Lib.hid ho; have HB4 := Lib.hid hb; have HZ4 := Lib.hid (Nat.le_trans HZ3.out hg.size)
            have HS4 := Lib.hid (HO3.out.rdo hg HS3.out HQ.out)
            clear ho hb hg HO3 HB3 HZ3 HS3 HY3 HP3
            refine hK _ _ (fun _ _ => hS) ?_
            clear hK
            refine till_one 11 rfl (by kernel_rfl) fun K hK => ?_
            simp only [List.getElem_toArray, List.getElem_cons_succ, List.getElem_cons_zero]
            rw [if_pos (by rfl)]
            refine wp_own_apps (.tmp 27) (.tmp 30) 100 rfl Tryz.underlying100 Tryz.infoU8 rfl (by decide) u8_len u8_one HO4.out rfl _ rfl HS4.out (by have := HL.out; have := HLS.out; simp only [List.length_append, List.length_cons, List.length_nil, List.nil_append]; unfold maxLen; omega) (by have := HL.out; have := HLS.out; simp only [List.length_append, List.length_cons, List.length_nil, List.nil_append]; omega) (B := w.heap.size) (w0 := w) HB4.out HW.out HZ4.out ?_
            intro v5 wt5 ho hb hg
            have HO5 := Lib.hid ho; have HB5 := Lib.hid hb; have HZ5 := Lib.hid (Nat.le_trans HZ4.out hg.size)
            clear ho hb hg HO4 HB4 HZ4 HS4
            refine hK _ _ (fun _ _ => hS) ?_
            clear hK
            refine till_take 12 (some 4) rfl rfl (by kernel_rfl) (by kernel_rfl) (by kernel_rfl) (by kernel_rfl) (by kernel_rfl) (by kernel_rfl) (fun _ _ _ h => h) (.inl ⟨by rfl, fun w' _ => (by go_simp; rfl)⟩) hS ?_
            go_frame
            refine till_done (by kernel_rfl) ?_ _
            go_wp2_with fail
            go_ret
            exact ⟨_, rfl, by rw [HT.out]; have h := HO5.out; rw [List.nil_append, List.append_assoc] at h; exact h.mono HW.out, HB5.out⟩
          · simp only [List.getElem_toArray, List.getElem_cons_succ, List.getElem_cons_zero]
            rw [if_pos (by rfl)]
            go_simp
            obtain ⟨wt6, hw⟩ : ∃ w2, w2 = World.alloc wt1 (.cells #[.int .u8 (IntKind.u8.wrap (k : Int))] 5) := ⟨_, rfl⟩
            obtain ⟨Y, hY⟩ : ∃ Y, Y = (World.heap wt1).size := ⟨_, rfl⟩
            rw [← hw, ← hY]
            have HY6 := Lib.hid (show Rd wt6 u8E 1 (.slice (some ⟨Y, 0, none⟩) 1 1) [c0] by rw [hw, hY]; exact rd_new1 _ u8E u8_len 5 [c0] _ 1 rfl (by omega) (by simp [HC0.out]))
            have HP6 := Lib.hid (show Y < (World.heap wt6).size by rw [hw, hY]; simp)
            have hb : Below (World.heap wt1).size wt1 wt6 := by rw [hw]; exact (Below.refl _ _).alloc (Nat.le_refl _) _
            have HN : Hid (Y ≠ G) := Lib.hid (by have := (HO1.out.lt G rfl).2; omega)
            clear hw hY
            have HR6 := Lib.hid (HR1.out.later hb)
            have HS6 := Lib.hid (HS1.out.later hb)
            have HB6 := Lib.hid (HB1.out.trans (hb.mono HB1.out.size))
            have HZ6 := Lib.hid (Nat.le_trans HZ1.out hb.size)
            have HO6 := Lib.hid (HO1.out.later hb)
            clear hb HR1 HS1 HB1 HZ1 HO1
            refine hK _ _ (fun _ _ => hS) ?_
            clear hK
            refine till_one 2 rfl (by kernel_rfl) fun K hK => ?_
            simp only [List.getElem_toArray, List.getElem_cons_succ, List.getElem_cons_zero]
            rw [if_pos (by rfl)]
            refine wp_own_apps (.tmp 20) (.tmp 21) 100 rfl Tryz.underlying100 Tryz.infoU8 rfl (by decide) u8_len u8_one HO6.out rfl _ rfl HR6.out (by have := HL.out; simp only [List.length_nil]; unfold maxLen; omega) (by have := HL.out; simp only [List.length_nil]; omega) (B := w.heap.size) (w0 := w) HB6.out HW.out HZ6.out ?_
            intro v7 wt7 ho hb hg
            have HO7 := Lib.hid ho; have HB7 := Lib.hid hb; have HZ7 := Lib.hid (Nat.le_trans HZ6.out hg.size)
            have HS7 := Lib.hid (HO6.out.rdo hg HS6.out HQ.out)
            have HY7 := Lib.hid (HY6.out.grown hg (fun q e => by cases e; intro e2; cases e2; exact HN.out rfl))
            have HP7 := Lib.hid (Nat.lt_of_lt_of_le HP6.out hg.size)
            clear ho hb hg HR6 HS6 HB6 HZ6 HO6 HY6 HP6 HN
            refine hK _ _ (fun _ _ => hS) ?_
            clear hK
            refine till_one 7 rfl (by kernel_rfl) fun K hK => ?_
            simp only [List.getElem_toArray, List.getElem_cons_succ, List.getElem_cons_zero]
            rw [if_pos (by rfl)]
            refine wp_own_apps (.tmp 22) (.tmp 26) 100 rfl Tryz.underlying100 Tryz.infoU8 rfl (by decide) u8_len u8_one HO7.out rfl _ rfl HY7.out (by have := HL.out; simp only [List.length_cons, List.length_nil, List.nil_append]; unfold maxLen; omega) (by have := HL.out; simp only [List.length_cons, List.length_nil, List.nil_append]; omega) (B := w.heap.size) (w0 := w) HB7.out HW.out HZ7.out ?_
            intro v8 wt8 ho hb hg
            have HO8 := Lib.hid ho; have HB8 := Lib.hid hb; have HZ8 := Lib.hid (Nat.le_trans HZ7.out hg.size)
            have HS8 := Lib.hid (HO7.out.rdo hg HS7.out HQ.out)
            clear ho hb hg HO7 HB7 HZ7 HS7 HY7 HP7
            refine hK _ _ (fun _ _ => hS) ?_
            clear hK
            refine till_one 11 rfl (by kernel_rfl) fun K hK => ?_
            simp only [List.getElem_toArray, List.getElem_cons_succ, List.getElem_cons_zero]
            rw [if_pos (by rfl)]
            refine wp_own_apps (.tmp 27) (.tmp 30) 100 rfl Tryz.underlying100 Tryz.infoU8 rfl (by decide) u8_len u8_one HO8.out rfl _ rfl HS8.out (by have := HL.out; have := HLS.out; simp only [List.length_append, List.length_cons, List.length_nil, List.nil_append]; unfold maxLen; omega) (by have := HL.out; have := HLS.out; simp only [List.length_append, List.length_cons, List.length_nil, List.nil_append]; omega) (B := w.heap.size) (w0 := w) HB8.out HW.out HZ8.out ?_
            intro v9 wt9 ho hb hg
            have HO9 := Lib.hid ho; have HB9 := Lib.hid hb; have HZ9 := Lib.hid (Nat.le_trans HZ8.out hg.size)
            clear ho hb hg HO8 HB8 HZ8 HS8
            refine hK _ _ (fun _ _ => hS) ?_
            clear hK
            refine till_take 12 (some 4) rfl rfl (by kernel_rfl) (by kernel_rfl) (by kernel_rfl) (by kernel_rfl) (by kernel_rfl) (by kernel_rfl) (fun _ _ _ h => h) (.inl ⟨by rfl, fun w' _ => (by go_simp; rfl)⟩) hS ?_
            go_frame
            refine till_done (by kernel_rfl) ?_ _
            go_wp2_with fail
            go_ret
            exact ⟨_, rfl, by rw [HT.out]; have h := HO9.out; rw [List.nil_append, List.append_assoc] at h; exact h.mono HW.out, HB9.out⟩
        · simp only [List.getElem_toArray, List.getElem_cons_succ, List.getElem_cons_zero]
          rw [if_pos (by rfl)]
          go_simp
          obtain ⟨wt10, hw⟩ : ∃ w2, w2 = World.alloc wz (.cells #[.int .u8 (IntKind.u8.wrap (k : Int))] 5) := ⟨_, rfl⟩
          obtain ⟨Y, hY⟩ : ∃ Y, Y = (World.heap wz).size := ⟨_, rfl⟩
          rw [← hw, ← hY]
          have HY10 := Lib.hid (show Rd wt10 u8E 1 (.slice (some ⟨Y, 0, none⟩) 1 1) [c0] by rw [hw, hY]; exact rd_new1 _ u8E u8_len 5 [c0] _ 1 rfl (by omega) (by simp [HC0.out]))
          have HP10 := Lib.hid (show Y < (World.heap wt10).size by rw [hw, hY]; simp)
          have hb : Below (World.heap wz).size wz wt10 := by rw [hw]; exact (Below.refl _ _).alloc (Nat.le_refl _) _
          clear hw hY
          have HR10 := Lib.hid (HR0.out.later hb)
          have HS10 := Lib.hid (HS0.out.later hb)
          have HB10 := Lib.hid (HB0.out.trans (hb.mono HB0.out.size))
          have HZ10 := Lib.hid (Nat.le_trans HZ0.out hb.size)
          clear hb HR0 HS0 HB0 HZ0
          refine hK _ _ (fun _ _ => hS) ?_
          clear hK
          refine till_one 0 rfl (by kernel_rfl) fun K hK => ?_
          simp only [List.getElem_toArray, List.getElem_cons_zero]
          rw [if_pos (by rfl)]
          go_simp
          obtain ⟨wt11, hw⟩ : ∃ w2, w2 = World.alloc wt10 (.cells #[] 5) := ⟨_, rfl⟩
          obtain ⟨G, hG⟩ : ∃ G, G = (World.heap wt10).size := ⟨_, rfl⟩
          rw [← hw, ← hG]
          have HO11 := Lib.hid (show Own wt11 wz.heap.size 5 u8E 1 (.slice (some ⟨G, 0, none⟩) 0 0) ([] : List UInt8) by rw [hw, hG]; exact own_mt wt10 _ HZ10.out)
          have hb : Below (World.heap wt10).size wt10 wt11 := by rw [hw]; exact (Below.refl _ _).alloc (Nat.le_refl _) _
          have HN : Hid (Y ≠ G) := Lib.hid (by have := HP10.out; omega)
          clear hw hG
          have HR11 := Lib.hid (HR10.out.later hb)
          have HS11 := Lib.hid (HS10.out.later hb)
          have HB11 := Lib.hid (HB10.out.trans (hb.mono HB10.out.size))
          have HZ11 := Lib.hid (Nat.le_trans HZ10.out hb.size)
          have HY11 := Lib.hid (HY10.out.later hb)
          have HP11 := Lib.hid (Nat.lt_of_lt_of_le HP10.out hb.size)
          clear hb HR10 HS10 HB10 HZ10 HY10 HP10
          refine hK _ _ (fun _ _ => hS) ?_
          clear hK
          refine till_one 2 rfl (by kernel_rfl) fun K hK => ?_
          simp only [List.getElem_toArray, List.getElem_cons_succ, List.getElem_cons_zero]
          rw [if_pos (by rfl)]
          refine wp_own_apps (.tmp 20) (.tmp 21) 100 rfl Tryz.underlying100 Tryz.infoU8 rfl (by decide) u8_len u8_one HO11.out rfl _ rfl HR11.out (by have := HL.out; simp only [List.length_nil]; unfold maxLen; omega) (by have := HL.out; simp only [List.length_nil]; omega) (B := w.heap.size) (w0 := w) HB11.out HW.out HZ11.out ?_
          intro v12 wt12 ho hb hg
          have HO12 := Lib.hid ho; have HB12 := Lib.hid hb; have HZ12 := Lib.hid (Nat.le_trans HZ11.out hg.size)
          have HS12 := Lib.hid (HO11.out.rdo hg HS11.out HQ.out)
          have HY12 := Lib.hid (HY11.out.grown hg (fun q e => by cases e; intro e2; cases e2; exact HN.out rfl))
          have HP12 := Lib.hid (Nat.lt_of_lt_of_le HP11.out hg.size)
          clear ho hb hg HR11 HS11 HB11 HZ11 HY11 HP11 HO11 HN
          refine hK _ _ (fun _ _ => hS) ?_
          clear hK
          refine till_one 7 rfl (by kernel_rfl) fun K hK => ?_
          simp only [List.getElem_toArray, List.getElem_cons_succ, List.getElem_cons_zero]
          rw [if_pos (by rfl)]
          refine wp_own_apps (.tmp 22) (.tmp 26) 100 rfl Tryz.underlying100 Tryz.infoU8 rfl (by decide) u8_len u8_one HO12.out rfl _ rfl HY12.out (by have := HL.out; simp only [List.length_cons, List.length_nil, List.nil_append]; unfold maxLen; omega) (by have := HL.out; simp only [List.length_cons, List.length_nil, List.nil_append]; omega) (B := w.heap.size) (w0 := w) HB12.out HW.out HZ12.out ?_
          intro v13 wt13 ho hb hg
          have HO13 := Lib.hid ho; have HB13 := Lib.hid hb; have HZ13 := Lib.hid (Nat.le_trans HZ12.out hg.size)
          have HS13 := Lib.hid (HO12.out.rdo hg HS12.out HQ.out)
          clear ho hb hg HO12 HB12 HZ12 HS12 HY12 HP12
          refine hK _ _ (fun _ _ => hS) ?_
          clear hK
          refine till_one 11 rfl (by kernel_rfl) fun K hK => ?_
          simp only [List.getElem_toArray, List.getElem_cons_succ, List.getElem_cons_zero]
          rw [if_pos (by rfl)]
          refine wp_own_apps (.tmp 27) (.tmp 30) 100 rfl Tryz.underlying100 Tryz.infoU8 rfl (by decide) u8_len u8_one HO13.out rfl _ rfl HS13.out (by have := HL.out; have := HLS.out; simp only [List.length_append, List.length_cons, List.length_nil, List.nil_append]; unfold maxLen; omega) (by have := HL.out; have := HLS.out; simp only [List.length_append, List.length_cons, List.length_nil, List.nil_append]; omega) (B := w.heap.size) (w0 := w) HB13.out HW.out HZ13.out ?_
          intro v14 wt14 ho hb hg
          have HO14 := Lib.hid ho; have HB14 := Lib.hid hb; have HZ14 := Lib.hid (Nat.le_trans HZ13.out hg.size)
          clear ho hb hg HO13 HB13 HZ13 HS13
          refine hK _ _ (fun _ _ => hS) ?_
          clear hK
          refine till_take 12 (some 4) rfl rfl (by kernel_rfl) (by kernel_rfl) (by kernel_rfl) (by kernel_rfl) (by kernel_rfl) (by kernel_rfl) (fun _ _ _ h => h) (.inl ⟨by rfl, fun w' _ => (by go_simp; rfl)⟩) hS ?_
          go_frame
          refine till_done (by kernel_rfl) ?_ _
          go_wp2_with fail
          go_ret
          exact ⟨_, rfl, by rw [HT.out]; have h := HO14.out; rw [List.nil_append, List.append_assoc] at h; exact h.mono HW.out, HB14.out⟩
end Go.Proofs.YtmclmccgghnglaaGreat
