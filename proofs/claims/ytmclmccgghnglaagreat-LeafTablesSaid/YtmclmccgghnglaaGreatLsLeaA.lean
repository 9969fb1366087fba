/- The leaves of reward trees as bytes (code, and the document's). No condition. -/
import Derived.Test.YtmclmccgghnglaaGreatLsOctC
namespace Go.Proofs.YtmclmccgghnglaaGreat
open Go.RowKit

theorem load_blk {P : Program} {w : World} {g : Nat} {t ty : TypeId} {cs : Array Value} {fr : Nat × Nat} {d : TypeDesc} (hg : w.heap[g]? = some (.cells cs t fr))
    (hu : P.underlying ty = some d) (hd : (match d with | .struct _ | .array _ _ => true | _ => false) = true) (hi : (P.info? ty).map (·.size) = some cs.size) :
    (Instr.loadAt ty (.pointer (some ⟨g, 0, none⟩))).run P w = .ok (.agg cs) w := by
  have h := run_loadVar_row (P := P) w g t ty cs fr d hg hu hd hi
  exact h
theorem Tryz.sizeHc (h : List UInt8) (hh : h.length = 32) : (Tryz.prog.info? 36).map (·.size) = some (c8 h).size := by
  rw [show (c8 h).size = 32 by simp [c8, hh]]; kernel_rfl
/-- An earner's leaf; a token's. -/
def earL (e : Int) (h : List UInt8) : List UInt8 := varN e.toNat ++ h
def tokL (t : Int) (m : Nat) : List UInt8 := varN t.toNat ++ amtT m
theorem earL_len {e : Int} {h : List UInt8} (he : e < 9223372036854775808) (hh : h.length = 32) : (earL e h).length ≤ 41 := by
  have := varN_9 (show e.toNat < 9223372036854775808 by omega)
  unfold earL; rw [List.length_append, hh]; omega
theorem tokL_len {t : Int} {m : Nat} (he : t < 9223372036854775808) : (tokL t m).length ≤ 42 := by
  have := varN_9 (show t.toNat < 9223372036854775808 by omega)
  have := amtT_len m
  unfold tokL; rw [List.length_append]; omega

set_option maxHeartbeats 4000000 in
set_option maxRecDepth 100000 in
theorem ear_any (w : World) (n : Int) (hn : n < 9223372036854775808) {h : List UInt8} (hh : h.length = 32) :
    Calls Tryz.prog 58 #[.int .i64 n, .agg (c8 h)] w (RowB w (earL n h)) := by
  have HH := Lib.hid hh
  have HN := Lib.hid hn
  have HLN := Lib.hid (show (varN n.toNat).length ≤ 9 from varN_9 (by omega))
  clear hn hh
  go_enter Tryz.func58, Tryz.ntmps58
  go_wp2_with fail
  obtain ⟨w1, hw1⟩ : ∃ w1, w1 = w.alloc (.cells (c8 h) 36) := ⟨_, rfl⟩
  obtain ⟨X, hX⟩ : ∃ X, X = w.heap.size := ⟨_, rfl⟩
  rw [← hw1, ← hX]
  have HX := Lib.hid (show w1.heap[X]? = some (.cells (c8 h) 36 (0, 0)) by rw [hw1, hX]; exact heap_alloc_new _ _)
  have HB := Lib.hid (show Below w.heap.size w w1 by rw [hw1]; exact (Below.refl _ _).alloc (Nat.le_refl _) _)
  clear hw1 hX
  obtain ⟨wz, hwz⟩ : ∃ wz, wz = w1.drew := ⟨_, rfl⟩
  have hbz : Below w1.heap.size w1 wz := by rw [hwz]; exact (Below.refl _ _).drew
  have hS := below_at2 hbz HX.out
  have HBz := Lib.hid (HB.out.trans (hbz.mono HB.out.size))
  clear hbz HX HB
  refine wp_region_till (fun w' => w'.heap[X]? = some (.cells (c8 h) 36 (0, 0))) 5 5 (by kernel_rfl) rfl ?_
  rw [← hwz]
  clear hwz
  refine till_take 0 (some 5) rfl rfl (by kernel_rfl) (by kernel_rfl) (by kernel_rfl) (by kernel_rfl) (by kernel_rfl) (by kernel_rfl) (fun _ _ _ h => h) (.inl ⟨by rfl, fun w' _ => (by go_simp; rfl)⟩) hS ?_
  go_frame
  refine till_take 2 (some 7) rfl rfl (by kernel_rfl) (by kernel_rfl) (by kernel_rfl) (by kernel_rfl) (by kernel_rfl) (by kernel_rfl) (fun _ _ _ h => h) (yields_load (by rfl) 36 _ rfl (.pointer (some ⟨X, 0, none⟩)) rfl (.agg (c8 h)) (fun w' hS' => load_blk hS' Tryz.underlying36 rfl (Tryz.sizeHc h HH.out))) hS ?_
  go_frame
  refine till_one 1 rfl (by kernel_rfl) fun K hK => ?_
  simp only [List.getElem_toArray, List.getElem_cons_succ, List.getElem_cons_zero]
  rw [if_pos (by rfl)]
  go_simp
  refine (ovar_any _ _ [] (Rd.nil _ _ _) (by simp) n HN.out).mono ?_
  rintro e w2 ⟨v2, rfl, ho, hb⟩
  have hS2 := below_at2 hb hS
  have HO := Lib.hid (ho.mono HBz.out.size)
  have HR2 := Lib.hid (HO.out.rd u8_len); rw [List.nil_append] at HR2
  have HB2 := Lib.hid (HBz.out.trans (hb.mono HBz.out.size))
  refine hK _ _ (fun _ _ => hS2) ?_
  clear hK hS hb ho
  have hS := hS2
  clear hS2
  refine till_one 3 rfl (by kernel_rfl) fun K hK => ?_
  simp only [List.getElem_toArray, List.getElem_cons_succ, List.getElem_cons_zero]
  rw [if_pos (by rfl)]
  go_simp
  refine (ohash_any _ _ _ h HR2.out (by have := HLN.out; omega) HH.out).mono ?_
  rintro e w3 ⟨v3, rfl, ho, hb⟩
  have hS3 := below_at2 hb hS
  have HO3 := Lib.hid (ho.mono HB2.out.size)
  have HB3 := Lib.hid (HB2.out.trans (hb.mono HB2.out.size))
  refine hK _ _ (fun _ _ => hS3) ?_
  clear hK hS hb ho
  have hS := hS3
  clear hS3
  refine till_take 4 (some 4) rfl rfl (by kernel_rfl) (by kernel_rfl) (by kernel_rfl) (by kernel_rfl) (by kernel_rfl) (by kernel_rfl) (fun _ _ _ h => h) (.inl ⟨by rfl, fun w' _ => (by go_simp; rfl)⟩) hS ?_
  go_frame
  refine till_done (by kernel_rfl) ?_ _
  clear hS
  go_wp2_with fail
  go_ret
  exact ⟨_, rfl, HO3.out, HB3.out⟩

set_option maxHeartbeats 4000000 in
set_option maxRecDepth 100000 in
theorem tok_any (w : World) (n : Int) (hn : n < 9223372036854775808) {a b c d : Int} {m : Nat} (h : UIs a b c d m) :
    Calls Tryz.prog 60 #[.int .i64 n, .agg #[.int .u64 a, .int .u64 b, .int .u64 c, .int .u64 d]] w (RowB w (tokL n m)) := by
  have HH := Lib.hid h
  have HN := Lib.hid hn
  have HLN := Lib.hid (show (varN n.toNat).length ≤ 9 from varN_9 (by omega))
  clear hn h
  go_enter Tryz.func60, Tryz.ntmps60
  go_wp2_with fail
  obtain ⟨w1, hw1⟩ : ∃ w1, w1 = w.alloc (.cells #[.int .u64 a, .int .u64 b, .int .u64 c, .int .u64 d] 55) := ⟨_, rfl⟩
  obtain ⟨X, hX⟩ : ∃ X, X = w.heap.size := ⟨_, rfl⟩
  rw [← hw1, ← hX]
  have HX := Lib.hid (show w1.heap[X]? = some (.cells #[.int .u64 a, .int .u64 b, .int .u64 c, .int .u64 d] 55 (0, 0)) by rw [hw1, hX]; exact heap_alloc_new _ _)
  have HB := Lib.hid (show Below w.heap.size w w1 by rw [hw1]; exact (Below.refl _ _).alloc (Nat.le_refl _) _)
  clear hw1 hX
  obtain ⟨wz, hwz⟩ : ∃ wz, wz = w1.drew := ⟨_, rfl⟩
  have hbz : Below w1.heap.size w1 wz := by rw [hwz]; exact (Below.refl _ _).drew
  have hS := below_at2 hbz HX.out
  have HBz := Lib.hid (HB.out.trans (hbz.mono HB.out.size))
  clear hbz HX HB
  refine wp_region_till (fun w' => w'.heap[X]? = some (.cells #[.int .u64 a, .int .u64 b, .int .u64 c, .int .u64 d] 55 (0, 0))) 5 5 (by kernel_rfl) rfl ?_
  rw [← hwz]
  clear hwz
  refine till_take 0 (some 5) rfl rfl (by kernel_rfl) (by kernel_rfl) (by kernel_rfl) (by kernel_rfl) (by kernel_rfl) (by kernel_rfl) (fun _ _ _ h => h) (.inl ⟨by rfl, fun w' _ => (by go_simp; rfl)⟩) hS ?_
  go_frame
  refine till_take 2 (some 7) rfl rfl (by kernel_rfl) (by kernel_rfl) (by kernel_rfl) (by kernel_rfl) (by kernel_rfl) (by kernel_rfl) (fun _ _ _ h => h) (yields_load (by rfl) 55 _ rfl (.pointer (some ⟨X, 0, none⟩)) rfl (.agg #[.int .u64 a, .int .u64 b, .int .u64 c, .int .u64 d]) (fun w' hS' => load_blk hS' Tryz.underlying55 rfl Tryz.sizeU)) hS ?_
  go_frame
  refine till_one 1 rfl (by kernel_rfl) fun K hK => ?_
  simp only [List.getElem_toArray, List.getElem_cons_succ, List.getElem_cons_zero]
  rw [if_pos (by rfl)]
  go_simp
  refine (ovar_any _ _ [] (Rd.nil _ _ _) (by simp) n HN.out).mono ?_
  rintro e w2 ⟨v2, rfl, ho, hb⟩
  have hS2 := below_at2 hb hS
  have HO := Lib.hid (ho.mono HBz.out.size)
  have HR2 := Lib.hid (HO.out.rd u8_len); rw [List.nil_append] at HR2
  have HB2 := Lib.hid (HBz.out.trans (hb.mono HBz.out.size))
  refine hK _ _ (fun _ _ => hS2) ?_
  clear hK hS hb ho
  have hS := hS2
  clear hS2
  refine till_one 3 rfl (by kernel_rfl) fun K hK => ?_
  simp only [List.getElem_toArray, List.getElem_cons_succ, List.getElem_cons_zero]
  rw [if_pos (by rfl)]
  go_simp
  refine (oamt_any _ _ _ HR2.out (by have := HLN.out; omega) HH.out).mono ?_
  rintro e w3 ⟨v3, rfl, ho, hb⟩
  have hS3 := below_at2 hb hS
  have HO3 := Lib.hid (ho.mono HB2.out.size)
  have HB3 := Lib.hid (HB2.out.trans (hb.mono HB2.out.size))
  refine hK _ _ (fun _ _ => hS3) ?_
  clear hK hS hb ho
  have hS := hS3
  clear hS3
  refine till_take 4 (some 4) rfl rfl (by kernel_rfl) (by kernel_rfl) (by kernel_rfl) (by kernel_rfl) (by kernel_rfl) (by kernel_rfl) (fun _ _ _ h => h) (.inl ⟨by rfl, fun w' _ => (by go_simp; rfl)⟩) hS ?_
  go_frame
  refine till_done (by kernel_rfl) ?_ _
  clear hS
  go_wp2_with fail
  go_ret
  exact ⟨_, rfl, HO3.out, HB3.out⟩

set_option maxHeartbeats 4000000 in
set_option maxRecDepth 100000 in
theorem rear_any (w : World) (n : Int) (hn : n < 9223372036854775808) {h : List UInt8} (hh : h.length = 32) :
    Calls Tryz.prog 59 #[.int .i64 n, .agg (c8 h)] w (RowB w (earL n h)) := by
  have HH := Lib.hid hh
  have HN := Lib.hid hn
  have HLN := Lib.hid (show (varN n.toNat).length ≤ 9 from varN_9 (by omega))
  clear hn hh
  go_enter Tryz.func59, Tryz.ntmps59
  go_wp2_with fail
  obtain ⟨w1, hw1⟩ : ∃ w1, w1 = w.alloc (.cells (c8 h) 36) := ⟨_, rfl⟩
  obtain ⟨X, hX⟩ : ∃ X, X = w.heap.size := ⟨_, rfl⟩
  rw [← hw1, ← hX]
  have HX := Lib.hid (show w1.heap[X]? = some (.cells (c8 h) 36 (0, 0)) by rw [hw1, hX]; exact heap_alloc_new _ _)
  have HB := Lib.hid (show Below w.heap.size w w1 by rw [hw1]; exact (Below.refl _ _).alloc (Nat.le_refl _) _)
  clear hw1 hX
  obtain ⟨wz, hwz⟩ : ∃ wz, wz = w1.drew := ⟨_, rfl⟩
  have hbz : Below w1.heap.size w1 wz := by rw [hwz]; exact (Below.refl _ _).drew
  have hS := below_at2 hbz HX.out
  have HBz := Lib.hid (HB.out.trans (hbz.mono HB.out.size))
  clear hbz HX HB
  refine wp_region_till (fun w' => w'.heap[X]? = some (.cells (c8 h) 36 (0, 0))) 5 5 (by kernel_rfl) rfl ?_
  rw [← hwz]
  clear hwz
  refine till_take 0 (some 5) rfl rfl (by kernel_rfl) (by kernel_rfl) (by kernel_rfl) (by kernel_rfl) (by kernel_rfl) (by kernel_rfl) (fun _ _ _ h => h) (.inl ⟨by rfl, fun w' _ => (by go_simp; rfl)⟩) hS ?_
  go_frame
  refine till_take 2 (some 7) rfl rfl (by kernel_rfl) (by kernel_rfl) (by kernel_rfl) (by kernel_rfl) (by kernel_rfl) (by kernel_rfl) (fun _ _ _ h => h) (yields_load (by rfl) 36 _ rfl (.pointer (some ⟨X, 0, none⟩)) rfl (.agg (c8 h)) (fun w' hS' => load_blk hS' Tryz.underlying36 rfl (Tryz.sizeHc h HH.out))) hS ?_
  go_frame
  refine till_one 1 rfl (by kernel_rfl) fun K hK => ?_
  simp only [List.getElem_toArray, List.getElem_cons_succ, List.getElem_cons_zero]
  rw [if_pos (by rfl)]
  go_simp
  refine (rvar_any _ _ [] (Rd.nil _ _ _) (by simp) n HN.out).mono ?_
  rintro e w2 ⟨v2, rfl, ho, hb⟩
  have hS2 := below_at2 hb hS
  have HO := Lib.hid (ho.mono HBz.out.size)
  have HR2 := Lib.hid (HO.out.rd u8_len); rw [List.nil_append] at HR2
  have HB2 := Lib.hid (HBz.out.trans (hb.mono HBz.out.size))
  refine hK _ _ (fun _ _ => hS2) ?_
  clear hK hS hb ho
  have hS := hS2
  clear hS2
  refine till_one 3 rfl (by kernel_rfl) fun K hK => ?_
  simp only [List.getElem_toArray, List.getElem_cons_succ, List.getElem_cons_zero]
  rw [if_pos (by rfl)]
  go_simp
  refine (rhash_any _ _ _ h HR2.out (by have := HLN.out; omega) HH.out).mono ?_
  rintro e w3 ⟨v3, rfl, ho, hb⟩
  have hS3 := below_at2 hb hS
  have HO3 := Lib.hid (ho.mono HB2.out.size)
  have HB3 := Lib.hid (HB2.out.trans (hb.mono HB2.out.size))
  refine hK _ _ (fun _ _ => hS3) ?_
  clear hK hS hb ho
  have hS := hS3
  clear hS3
  refine till_take 4 (some 4) rfl rfl (by kernel_rfl) (by kernel_rfl) (by kernel_rfl) (by kernel_rfl) (by kernel_rfl) (by kernel_rfl) (fun _ _ _ h => h) (.inl ⟨by rfl, fun w' _ => (by go_simp; rfl)⟩) hS ?_
  go_frame
  refine till_done (by kernel_rfl) ?_ _
  clear hS
  go_wp2_with fail
  go_ret
  exact ⟨_, rfl, HO3.out, HB3.out⟩

set_option maxHeartbeats 4000000 in
set_option maxRecDepth 100000 in
theorem rtok_any (w : World) (n : Int) (hn : n < 9223372036854775808) {a b c d : Int} {m : Nat} (h : UIs a b c d m) :
    Calls Tryz.prog 61 #[.int .i64 n, .agg #[.int .u64 a, .int .u64 b, .int .u64 c, .int .u64 d]] w (RowB w (tokL n m)) := by
  have HH := Lib.hid h
  have HN := Lib.hid hn
  have HLN := Lib.hid (show (varN n.toNat).length ≤ 9 from varN_9 (by omega))
  clear hn h
  go_enter Tryz.func61, Tryz.ntmps61
  go_wp2_with fail
  obtain ⟨w1, hw1⟩ : ∃ w1, w1 = w.alloc (.cells #[.int .u64 a, .int .u64 b, .int .u64 c, .int .u64 d] 55) := ⟨_, rfl⟩
  obtain ⟨X, hX⟩ : ∃ X, X = w.heap.size := ⟨_, rfl⟩
  rw [← hw1, ← hX]
  have HX := Lib.hid (show w1.heap[X]? = some (.cells #[.int .u64 a, .int .u64 b, .int .u64 c, .int .u64 d] 55 (0, 0)) by rw [hw1, hX]; exact heap_alloc_new _ _)
  have HB := Lib.hid (show Below w.heap.size w w1 by rw [hw1]; exact (Below.refl _ _).alloc (Nat.le_refl _) _)
  clear hw1 hX
  obtain ⟨wz, hwz⟩ : ∃ wz, wz = w1.drew := ⟨_, rfl⟩
  have hbz : Below w1.heap.size w1 wz := by rw [hwz]; exact (Below.refl _ _).drew
  have hS := below_at2 hbz HX.out
  have HBz := Lib.hid (HB.out.trans (hbz.mono HB.out.size))
  clear hbz HX HB
  refine wp_region_till (fun w' => w'.heap[X]? = some (.cells #[.int .u64 a, .int .u64 b, .int .u64 c, .int .u64 d] 55 (0, 0))) 5 5 (by kernel_rfl) rfl ?_
  rw [← hwz]
  clear hwz
  refine till_take 0 (some 5) rfl rfl (by kernel_rfl) (by kernel_rfl) (by kernel_rfl) (by kernel_rfl) (by kernel_rfl) (by kernel_rfl) (fun _ _ _ h => h) (.inl ⟨by rfl, fun w' _ => (by go_simp; rfl)⟩) hS ?_
  go_frame
  refine till_take 2 (some 7) rfl rfl (by kernel_rfl) (by kernel_rfl) (by kernel_rfl) (by kernel_rfl) (by kernel_rfl) (by kernel_rfl) (fun _ _ _ h => h) (yields_load (by rfl) 55 _ rfl (.pointer (some ⟨X, 0, none⟩)) rfl (.agg #[.int .u64 a, .int .u64 b, .int .u64 c, .int .u64 d]) (fun w' hS' => load_blk hS' Tryz.underlying55 rfl Tryz.sizeU)) hS ?_
  go_frame
  refine till_one 1 rfl (by kernel_rfl) fun K hK => ?_
  simp only [List.getElem_toArray, List.getElem_cons_succ, List.getElem_cons_zero]
  rw [if_pos (by rfl)]
  go_simp
  refine (rvar_any _ _ [] (Rd.nil _ _ _) (by simp) n HN.out).mono ?_
  rintro e w2 ⟨v2, rfl, ho, hb⟩
  have hS2 := below_at2 hb hS
  have HO := Lib.hid (ho.mono HBz.out.size)
  have HR2 := Lib.hid (HO.out.rd u8_len); rw [List.nil_append] at HR2
  have HB2 := Lib.hid (HBz.out.trans (hb.mono HBz.out.size))
  refine hK _ _ (fun _ _ => hS2) ?_
  clear hK hS hb ho
  have hS := hS2
  clear hS2
  refine till_one 3 rfl (by kernel_rfl) fun K hK => ?_
  simp only [List.getElem_toArray, List.getElem_cons_succ, List.getElem_cons_zero]
  rw [if_pos (by rfl)]
  go_simp
  refine (ramt_any _ _ _ HR2.out (by have := HLN.out; omega) HH.out).mono ?_
  rintro e w3 ⟨v3, rfl, ho, hb⟩
  have hS3 := below_at2 hb hS
  have HO3 := Lib.hid (ho.mono HB2.out.size)
  have HB3 := Lib.hid (HB2.out.trans (hb.mono HB2.out.size))
  refine hK _ _ (fun _ _ => hS3) ?_
  clear hK hS hb ho
  have hS := hS3
  clear hS3
  refine till_take 4 (some 4) rfl rfl (by kernel_rfl) (by kernel_rfl) (by kernel_rfl) (by kernel_rfl) (by kernel_rfl) (by kernel_rfl) (fun _ _ _ h => h) (.inl ⟨by rfl, fun w' _ => (by go_simp; rfl)⟩) hS ?_
  go_frame
  refine till_done (by kernel_rfl) ?_ _
  clear hS
  go_wp2_with fail
  go_ret
  exact ⟨_, rfl, HO3.out, HB3.out⟩
end Go.Proofs.YtmclmccgghnglaaGreat
