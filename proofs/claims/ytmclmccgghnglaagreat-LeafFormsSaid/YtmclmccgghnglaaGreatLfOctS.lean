/- tallagelaw16.LeafForms: its walk. -/
import Derived.Test.YtmclmccgghnglaaGreatLf14
import Derived.Test.YtmclmccgghnglaaGreatLf21
namespace Go.Proofs.YtmclmccgghnglaaGreat
open Go.RowKit

section
variable {P : Program} {ops : Array Oper} {Q : Exit → Act → World → Prop} {md : Region.Mode} {S S' : World → Prop} {z : Nat}
/-- From here on more is kept. -/
theorem till_more (hSS : ∀ w, S' w → S w) : ∀ {fuel : Nat} {listed : Array Bool} {a : Act} {w : World}, AnyTill P md ops Q S' z fuel listed a w → AnyTill P md ops Q S z fuel listed a w
  | 0, _, _, _, h => h
  | _ + 1, _, _, _, h => ⟨h.1, fun i hi => wpOp_mono (fun _ _ h' => ⟨fun h1 h2 => hSS _ (h'.1 h1 h2), till_more hSS h'.2⟩) (h.2 i hi)⟩
end
theorem wp_conv {P : Program} {o : Oper} {a : Act} {w : World} {K : Act → World → Prop} {Q : Exit → Act → World → Prop} (src dst : TypeId) (x : Operand) (ho : o.op = .convert src dst x) (v u : Value) (hx : a.eval x = v) (hr : (convert src dst v).run P w = .ok u w) (h : K (a.put o.dst u) w) : o.wp P a w K Q := by
  unfold Oper.wp
  simp [execOp, ho, hx, hr, Result.andThen]
  exact h
theorem earV_eq (b : List UInt8) : ∃ (x : Nat) (hx : List UInt8) (ok : Bool), hx.length = 32 ∧ earV b = .tuple #[.int .i64 (x : Int), .agg (c8 hx), .bool ok] := by
  unfold earV
  cases he : toEar b with
  | none => exact ⟨0, zero32, false, rfl, rfl⟩
  | some y =>
    obtain ⟨n, h⟩ := y
    refine ⟨n, h, true, ?_, rfl⟩
    rw [toEar_o] at he
    split at he
    · cases he; exact hashO_32 _
    · cases he
/-- A hash whose first byte is this. -/
def hash1 (a : Int) : List UInt8 := UInt8.ofNat (a % 256).toNat :: List.replicate 31 0
theorem hash1_32 (a : Int) : (hash1 a).length = 32 := rfl
theorem hash1_c8 (a : Int) : c8 (hash1 a) = #[.int .u8 (IntKind.u8.wrap a), .int .u8 0, .int .u8 0, .int .u8 0, .int .u8 0, .int .u8 0, .int .u8 0, .int .u8 0, .int .u8 0, .int .u8 0, .int .u8 0, .int .u8 0, .int .u8 0, .int .u8 0, .int .u8 0, .int .u8 0, .int .u8 0, .int .u8 0, .int .u8 0, .int .u8 0, .int .u8 0, .int .u8 0, .int .u8 0, .int .u8 0, .int .u8 0, .int .u8 0, .int .u8 0, .int .u8 0, .int .u8 0, .int .u8 0, .int .u8 0, .int .u8 0] := by
  have h := u8_of (a % 256) (Int.emod_nonneg _ (by decide)) (Int.emod_lt_of_pos _ (by decide))
  rw [IntKind.wrap_u8, ← h]
  rfl
set_option maxHeartbeats 16000000 in
set_option maxRecDepth 100000 in
theorem lforms_any (w : World) (n : Int) (hn : n < 9223372036854775808) {a0 a1 a2 a3 : Int} {m : Nat} (hu : UIs a0 a1 a2 a3 m) (v : Value) (b : List UInt8) (hr : Rd w u8E 1 v b) : Calls Tryz.prog 8 #[.int .i64 n, .agg #[.int .u64 a0, .int .u64 a1, .int .u64 a2, .int .u64 a3], v] w (Ret w (.bool true)) := by
  obtain ⟨ad, cap, rfl, _, _⟩ := hr.shape
  obtain ⟨nb, hnb⟩ : ∃ k, k = b.length := ⟨_, rfl⟩
  rw [← hnb] at hr ⊢
  have HR := Lib.hid hr; have HN := Lib.hid hn; have HU := Lib.hid hu; have HNB := Lib.hid hnb
  have ha8 := hash1_c8 a0
  have HH8 := Lib.hid ha8
  obtain ⟨w1, hw1⟩ : ∃ w1, w1 = w.alloc (.cells #[.int .u64 a0, .int .u64 a1, .int .u64 a2, .int .u64 a3] 55) := ⟨_, rfl⟩
  obtain ⟨A, hA⟩ : ∃ A, A = w.heap.size := ⟨_, rfl⟩
  have hA1 : w1.heap[A]? = some (.cells #[.int .u64 a0, .int .u64 a1, .int .u64 a2, .int .u64 a3] 55 (0, 0)) := by rw [hw1, hA]; exact heap_alloc_new _ _
  have hb1 : Below w.heap.size w w1 := by rw [hw1]; exact (Below.refl _ _).alloc (Nat.le_refl _) _
  have q0 : (w.alloc (.cells #[.int .u64 a0, .int .u64 a1, .int .u64 a2, .int .u64 a3] 55)).cell? ⟨w.heap.size, 0, none⟩ = some (.int .u64 a0) := by rw [← hw1, ← hA]; exact Lib.cell_of_heap hA1 0
  have HA1 := Lib.hid hA1; have HB1 := Lib.hid hb1; have HW1 := Lib.hid hw1; have HAA := Lib.hid hA
  clear hr hn hu hnb ha8 hA1 hb1 hw1 hA
  by_cases hlen : 200 < nb
  · go_enter Tryz.func8, Tryz.ntmps8
    go_wp2_with fail
    rw [← HW1.out]
    refine (lives16_any _).mono ?_
    rintro e w2 ⟨rfl, hb2⟩
    have HB2 := Lib.hid (HB1.out.trans (hb2.mono HB1.out.size))
    clear hb2
    go_wp2_with fail
    go_ret
    exact ⟨rfl, HB2.out⟩
  · go_enter Tryz.func8, Tryz.ntmps8
    go_wp2_with (refine wpList_alloc_g rfl _ rfl _ _ Tryz.zeroHash rfl ?_)
    rw [← HW1.out, ← HAA.out]
    intro H d1 hH
    clear q0
    have q0 : d1.cell? ⟨A, 0, none⟩ = some (.int .u64 a0) := Lib.cell_of_heap (below_at2 hH.out.below HA1.out) 0
    go_wp2_with (refine wpList_store_row_g (t := 36) (old := cB 32 []) rfl 36 _ _ rfl H (c8 (hash1 a0)) rfl (by rw [HH8.out]; rfl) hH.out.cells (Tryz.sizeHc _ (hash1_32 _)) (by rw [c8_size, hash1_32]; rfl) (c8_ones _) ?_)
    intro w2 h2 k2 z2
    have hb2 : Below w1.heap.size w1 w2 := hH.out.below.trans (k2.below (B := w1.heap.size) (fun x hx e => by have := hH.out.eq; omega) hH.out.below.size)
    have HH2 := Lib.hid h2; have HA2 := Lib.hid (below_at2 hb2 HA1.out); have HB2 := Lib.hid (HB1.out.trans (hb2.mono HB1.out.size))
    clear hH h2 k2 z2 hb2 q0 HA1 HB1
    obtain ⟨hh, hhh⟩ : ∃ h, h = hash1 a0 := ⟨_, rfl⟩
    rw [← hhh] at HH2
    have H32 := Lib.hid (show hh.length = 32 by rw [hhh]; exact hash1_32 _)
    clear hhh
    obtain ⟨x, hx, ok, hx32, hev⟩ := earV_eq b
    have HX32 := Lib.hid hx32; have HEV := Lib.hid hev
    clear hx32 hev
    have HBL := Lib.hid (show b.length < 1000000000 by have := HNB.out; omega)
    go_wp2_with fail
    refine (toear_any w2 _ b (HR.out.later HB2.out) HBL.out).mono ?_
    rw [HEV.out]
    rintro e w3 ⟨rfl, hb3⟩
    have HH3 := Lib.hid (below_at2 hb3 HH2.out); have HA3 := Lib.hid (below_at2 hb3 HA2.out); have HB3 := Lib.hid (HB2.out.trans (hb3.mono HB2.out.size))
    clear hb3 HH2 HA2 HB2
    go_wp2_with (refine wpList_alloc_g rfl _ rfl _ _ Tryz.zeroHash rfl ?_)
    intro E w4 hE
    go_wp2_with (refine wpList_store_row_g (t := 36) (old := (cB 32 [])) rfl 36 _ _ rfl E (c8 hx) rfl rfl hE.out.cells (Tryz.sizeHc hx HX32.out) (by rw [c8_size, HX32.out]; rfl) (c8_ones _) ?_)
    intro w5 h5 k5 z5
    have hb5 : Below w3.heap.size w3 w5 := hE.out.below.trans (k5.below (B := w3.heap.size) (fun x hx e => by have := hE.out.eq; omega) hE.out.below.size)
    have HH5 := Lib.hid (below_at2 hb5 HH3.out); have HA5 := Lib.hid (below_at2 hb5 HA3.out); have HE5 := Lib.hid h5; have HB5 := Lib.hid (HB3.out.trans (hb5.mono HB3.out.size))
    clear hE h5 k5 z5 hb5 HB3 HH3 HA3
    go_wp2_with fail
    refine (rtoear_any w5 _ b (HR.out.later HB5.out) HBL.out).mono ?_
    rw [HEV.out]
    rintro e w6 ⟨rfl, hb6⟩
    have HH6 := Lib.hid (below_at2 hb6 HH5.out); have HA6 := Lib.hid (below_at2 hb6 HA5.out); have HE6 := Lib.hid (below_at2 hb6 HE5.out); have HB6 := Lib.hid (HB5.out.trans (hb6.mono HB5.out.size))
    clear hb6 HH5 HA5 HE5 HB5
    go_wp2_with (refine wpList_alloc_g rfl _ rfl _ _ Tryz.zeroHash rfl ?_)
    intro G w7 hG
    go_wp2_with (refine wpList_store_row_g (t := 36) (old := (cB 32 [])) rfl 36 _ _ rfl G (c8 hx) rfl rfl hG.out.cells (Tryz.sizeHc hx HX32.out) (by rw [c8_size, HX32.out]; rfl) (c8_ones _) ?_)
    intro w8 h5 k5 z5
    have hb5 : Below w6.heap.size w6 w8 := hG.out.below.trans (k5.below (B := w6.heap.size) (fun x hx e => by have := hG.out.eq; omega) hG.out.below.size)
    have HH8 := Lib.hid (below_at2 hb5 HH6.out); have HA8 := Lib.hid (below_at2 hb5 HA6.out); have HE8 := Lib.hid (below_at2 hb5 HE6.out); have HG8 := Lib.hid h5; have HB8 := Lib.hid (HB6.out.trans (hb5.mono HB6.out.size))
    clear hG h5 k5 z5 hb5 HB6 HH6 HA6 HE6
    obtain ⟨tn, htn⟩ : ∃ q : Nat, q = ((toTok b).getD (0, 0)).1 := ⟨_, rfl⟩
    obtain ⟨tm, htm⟩ : ∃ q, q = ((toTok b).getD (0, 0)).2 := ⟨_, rfl⟩
    obtain ⟨tk, htk⟩ : ∃ q, q = (toTok b).isSome := ⟨_, rfl⟩
    have HTN := Lib.hid htn; have HTM := Lib.hid htm; have HTK := Lib.hid htk
    clear htn htm htk
    go_wp2_with fail
    refine (totok_any w8 _ b (HR.out.later HB8.out) HBL.out).mono ?_
    rintro e w9 ⟨hb9, p0, p1, p2, p3, hp, rfl⟩
    rw [← HTN.out, ← HTK.out]
    rw [← HTM.out] at hp
    have HP := Lib.hid hp
    have HH9 := Lib.hid (below_at2 hb9 HH8.out); have HA9 := Lib.hid (below_at2 hb9 HA8.out); have HE9 := Lib.hid (below_at2 hb9 HE8.out); have HG9 := Lib.hid (below_at2 hb9 HG8.out); have HB9 := Lib.hid (HB8.out.trans (hb9.mono HB8.out.size))
    clear hb9 hp HH8 HA8 HE8 HG8 HB8
    go_wp2_with (refine wpList_alloc_g rfl _ rfl _ _ Tryz.zeroUn rfl ?_)
    intro J w10 hJ
    go_wp2_with (refine wpList_store_row_g (t := 55) (old := u0) rfl 55 _ _ rfl J #[.int .u64 p0, .int .u64 p1, .int .u64 p2, .int .u64 p3] rfl rfl hJ.out.cells Tryz.sizeU rfl (one_u64 _ _ _ _) ?_)
    intro w11 h5 k5 z5
    have hb5 : Below w9.heap.size w9 w11 := hJ.out.below.trans (k5.below (B := w9.heap.size) (fun x hx e => by have := hJ.out.eq; omega) hJ.out.below.size)
    have HH11 := Lib.hid (below_at2 hb5 HH9.out); have HA11 := Lib.hid (below_at2 hb5 HA9.out); have HE11 := Lib.hid (below_at2 hb5 HE9.out); have HG11 := Lib.hid (below_at2 hb5 HG9.out); have HJ11 := Lib.hid h5; have HB11 := Lib.hid (HB9.out.trans (hb5.mono HB9.out.size))
    clear hJ h5 k5 z5 hb5 HB9 HH9 HA9 HE9 HG9
    go_wp2_with fail
    refine (rtotok_any w11 _ b (HR.out.later HB11.out) HBL.out).mono ?_
    rintro e w12 ⟨hb12, r0, r1, r2, r3, hp, rfl⟩
    rw [← HTN.out, ← HTK.out]
    rw [← HTM.out] at hp
    have HQ := Lib.hid hp
    have HH12 := Lib.hid (below_at2 hb12 HH11.out); have HA12 := Lib.hid (below_at2 hb12 HA11.out); have HE12 := Lib.hid (below_at2 hb12 HE11.out); have HG12 := Lib.hid (below_at2 hb12 HG11.out); have HJ12 := Lib.hid (below_at2 hb12 HJ11.out); have HB12 := Lib.hid (HB11.out.trans (hb12.mono HB11.out.size))
    clear hb12 hp HH11 HA11 HE11 HG11 HJ11 HB11
    go_wp2_with (refine wpList_alloc_g rfl _ rfl _ _ Tryz.zeroUn rfl ?_)
    intro M w13 hM
    go_wp2_with (refine wpList_store_row_g (t := 55) (old := u0) rfl 55 _ _ rfl M #[.int .u64 r0, .int .u64 r1, .int .u64 r2, .int .u64 r3] rfl rfl hM.out.cells Tryz.sizeU rfl (one_u64 _ _ _ _) ?_)
    intro w14 h5 k5 z5
    have hb5 : Below w12.heap.size w12 w14 := hM.out.below.trans (k5.below (B := w12.heap.size) (fun x hx e => by have := hM.out.eq; omega) hM.out.below.size)
    have HH14 := Lib.hid (below_at2 hb5 HH12.out); have HA14 := Lib.hid (below_at2 hb5 HA12.out); have HE14 := Lib.hid (below_at2 hb5 HE12.out); have HG14 := Lib.hid (below_at2 hb5 HG12.out); have HJ14 := Lib.hid (below_at2 hb5 HJ12.out); have HM14 := Lib.hid h5; have HB14 := Lib.hid (HB12.out.trans (hb5.mono HB12.out.size))
    clear hM h5 k5 z5 hb5 HB12 HH12 HA12 HE12 HG12 HJ12
    go_upto_region 8 with fail
    obtain ⟨wz, hwz⟩ : ∃ wz, wz = w14.drew := ⟨_, rfl⟩
    have hbz : Below w14.heap.size w14 wz := by rw [hwz]; exact (Below.refl _ _).drew
    have hS := And.intro (below_at2 hbz HH14.out) (And.intro (below_at2 hbz HA14.out) (And.intro (below_at2 hbz HE14.out) (And.intro (below_at2 hbz HG14.out) (And.intro (below_at2 hbz HJ14.out) (below_at2 hbz HM14.out)))))
    have HB0 := Lib.hid (HB14.out.trans (hbz.mono HB14.out.size))
    clear hbz HH14 HA14 HE14 HG14 HJ14 HM14 HB14
    have heqU : ∀ w', (Op.equalIn 10000 55 (.agg #[.int .u64 p0, .int .u64 p1, .int .u64 p2, .int .u64 p3]) (.agg #[.int .u64 r0, .int .u64 r1, .int .u64 r2, .int .u64 r3])).run Tryz.prog w' = .ok (true) w' := fun w' => by have := Tryz.eqUnZ HP.out HQ.out w'; rwa [decide_eq_true rfl] at this
    have heqH : ∀ w', (Op.equalIn 10000 36 (.agg (c8 hx)) (.agg (c8 hx))).run Tryz.prog w' = .ok (true) w' := fun w' => by have := Tryz.eqH hx hx HX32.out HX32.out w'; rwa [decide_eq_true rfl] at this
    have HEU := Lib.hid heqU; have HEH := Lib.hid heqH
    clear heqU heqH
    refine wp_region_till (fun w' => w'.heap[H]? = some (.cells (c8 hh) 36 (0, 0)) ∧ w'.heap[A]? = some (.cells #[.int .u64 a0, .int .u64 a1, .int .u64 a2, .int .u64 a3] 55 (0, 0)) ∧ w'.heap[E]? = some (.cells (c8 hx) 36 (0, 0)) ∧ w'.heap[G]? = some (.cells (c8 hx) 36 (0, 0)) ∧ w'.heap[J]? = some (.cells #[.int .u64 p0, .int .u64 p1, .int .u64 p2, .int .u64 p3] 55 (0, 0)) ∧ w'.heap[M]? = some (.cells #[.int .u64 r0, .int .u64 r1, .int .u64 r2, .int .u64 r3] 55 (0, 0))) 54 54 (by kernel_rfl) rfl ?_
    rw [← hwz]
    clear hwz
    refine till_take 0 (some 52) rfl rfl (by kernel_rfl) (by kernel_rfl) (by kernel_rfl) (by kernel_rfl) (by kernel_rfl) (by kernel_rfl) (fun _ _ _ h => h) (.inl ⟨by rfl, fun w' _ => (by go_simp; rfl)⟩) hS ?_
    go_frame
    refine till_take 1 (some 53) rfl rfl (by kernel_rfl) (by kernel_rfl) (by kernel_rfl) (by kernel_rfl) (by kernel_rfl) (by kernel_rfl) (fun _ _ _ h => h) (yields_load (by rfl) 36 _ rfl (.pointer (some ⟨H, 0, none⟩)) rfl (.agg (c8 hh)) (fun w' hS' => load_blk (hS'.1) Tryz.underlying36 rfl (Tryz.sizeHc hh H32.out))) hS ?_
    go_frame
    refine till_take 4 (some 56) rfl rfl (by kernel_rfl) (by kernel_rfl) (by kernel_rfl) (by kernel_rfl) (by kernel_rfl) (by kernel_rfl) (fun _ _ _ h => h) (.inl ⟨by rfl, fun w' _ => (by go_simp; rfl)⟩) hS ?_
    go_frame
    refine till_take 5 (some 57) rfl rfl (by kernel_rfl) (by kernel_rfl) (by kernel_rfl) (by kernel_rfl) (by kernel_rfl) (by kernel_rfl) (fun _ _ _ h => h) (yields_load (by rfl) 36 _ rfl (.pointer (some ⟨H, 0, none⟩)) rfl (.agg (c8 hh)) (fun w' hS' => load_blk (hS'.1) Tryz.underlying36 rfl (Tryz.sizeHc hh H32.out))) hS ?_
    go_frame
    refine till_one 2 rfl (by kernel_rfl) fun K hK => ?_
    simp only [List.getElem_toArray, List.getElem_cons_succ, List.getElem_cons_zero]
    rw [if_pos (by rfl)]
    go_simp
    refine (ear_any wz n HN.out H32.out).mono ?_
    rintro e x1 ⟨v1, rfl, ho, hb⟩
    have HB1 := Lib.hid (HB0.out.trans (hb.mono HB0.out.size))
    have hSn := And.intro (below_at2 hb hS.1) (And.intro (below_at2 hb hS.2.1) (And.intro (below_at2 hb hS.2.2.1) (And.intro (below_at2 hb hS.2.2.2.1) (And.intro (below_at2 hb hS.2.2.2.2.1) (below_at2 hb hS.2.2.2.2.2)))))
    refine hK _ _ (fun _ _ => hSn) ?_
    refine till_more (S' := fun w' => (w'.heap[H]? = some (.cells (c8 hh) 36 (0, 0)) ∧ w'.heap[A]? = some (.cells #[.int .u64 a0, .int .u64 a1, .int .u64 a2, .int .u64 a3] 55 (0, 0)) ∧ w'.heap[E]? = some (.cells (c8 hx) 36 (0, 0)) ∧ w'.heap[G]? = some (.cells (c8 hx) 36 (0, 0)) ∧ w'.heap[J]? = some (.cells #[.int .u64 p0, .int .u64 p1, .int .u64 p2, .int .u64 p3] 55 (0, 0)) ∧ w'.heap[M]? = some (.cells #[.int .u64 r0, .int .u64 r1, .int .u64 r2, .int .u64 r3] 55 (0, 0))) ∧ Rd w' u8E 1 v1 (earL n hh)) (fun _ h => h.1) ?_
    have hSm := And.intro hSn (ho.rd u8_len)
    clear hK hS hSn ho hb HB0
    have hS := hSm
    clear hSm
    refine till_take 3 (some 55) rfl rfl (by kernel_rfl) (by kernel_rfl) (by kernel_rfl) (by kernel_rfl) (by kernel_rfl) (by kernel_rfl) (fun _ _ _ h => h) (.inl ⟨by rfl, fun w' hS' => (by have hcv := rd_conv (P := Tryz.prog) (dst := 9) Tryz.underlying100 Tryz.underlying5 Tryz.underlying9 hS'.2; go_simp; rfl)⟩) hS ?_
    go_frame
    refine till_one 6 rfl (by kernel_rfl) fun K hK => ?_
    simp only [List.getElem_toArray, List.getElem_cons_succ, List.getElem_cons_zero]
    rw [if_pos (by rfl)]
    go_simp
    refine (rear_any x1 n HN.out H32.out).mono ?_
    rintro e x2 ⟨v2, rfl, ho, hb⟩
    have HB2 := Lib.hid (HB1.out.trans (hb.mono HB1.out.size))
    have hSn := And.intro (And.intro (below_at2 hb hS.1.1) (And.intro (below_at2 hb hS.1.2.1) (And.intro (below_at2 hb hS.1.2.2.1) (And.intro (below_at2 hb hS.1.2.2.2.1) (And.intro (below_at2 hb hS.1.2.2.2.2.1) (below_at2 hb hS.1.2.2.2.2.2)))))) (hS.2.later hb)
    refine hK _ _ (fun _ _ => hSn) ?_
    refine till_more (S' := fun w' => ((w'.heap[H]? = some (.cells (c8 hh) 36 (0, 0)) ∧ w'.heap[A]? = some (.cells #[.int .u64 a0, .int .u64 a1, .int .u64 a2, .int .u64 a3] 55 (0, 0)) ∧ w'.heap[E]? = some (.cells (c8 hx) 36 (0, 0)) ∧ w'.heap[G]? = some (.cells (c8 hx) 36 (0, 0)) ∧ w'.heap[J]? = some (.cells #[.int .u64 p0, .int .u64 p1, .int .u64 p2, .int .u64 p3] 55 (0, 0)) ∧ w'.heap[M]? = some (.cells #[.int .u64 r0, .int .u64 r1, .int .u64 r2, .int .u64 r3] 55 (0, 0))) ∧ Rd w' u8E 1 v1 (earL n hh)) ∧ Rd w' u8E 1 v2 (earL n hh)) (fun _ h => h.1) ?_
    have hSm := And.intro hSn (ho.rd u8_len)
    clear hK hS hSn ho hb HB1
    have hS := hSm
    clear hSm
    refine till_take 7 (some 59) rfl rfl (by kernel_rfl) (by kernel_rfl) (by kernel_rfl) (by kernel_rfl) (by kernel_rfl) (by kernel_rfl) (fun _ _ _ h => h) (.inl ⟨by rfl, fun w' hS' => (by have hcv := rd_conv (P := Tryz.prog) (dst := 9) Tryz.underlying100 Tryz.underlying5 Tryz.underlying9 hS'.2; go_simp; rfl)⟩) hS ?_
    go_frame
    refine till_take 8 (some 60) rfl rfl (by kernel_rfl) (by kernel_rfl) (by kernel_rfl) (by kernel_rfl) (by kernel_rfl) (by kernel_rfl) (fun _ _ _ h => h) (.inl ⟨by rfl, fun w' _ => (by go_simp; rfl)⟩) hS ?_
    go_frame
    refine till_take 9 (some 61) rfl rfl (by kernel_rfl) (by kernel_rfl) (by kernel_rfl) (by kernel_rfl) (by kernel_rfl) (by kernel_rfl) (fun _ _ _ h => h) (.inl ⟨by rfl, fun w' _ => (by go_simp; rfl)⟩) hS ?_
    go_frame
    refine till_take 10 (some 62) rfl rfl (by kernel_rfl) (by kernel_rfl) (by kernel_rfl) (by kernel_rfl) (by kernel_rfl) (by kernel_rfl) (fun _ _ _ h => h) (.inl ⟨by rfl, fun w' _ => (by go_simp; rfl)⟩) hS ?_
    go_frame
    refine till_take 11 (some 63) rfl rfl (by kernel_rfl) (by kernel_rfl) (by kernel_rfl) (by kernel_rfl) (by kernel_rfl) (by kernel_rfl) (fun _ _ _ h => h) (yields_load (by rfl) 55 _ rfl (.pointer (some ⟨A, 0, none⟩)) rfl (.agg #[.int .u64 a0, .int .u64 a1, .int .u64 a2, .int .u64 a3]) (fun w' hS' => load_blk (hS'.1.1.2.1) Tryz.underlying55 rfl Tryz.sizeU)) hS ?_
    go_frame
    refine till_take 14 (some 66) rfl rfl (by kernel_rfl) (by kernel_rfl) (by kernel_rfl) (by kernel_rfl) (by kernel_rfl) (by kernel_rfl) (fun _ _ _ h => h) (.inl ⟨by rfl, fun w' _ => (by go_simp; rfl)⟩) hS ?_
    go_frame
    refine till_take 15 (some 67) rfl rfl (by kernel_rfl) (by kernel_rfl) (by kernel_rfl) (by kernel_rfl) (by kernel_rfl) (by kernel_rfl) (fun _ _ _ h => h) (yields_load (by rfl) 55 _ rfl (.pointer (some ⟨A, 0, none⟩)) rfl (.agg #[.int .u64 a0, .int .u64 a1, .int .u64 a2, .int .u64 a3]) (fun w' hS' => load_blk (hS'.1.1.2.1) Tryz.underlying55 rfl Tryz.sizeU)) hS ?_
    go_frame
    refine till_one 12 rfl (by kernel_rfl) fun K hK => ?_
    simp only [List.getElem_toArray, List.getElem_cons_succ, List.getElem_cons_zero]
    rw [if_pos (by rfl)]
    go_simp
    refine (tok_any x2 n HN.out HU.out).mono ?_
    rintro e x3 ⟨v3, rfl, ho, hb⟩
    have HB3 := Lib.hid (HB2.out.trans (hb.mono HB2.out.size))
    have hSn := And.intro (And.intro (And.intro (below_at2 hb hS.1.1.1) (And.intro (below_at2 hb hS.1.1.2.1) (And.intro (below_at2 hb hS.1.1.2.2.1) (And.intro (below_at2 hb hS.1.1.2.2.2.1) (And.intro (below_at2 hb hS.1.1.2.2.2.2.1) (below_at2 hb hS.1.1.2.2.2.2.2)))))) (hS.1.2.later hb)) (hS.2.later hb)
    refine hK _ _ (fun _ _ => hSn) ?_
    refine till_more (S' := fun w' => (((w'.heap[H]? = some (.cells (c8 hh) 36 (0, 0)) ∧ w'.heap[A]? = some (.cells #[.int .u64 a0, .int .u64 a1, .int .u64 a2, .int .u64 a3] 55 (0, 0)) ∧ w'.heap[E]? = some (.cells (c8 hx) 36 (0, 0)) ∧ w'.heap[G]? = some (.cells (c8 hx) 36 (0, 0)) ∧ w'.heap[J]? = some (.cells #[.int .u64 p0, .int .u64 p1, .int .u64 p2, .int .u64 p3] 55 (0, 0)) ∧ w'.heap[M]? = some (.cells #[.int .u64 r0, .int .u64 r1, .int .u64 r2, .int .u64 r3] 55 (0, 0))) ∧ Rd w' u8E 1 v1 (earL n hh)) ∧ Rd w' u8E 1 v2 (earL n hh)) ∧ Rd w' u8E 1 v3 (tokL n m)) (fun _ h => h.1) ?_
    have hSm := And.intro hSn (ho.rd u8_len)
    clear hK hS hSn ho hb HB2
    have hS := hSm
    clear hSm
    refine till_take 13 (some 65) rfl rfl (by kernel_rfl) (by kernel_rfl) (by kernel_rfl) (by kernel_rfl) (by kernel_rfl) (by kernel_rfl) (fun _ _ _ h => h) (.inl ⟨by rfl, fun w' hS' => (by have hcv := rd_conv (P := Tryz.prog) (dst := 9) Tryz.underlying100 Tryz.underlying5 Tryz.underlying9 hS'.2; go_simp; rfl)⟩) hS ?_
    go_frame
    refine till_one 16 rfl (by kernel_rfl) fun K hK => ?_
    simp only [List.getElem_toArray, List.getElem_cons_succ, List.getElem_cons_zero]
    rw [if_pos (by rfl)]
    go_simp
    refine (rtok_any x3 n HN.out HU.out).mono ?_
    rintro e x4 ⟨v4, rfl, ho, hb⟩
    have HB4 := Lib.hid (HB3.out.trans (hb.mono HB3.out.size))
    have hSn := And.intro (And.intro (And.intro (And.intro (below_at2 hb hS.1.1.1.1) (And.intro (below_at2 hb hS.1.1.1.2.1) (And.intro (below_at2 hb hS.1.1.1.2.2.1) (And.intro (below_at2 hb hS.1.1.1.2.2.2.1) (And.intro (below_at2 hb hS.1.1.1.2.2.2.2.1) (below_at2 hb hS.1.1.1.2.2.2.2.2)))))) (hS.1.1.2.later hb)) (hS.1.2.later hb)) (hS.2.later hb)
    refine hK _ _ (fun _ _ => hSn) ?_
    refine till_more (S' := fun w' => ((((w'.heap[H]? = some (.cells (c8 hh) 36 (0, 0)) ∧ w'.heap[A]? = some (.cells #[.int .u64 a0, .int .u64 a1, .int .u64 a2, .int .u64 a3] 55 (0, 0)) ∧ w'.heap[E]? = some (.cells (c8 hx) 36 (0, 0)) ∧ w'.heap[G]? = some (.cells (c8 hx) 36 (0, 0)) ∧ w'.heap[J]? = some (.cells #[.int .u64 p0, .int .u64 p1, .int .u64 p2, .int .u64 p3] 55 (0, 0)) ∧ w'.heap[M]? = some (.cells #[.int .u64 r0, .int .u64 r1, .int .u64 r2, .int .u64 r3] 55 (0, 0))) ∧ Rd w' u8E 1 v1 (earL n hh)) ∧ Rd w' u8E 1 v2 (earL n hh)) ∧ Rd w' u8E 1 v3 (tokL n m)) ∧ Rd w' u8E 1 v4 (tokL n m)) (fun _ h => h.1) ?_
    have hSm := And.intro hSn (ho.rd u8_len)
    clear hK hS hSn ho hb HB3
    have hS := hSm
    clear hSm
    refine till_take 17 (some 69) rfl rfl (by kernel_rfl) (by kernel_rfl) (by kernel_rfl) (by kernel_rfl) (by kernel_rfl) (by kernel_rfl) (fun _ _ _ h => h) (.inl ⟨by rfl, fun w' hS' => (by have hcv := rd_conv (P := Tryz.prog) (dst := 9) Tryz.underlying100 Tryz.underlying5 Tryz.underlying9 hS'.2; go_simp; rfl)⟩) hS ?_
    go_frame
    refine till_take 18 (some 70) rfl rfl (by kernel_rfl) (by kernel_rfl) (by kernel_rfl) (by kernel_rfl) (by kernel_rfl) (by kernel_rfl) (fun _ _ _ h => h) (.inl ⟨by rfl, fun w' _ => (by go_simp; rfl)⟩) hS ?_
    go_frame
    refine till_take 19 (some 71) rfl rfl (by kernel_rfl) (by kernel_rfl) (by kernel_rfl) (by kernel_rfl) (by kernel_rfl) (by kernel_rfl) (fun _ _ _ h => h) (.inl ⟨by rfl, fun w' _ => (by go_simp; rfl)⟩) hS ?_
    go_frame
    refine till_take 20 (some 72) rfl rfl (by kernel_rfl) (by kernel_rfl) (by kernel_rfl) (by kernel_rfl) (by kernel_rfl) (by kernel_rfl) (fun _ _ _ h => h) (.inl ⟨by rfl, fun w' _ => (by go_simp; rfl)⟩) hS ?_
    go_frame
    refine till_take 21 (some 73) rfl rfl (by kernel_rfl) (by kernel_rfl) (by kernel_rfl) (by kernel_rfl) (by kernel_rfl) (by kernel_rfl) (fun _ _ _ h => h) (.inl ⟨by rfl, fun w' _ => (by go_simp; rfl)⟩) hS ?_
    go_frame
    refine till_take 22 (some 74) rfl rfl (by kernel_rfl) (by kernel_rfl) (by kernel_rfl) (by kernel_rfl) (by kernel_rfl) (by kernel_rfl) (fun _ _ _ h => h) (.inl ⟨by rfl, fun w' _ => (by go_simp; rfl)⟩) hS ?_
    go_frame
    refine till_take 23 (some 75) rfl rfl (by kernel_rfl) (by kernel_rfl) (by kernel_rfl) (by kernel_rfl) (by kernel_rfl) (by kernel_rfl) (fun _ _ _ h => h) (.inl ⟨by rfl, fun w' _ => (by go_simp; rfl)⟩) hS ?_
    go_frame
    refine till_take 24 (some 76) rfl rfl (by kernel_rfl) (by kernel_rfl) (by kernel_rfl) (by kernel_rfl) (by kernel_rfl) (by kernel_rfl) (fun _ _ _ h => h) (.inl ⟨by rfl, fun w' _ => (by go_simp; rfl)⟩) hS ?_
    go_frame
    refine till_take 25 (some 77) rfl rfl (by kernel_rfl) (by kernel_rfl) (by kernel_rfl) (by kernel_rfl) (by kernel_rfl) (by kernel_rfl) (fun _ _ _ h => h) (.inl ⟨by rfl, fun w' _ => (by go_simp; rfl)⟩) hS ?_
    go_frame
    refine till_take 26 (some 78) rfl rfl (by kernel_rfl) (by kernel_rfl) (by kernel_rfl) (by kernel_rfl) (by kernel_rfl) (by kernel_rfl) (fun _ _ _ h => h) (yields_load (by rfl) 36 _ rfl (.pointer (some ⟨E, 0, none⟩)) rfl (.agg (c8 hx)) (fun w' hS' => load_blk (hS'.1.1.1.1.2.2.1) Tryz.underlying36 rfl (Tryz.sizeHc hx HX32.out))) hS ?_
    go_frame
    refine till_take 27 (some 79) rfl rfl (by kernel_rfl) (by kernel_rfl) (by kernel_rfl) (by kernel_rfl) (by kernel_rfl) (by kernel_rfl) (fun _ _ _ h => h) (yields_load (by rfl) 36 _ rfl (.pointer (some ⟨G, 0, none⟩)) rfl (.agg (c8 hx)) (fun w' hS' => load_blk (hS'.1.1.1.1.2.2.2.1) Tryz.underlying36 rfl (Tryz.sizeHc hx HX32.out))) hS ?_
    go_frame
    refine till_take 28 (some 80) rfl rfl (by kernel_rfl) (by kernel_rfl) (by kernel_rfl) (by kernel_rfl) (by kernel_rfl) (by kernel_rfl) (fun _ _ _ h => h) (.inl ⟨by rfl, fun w' hS' => (by have hq := HEH.out w'; go_simp; rfl)⟩) hS ?_
    go_frame
    refine till_take 29 (some 81) rfl rfl (by kernel_rfl) (by kernel_rfl) (by kernel_rfl) (by kernel_rfl) (by kernel_rfl) (by kernel_rfl) (fun _ _ _ h => h) (.inl ⟨by rfl, fun w' _ => (by go_simp; rfl)⟩) hS ?_
    go_frame
    refine till_take 30 (some 82) rfl rfl (by kernel_rfl) (by kernel_rfl) (by kernel_rfl) (by kernel_rfl) (by kernel_rfl) (by kernel_rfl) (fun _ _ _ h => h) (.inl ⟨by rfl, fun w' _ => (by go_simp; rfl)⟩) hS ?_
    go_frame
    refine till_take 31 (some 83) rfl rfl (by kernel_rfl) (by kernel_rfl) (by kernel_rfl) (by kernel_rfl) (by kernel_rfl) (by kernel_rfl) (fun _ _ _ h => h) (.inl ⟨by rfl, fun w' _ => (by go_simp; rfl)⟩) hS ?_
    go_frame
    refine till_take 32 (some 84) rfl rfl (by kernel_rfl) (by kernel_rfl) (by kernel_rfl) (by kernel_rfl) (by kernel_rfl) (by kernel_rfl) (fun _ _ _ h => h) (.inl ⟨by rfl, fun w' _ => (by go_simp; rfl)⟩) hS ?_
    go_frame
    refine till_take 33 (some 85) rfl rfl (by kernel_rfl) (by kernel_rfl) (by kernel_rfl) (by kernel_rfl) (by kernel_rfl) (by kernel_rfl) (fun _ _ _ h => h) (.inl ⟨by rfl, fun w' _ => (by go_simp; rfl)⟩) hS ?_
    go_frame
    refine till_take 34 (some 86) rfl rfl (by kernel_rfl) (by kernel_rfl) (by kernel_rfl) (by kernel_rfl) (by kernel_rfl) (by kernel_rfl) (fun _ _ _ h => h) (.inl ⟨by rfl, fun w' _ => (by go_simp; rfl)⟩) hS ?_
    go_frame
    refine till_take 35 (some 87) rfl rfl (by kernel_rfl) (by kernel_rfl) (by kernel_rfl) (by kernel_rfl) (by kernel_rfl) (by kernel_rfl) (fun _ _ _ h => h) (.inl ⟨by rfl, fun w' _ => (by go_simp; rfl)⟩) hS ?_
    go_frame
    refine till_take 36 (some 88) rfl rfl (by kernel_rfl) (by kernel_rfl) (by kernel_rfl) (by kernel_rfl) (by kernel_rfl) (by kernel_rfl) (fun _ _ _ h => h) (.inl ⟨by rfl, fun w' _ => (by go_simp; rfl)⟩) hS ?_
    go_frame
    refine till_take 37 (some 89) rfl rfl (by kernel_rfl) (by kernel_rfl) (by kernel_rfl) (by kernel_rfl) (by kernel_rfl) (by kernel_rfl) (fun _ _ _ h => h) (.inl ⟨by rfl, fun w' _ => (by go_simp; rfl)⟩) hS ?_
    go_frame
    refine till_take 38 (some 90) rfl rfl (by kernel_rfl) (by kernel_rfl) (by kernel_rfl) (by kernel_rfl) (by kernel_rfl) (by kernel_rfl) (fun _ _ _ h => h) (.inl ⟨by rfl, fun w' _ => (by go_simp; rfl)⟩) hS ?_
    go_frame
    refine till_take 39 (some 91) rfl rfl (by kernel_rfl) (by kernel_rfl) (by kernel_rfl) (by kernel_rfl) (by kernel_rfl) (by kernel_rfl) (fun _ _ _ h => h) (.inl ⟨by rfl, fun w' _ => (by go_simp; rfl)⟩) hS ?_
    go_frame
    refine till_take 40 (some 92) rfl rfl (by kernel_rfl) (by kernel_rfl) (by kernel_rfl) (by kernel_rfl) (by kernel_rfl) (by kernel_rfl) (fun _ _ _ h => h) (.inl ⟨by rfl, fun w' _ => (by go_simp; rfl)⟩) hS ?_
    go_frame
    refine till_take 41 (some 93) rfl rfl (by kernel_rfl) (by kernel_rfl) (by kernel_rfl) (by kernel_rfl) (by kernel_rfl) (by kernel_rfl) (fun _ _ _ h => h) (yields_load (by rfl) 55 _ rfl (.pointer (some ⟨J, 0, none⟩)) rfl (.agg #[.int .u64 p0, .int .u64 p1, .int .u64 p2, .int .u64 p3]) (fun w' hS' => load_blk (hS'.1.1.1.1.2.2.2.2.1) Tryz.underlying55 rfl Tryz.sizeU)) hS ?_
    go_frame
    refine till_take 42 (some 94) rfl rfl (by kernel_rfl) (by kernel_rfl) (by kernel_rfl) (by kernel_rfl) (by kernel_rfl) (by kernel_rfl) (fun _ _ _ h => h) (yields_load (by rfl) 55 _ rfl (.pointer (some ⟨M, 0, none⟩)) rfl (.agg #[.int .u64 r0, .int .u64 r1, .int .u64 r2, .int .u64 r3]) (fun w' hS' => load_blk (hS'.1.1.1.1.2.2.2.2.2) Tryz.underlying55 rfl Tryz.sizeU)) hS ?_
    go_frame
    refine till_take 43 (some 95) rfl rfl (by kernel_rfl) (by kernel_rfl) (by kernel_rfl) (by kernel_rfl) (by kernel_rfl) (by kernel_rfl) (fun _ _ _ h => h) (.inl ⟨by rfl, fun w' hS' => (by have hq := HEU.out w'; go_simp; rfl)⟩) hS ?_
    go_frame
    refine till_take 44 (some 96) rfl rfl (by kernel_rfl) (by kernel_rfl) (by kernel_rfl) (by kernel_rfl) (by kernel_rfl) (by kernel_rfl) (fun _ _ _ h => h) (.inl ⟨by rfl, fun w' _ => (by go_simp; rfl)⟩) hS ?_
    go_frame
    refine till_take 45 (some 97) rfl rfl (by kernel_rfl) (by kernel_rfl) (by kernel_rfl) (by kernel_rfl) (by kernel_rfl) (by kernel_rfl) (fun _ _ _ h => h) (.inl ⟨by rfl, fun w' _ => (by go_simp; rfl)⟩) hS ?_
    go_frame
    refine till_take 46 (some 98) rfl rfl (by kernel_rfl) (by kernel_rfl) (by kernel_rfl) (by kernel_rfl) (by kernel_rfl) (by kernel_rfl) (fun _ _ _ h => h) (.inl ⟨by rfl, fun w' _ => (by go_simp; rfl)⟩) hS ?_
    go_frame
    refine till_take 47 (some 99) rfl rfl (by kernel_rfl) (by kernel_rfl) (by kernel_rfl) (by kernel_rfl) (by kernel_rfl) (by kernel_rfl) (fun _ _ _ h => h) (.inl ⟨by rfl, fun w' _ => (by go_simp; rfl)⟩) hS ?_
    go_frame
    refine till_take 48 (some 100) rfl rfl (by kernel_rfl) (by kernel_rfl) (by kernel_rfl) (by kernel_rfl) (by kernel_rfl) (by kernel_rfl) (fun _ _ _ h => h) (.inl ⟨by rfl, fun w' _ => (by go_simp; rfl)⟩) hS ?_
    go_frame
    refine till_take 49 (some 101) rfl rfl (by kernel_rfl) (by kernel_rfl) (by kernel_rfl) (by kernel_rfl) (by kernel_rfl) (by kernel_rfl) (fun _ _ _ h => h) (.inl ⟨by rfl, fun w' _ => (by go_simp; rfl)⟩) hS ?_
    go_frame
    refine till_take 50 (some 102) rfl rfl (by kernel_rfl) (by kernel_rfl) (by kernel_rfl) (by kernel_rfl) (by kernel_rfl) (by kernel_rfl) (fun _ _ _ h => h) (.inl ⟨by rfl, fun w' _ => (by go_simp; rfl)⟩) hS ?_
    go_frame
    refine till_one 51 rfl (by kernel_rfl) fun K hK => ?_
    simp only [List.getElem_toArray, List.getElem_cons_succ, List.getElem_cons_zero]
    rw [if_pos (by rfl)]
    go_simp
    refine (lives16_any x4).mono ?_
    rintro e x5 ⟨rfl, hb⟩
    have HB5 := Lib.hid (HB4.out.trans (hb.mono HB4.out.size))
    have hSn := And.intro (And.intro (And.intro (And.intro (And.intro (below_at2 hb hS.1.1.1.1.1) (And.intro (below_at2 hb hS.1.1.1.1.2.1) (And.intro (below_at2 hb hS.1.1.1.1.2.2.1) (And.intro (below_at2 hb hS.1.1.1.1.2.2.2.1) (And.intro (below_at2 hb hS.1.1.1.1.2.2.2.2.1) (below_at2 hb hS.1.1.1.1.2.2.2.2.2)))))) (hS.1.1.1.2.later hb)) (hS.1.1.2.later hb)) (hS.1.2.later hb)) (hS.2.later hb)
    refine hK _ _ (fun _ _ => hSn) ?_
    clear hK hS hb HB4
    have hS := hSn
    clear hSn
    refine till_take 52 (some 104) rfl rfl (by kernel_rfl) (by kernel_rfl) (by kernel_rfl) (by kernel_rfl) (by kernel_rfl) (by kernel_rfl) (fun _ _ _ h => h) (.inl ⟨by rfl, fun w' _ => (by go_simp; rfl)⟩) hS ?_
    go_frame
    refine till_take 53 (some 6) rfl rfl (by kernel_rfl) (by kernel_rfl) (by kernel_rfl) (by kernel_rfl) (by kernel_rfl) (by kernel_rfl) (fun _ _ _ h => h) (.inl ⟨by rfl, fun w' _ => (by go_simp; rfl)⟩) hS ?_
    go_frame
    refine till_done (by kernel_rfl) ?_ _
    clear hS
    go_wp2_with fail
    go_ret
    exact ⟨rfl, HB5.out⟩
end Go.Proofs.YtmclmccgghnglaaGreat
