/- The reference's Hex. -/
import Derived.Test.YtbfdjjaonjepnaaShaK
namespace Go.Proofs.Ytbfdjjaonjepnaa
open Go.RowKit

set_option maxRecDepth 100000 in
set_option maxHeartbeats 1000000 in
theorem refHex_any (h : List UInt8) (h32 : h.length = 32) (w : World) : Calls Try.prog 45 #[.agg (c8 h)] w (Ret w (.string (bs (hexF h)))) := by
  have H := Lib.hid h32; clear h32
  go_enter Try.func45, Try.ntmps45
  go_wp2_with (refine wpList_load_row rfl _ _ rfl _ rfl _ (c8 h) _ _ (own_boxed w h _) Try.underlying48 rfl (Try.sizeHs h H.out) ?_)
  go_loopw [3, 5, 7] (fun x _ y wr => ∃ i : Nat, i ≤ 32 ∧ y = .int .i64 i ∧ x = .string (bs (hexF (h.take i))) ∧ Below w.heap.size w wr) (fun _ _ y _ => 32 - (intOf y).toNat)
  case atStart => exact ⟨0, Nat.zero_le _, rfl, rfl, (Below.refl _ _).alloc (Nat.le_refl _) _⟩
  case round =>
    obtain ⟨i, hi, rfl, rfl, hb⟩ := hrel
    by_cases hlt : i < 32
    · have j0 : (i : Int) < 32 := by omega
      have hix : ∀ w, (Instr.index 48 (.agg (c8 h)) (.int .i64 (i : Int))).run Try.prog w = .ok (.int .u8 ((gB h i).toNat : Int)) w := fun w =>
        run_index1 w Try.underlying48 Try.underlying5 (by kernel_rfl) (c8 h) i hlt _ (c8_at h i (by rw [H.out]; exact hlt))
      have hsn := take_snocB h i (by rw [H.out]; exact hlt)
      obtain ⟨c, hc⟩ : ∃ c, c = gB h i := ⟨_, rfl⟩
      rw [← hc] at hix hsn
      have hcl := c.toNat_lt
      have hx1 : ∀ w, (Instr.index 9 (.string ⟨#[48, 49, 50, 51, 52, 53, 54, 55, 56, 57, 97, 98, 99, 100, 101, 102]⟩) (.int .u8 ((c.toNat : Int) / 16))).run Try.prog w = .ok (.int .u8 ((hexC (c.toNat / 16)).toNat : Int)) w := fun w =>
        hex_index _ Try.underlying9 _ _ (by omega) _ (by omega) w
      have hx2 : ∀ w, (Instr.index 9 (.string ⟨#[48, 49, 50, 51, 52, 53, 54, 55, 56, 57, 97, 98, 99, 100, 101, 102]⟩) (.int .u8 ((c.toNat : Int) % 16))).run Try.prog w = .ok (.int .u8 ((hexC (c.toNat % 16)).toNat : Int)) w := fun w =>
        hex_index _ Try.underlying9 _ _ (by omega) _ (by omega) w
      have ht1 : (c.toNat : Int).tdiv 16 = (c.toNat : Int) / 16 := Int.tdiv_eq_ediv_of_nonneg (by omega)
      have ht2 : (c.toNat : Int).tmod 16 = (c.toNat : Int) % 16 := Int.tmod_eq_emod_of_nonneg (by omega)
      have HB := Lib.hid hb; have HSN := Lib.hid hsn; have HC := Lib.hid hc
      obtain ⟨s0, hs0⟩ : ∃ s0, s0 = bs (hexF (h.take i)) := ⟨_, rfl⟩
      rw [← hs0]
      have HS0 := Lib.hid hs0
      clear hb hsn hc hs0
      go_wp2_with fail
      have hcv : (convert 43 9 (.slice (some ⟨wr.heap.size, 0, none⟩) 2 2)).run Try.prog (wr.alloc (.cells #[.int .u8 ((hexC (c.toNat / 16)).toNat : Int), .int .u8 ((hexC (c.toNat % 16)).toNat : Int)] 5)).drew = .ok (.string (bs [hexC (c.toNat / 16), hexC (c.toNat % 16)])) (wr.alloc (.cells #[.int .u8 ((hexC (c.toNat / 16)).toNat : Int), .int .u8 ((hexC (c.toNat % 16)).toNat : Int)] 5)).drew :=
        rd_conv (P := Try.prog) Try.underlying43 Try.underlying5 Try.underlying9 ((rd_new1 wr u8E (fun _ => rfl) _ [hexC (c.toNat / 16), hexC (c.toNat % 16)] _ 2 rfl (by omega) rfl).later (Below.refl _ _).drew)
      have hadd : ∀ w, (Op.stringOp .add s0 (bs [hexC (c.toNat / 16), hexC (c.toNat % 16)])).run Try.prog w = .ok (.string (s0 ++ bs [hexC (c.toNat / 16), hexC (c.toNat % 16)])) w := fun w =>
        run_string_add_sum w s0 _ (by rw [HS0.out, bs_size, bs_size, hexF_length, List.length_take]; simp; omega)
      have hr : bs (hexF (h.take i)) ++ bs [hexC (c.toNat / 16), hexC (c.toNat % 16)] = bs (hexF (h.take (i + 1))) := by rw [bs_append, HSN.out, hexF_snoc]
      have HR := Lib.hid hr; clear hr
      go_region
      all_goals
        go_wp2_with fail
        go_roundw
        case rel =>
          refine ⟨i + 1, by omega, by go_num, ?_, (HB.out.alloc HB.out.size _).drew⟩
          rw [HS0.out, HR.out]
        case measure => simp [intOf]; omega
    · obtain rfl : i = 32 := by omega
      rw [List.take_of_length_le (by rw [H.out]; omega)]
      have HB := Lib.hid hb; clear hb
      go_wp2_with fail
      go_ret
      exact ⟨rfl, HB.out⟩
end Go.Proofs.Ytbfdjjaonjepnaa
