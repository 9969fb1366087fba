/- sha.Hex and its reference. -/
import Derived.Test.YtbfdjjaonjepnaaShaJ
import Derived.Deep.RegionHeld3
namespace Go.Proofs.Ytbfdjjaonjepnaa
open Go.RowKit

def hexL : List UInt8 := [48, 49, 50, 51, 52, 53, 54, 55, 56, 57, 97, 98, 99, 100, 101, 102]
/-- The digit of a number below sixteen. -/
def hexC (n : Nat) : UInt8 := hexL.getD n 0
/-- A hash in digits of sixteen. -/
def hexF (l : List UInt8) : List UInt8 := l.flatMap fun c => [hexC (c.toNat / 16), hexC (c.toNat % 16)]
theorem hexF_length (l : List UInt8) : (hexF l).length = 2 * l.length := by
  induction l with
  | nil => rfl
  | cons c l ih => rw [hexF, List.flatMap_cons, List.length_append]; rw [hexF] at ih; rw [ih]; simp; omega
theorem take_snocB (l : List UInt8) (i : Nat) (h : i < l.length) : l.take (i + 1) = l.take i ++ [gB l i] := by
  rw [List.take_succ_eq_append_getElem h]; simp [gB, List.getD, List.getElem?_eq_getElem h]
theorem hexF_snoc (l : List UInt8) (c : UInt8) : hexF (l ++ [c]) = hexF l ++ [hexC (c.toNat / 16), hexC (c.toNat % 16)] := by
  simp [hexF]
theorem hex_index {P : Program} (t : TypeId) (ht : P.underlying t = some .string) (k : IntKind) (n : Nat) (hn : n < 16) (x : Int) (hx : x = (n : Int)) (w : World) :
    (Instr.index t (.string ⟨#[48, 49, 50, 51, 52, 53, 54, 55, 56, 57, 97, 98, 99, 100, 101, 102]⟩) (.int k x)).run P w = .ok (.int .u8 ((hexC n).toNat : Int)) w := by
  subst hx
  rw [run_index_string w t _ k _ ht]
  have hi : (0 : Int) ≤ (n : Int) ∧ (n : Int) < ((⟨#[48, 49, 50, 51, 52, 53, 54, 55, 56, 57, 97, 98, 99, 100, 101, 102]⟩ : ByteArray).size : Int) := ⟨by omega, by show (n : Int) < 16; omega⟩
  rw [dif_pos hi]
  congr 3
  have : ∀ m : Fin 16, ((⟨#[48, 49, 50, 51, 52, 53, 54, 55, 56, 57, 97, 98, 99, 100, 101, 102]⟩ : ByteArray)[m.val]'(by show m.val < 16; exact m.isLt)).toNat = (hexC m.val).toNat := by decide
  exact this ⟨n, hn⟩
theorem u8_and15 (c : UInt8) : bits BinOp.and IntKind.u8 (c.toNat : Int) 15 = (c.toNat : Int) % 16 := by
  have : ∀ m : Fin 256, bits BinOp.and IntKind.u8 (m.val : Int) 15 = ((m.val % 16 : Nat) : Int) := by decide +kernel
  have h2 := this ⟨c.toNat, c.toNat_lt⟩
  simp only [] at h2
  rw [h2]; omega
theorem u8E_one (x : UInt8) (u : Value) (h : u ∈ u8E x) : u.oneCell' = true := by
  obtain rfl : u = byteV x := by simpa [u8E] using h
  rfl
theorem own_boxed (w : World) (l : List UInt8) (T : TypeId) : (w.alloc (.cells (c8 l) T)).heap[w.heap.size]? = some (.cells (c8 l) T (0, 0)) := heap_alloc_new _ _
theorem Try.sizeHs (l : List UInt8) (h : l.length = 32) : (Try.prog.info? 48).map (·.size) = some (c8 l).size := by rw [c8_size, h]; kernel_rfl

set_option maxRecDepth 100000 in
set_option maxHeartbeats 1000000 in
theorem hex_any (h : List UInt8) (h32 : h.length = 32) (w : World) : Calls Try.prog 44 #[.agg (c8 h)] w (Ret w (.string (bs (hexF h)))) := by
  have H := Lib.hid h32; clear h32
  go_enter Try.func44, Try.ntmps44
  go_wp2_with (refine wpList_load_row rfl _ _ rfl _ rfl _ (c8 h) _ _ (own_boxed w h _) Try.underlying48 rfl (Try.sizeHs h H.out) ?_)
  go_loopw [3, 5, 7] (fun x _ y wr => ∃ i : Nat, i ≤ 32 ∧ y = .int .i64 i ∧ Own wr (w.heap.size + 1) 5 u8E 1 x (hexF (h.take i)) ∧ Below w.heap.size w wr ∧ w.heap.size + 1 ≤ wr.heap.size) (fun _ _ y _ => 32 - (intOf y).toNat)
  case atStart => exact ⟨0, Nat.zero_le _, rfl, Own.nil _ _ _ _ _, (Below.refl _ _).alloc (Nat.le_refl _) _, by simp⟩
  case round =>
    obtain ⟨i, hi, rfl, hown, hb, hz⟩ := hrel
    by_cases hlt : i < 32
    · have j0 : (i : Int) < 32 := by omega
      have hix : ∀ w, (Instr.index 48 (.agg (c8 h)) (.int .i64 (i : Int))).run Try.prog w = .ok (.int .u8 ((gB h i).toNat : Int)) w := fun w =>
        run_index1 w Try.underlying48 Try.underlying5 (by kernel_rfl) (c8 h) i hlt _ (c8_at h i (by rw [H.out]; exact hlt))
      have hsn := take_snocB h i (by rw [H.out]; exact hlt)
      obtain ⟨c, hc⟩ : ∃ c, c = gB h i := ⟨_, rfl⟩
      rw [← hc] at hix hsn
      have hcl := c.toNat_lt
      have hx1 : ∀ w, (Instr.index 9 (.string ⟨#[48, 49, 50, 51, 52, 53, 54, 55, 56, 57, 97, 98, 99, 100, 101, 102]⟩) (.int .u8 ((c.toNat : Int) / 16))).run Try.prog w = .ok (.int .u8 ((hexC (c.toNat / 16)).toNat : Int)) w := fun w =>
        hex_index _ Try.underlying9 _ _ (by omega) _ (by omega) w
      have hx2 : ∀ w, (Instr.index 9 (.string ⟨#[48, 49, 50, 51, 52, 53, 54, 55, 56, 57, 97, 98, 99, 100, 101, 102]⟩) (.int .u8 ((c.toNat : Int) % 16))).run Try.prog w = .ok (.int .u8 ((hexC (c.toNat % 16)).toNat : Int)) w := fun w =>
        hex_index _ Try.underlying9 _ _ (by omega) _ (by omega) w
      have h15 := u8_and15 c
      have HO := Lib.hid hown; have HB := Lib.hid hb; have HSN := Lib.hid hsn; have HC := Lib.hid hc
      clear hown hb hsn hc
      go_wp2_with fail
      have hl1 : (hexF (h.take i)).length + 2 ≤ maxLen := by rw [hexF_length, List.length_take, H.out]; unfold maxLen; omega
      have hl2 : ((hexF (h.take i)).length + 2) * 1 ≤ 140737488355328 := by rw [hexF_length, List.length_take, H.out]; omega
      have HL1 := Lib.hid hl1; have HL2 := Lib.hid hl2; clear hl1 hl2
      go_region_held3 (fun _ => True) (trivial) (first
        | (refine step_own_apps rfl _ _ _ rfl Try.underlying43 Try.infoU8 rfl (by omega) (fun _ => rfl) u8E_one ((HO.out.alloc _).later (Below.refl _ _).drew) rfl _ rfl ((rd_new1 _ u8E (fun _ => rfl) _ [hexC (c.toNat / 16), hexC (c.toNat % 16)] _ 2 rfl (by omega) rfl).later (Below.refl _ _).drew) HL1.out HL2.out (B := w.heap.size) (w0 := w) (HB.out.alloc (Nat.le_of_succ_le hz) _).drew (Nat.le_succ _) (by show _ ≤ (World.alloc _ _).heap.size; rw [World.size_alloc]; exact Nat.le_succ_of_le hz) ?_; intro v' w7 h7 h8 h9; clear HO HB))
      all_goals
        have hz9 : w.heap.size + 1 ≤ w7.heap.size := by
          have e1 := h9.size
          have e2 : ∀ o, (World.alloc wr o).drew.heap.size = wr.heap.size + 1 := fun o => World.size_alloc wr o
          rw [e2] at e1
          omega
        have H7 := Lib.hid h7; have H8 := Lib.hid h8
        clear h7 h8 h9
        go_wp2_with fail
        go_roundw
        case rel =>
          refine ⟨i + 1, by omega, by go_num, ?_, H8.out, hz9⟩
          rw [HSN.out, hexF_snoc]; exact H7.out
        case measure => simp [intOf]; omega
    · obtain rfl : i = 32 := by omega
      have hcv : (convert 43 9 u3).run Try.prog wr = .ok (.string (bs (hexF h))) wr := by
        have := rd_conv (P := Try.prog) Try.underlying43 Try.underlying5 Try.underlying9 (hown.rd (fun _ => rfl))
        rwa [List.take_of_length_le (by rw [H.out]; omega)] at this
      clear hown
      have HB := Lib.hid hb; clear hb
      go_wp2_with fail
      go_ret
      exact ⟨rfl, HB.out⟩
end Go.Proofs.Ytbfdjjaonjepnaa
