/- tallagelaw05.ShaNone: its walk. -/
import Derived.Test.YtbfdjjaonjepnaaShaO
import Derived.Test.YtbfdjjaonjepnaaShaQ
namespace Go.Proofs.Ytbfdjjaonjepnaa
open Go.RowKit

theorem Try.zeroState (w : World) : (zeroValue 57).run Try.prog w = .ok (.agg (stC false (List.replicate 8 0) (List.replicate 64 0) 0)) w := by kernel_rfl

def z32 : List UInt8 := List.replicate 32 0
theorem sum_off' (w : World) (v : Value) (h : Off w v) : Calls Try.prog 37 #[v] w (Ret w (.agg (c8 z32))) := sum_off w v h
set_option maxRecDepth 100000 in
set_option maxHeartbeats 1000000 in
theorem law_none5 (ad : Option Addr) (n cap : Nat) (w : World) (hm : n ≤ 9223372036854775807) : Calls Try.prog 7 #[.slice ad n cap] w (Ret w (.bool true)) := by
  by_cases hbig : 500 < n
  · have e1 : (n : Int) > 500 := by omega
    clear hbig
    go_enter Try.func7, Try.ntmps7
    go_wp2_with fail
    refine (lives_any _).mono ?_
    rintro e w1 ⟨rfl, hb1⟩
    go_wp2_with fail
    go_ret
    exact ⟨rfl, hb1⟩
  · have e1 : ¬ (n : Int) > 500 := by omega
    clear hbig
    go_enter Try.func7, Try.ntmps7
    go_wp2_with (refine wpList_alloc_g rfl _ rfl _ _ Try.zeroState rfl ?_)
    intro Z w1 h1
    go_wp2_with fail
    have hz : w1.cell? ⟨Z, 0, none⟩ = some (.bool false) := by rw [Lib.cell_of_heap h1.out.cells]; exact stC_m _ _ _ _
    have HZ := Lib.hid hz; clear hz
    go_loopw [5, 11] (fun _ y wr => ∃ i : Nat, i ≤ 2 ∧ y = .int .i64 i ∧ Below w1.heap.size w1 wr) (fun _ y _ => 2 - (intOf y).toNat)
    case atStart => exact ⟨0, Nat.zero_le _, rfl, Below.refl _ _⟩
    case round =>
      obtain ⟨i, hi, rfl, hb⟩ := hrel
      by_cases hlt : i < 2
      · have j0 : (i : Int) < 2 := by omega
        have hoff : Off wr (if i = 0 then .pointer none else .pointer (some ⟨Z, 0, none⟩)) := by
          by_cases h0 : i = 0
          · rw [if_pos h0]; exact .inl rfl
          · rw [if_neg h0]; exact .inr ⟨Z, rfl, (hb.cell (p := ⟨Z, 0, none⟩) (heap_lt h1.out.cells)).trans HZ.out⟩
        obtain ⟨v, hv⟩ : ∃ v : Value, v = if i = 0 then .pointer none else .pointer (some ⟨Z, 0, none⟩) := ⟨_, rfl⟩
        rw [← hv] at hoff
        have hix : ∀ w, (Instr.index 58 (.agg #[.pointer none, .pointer (some ⟨Z, 0, none⟩)]) (.int .i64 (i : Int))).run Try.prog w = .ok v w := by
          intro w
          rw [hv]
          rcases (show i = 0 ∨ i = 1 by omega) with rfl | rfl
          · kernel_rfl
          · kernel_rfl
        have HOFF := Lib.hid hoff; have HB := Lib.hid hb
        clear hv hoff hb
        go_wp2_with fail
        refine (write_off _ _ _ HOFF.out).mono ?_
        rintro e w2 ⟨rfl, rfl⟩
        go_wp2_with fail
        refine (reset_off _ _ HOFF.out).mono ?_
        rintro e w2 ⟨rfl, rfl⟩
        go_wp2_with fail
        refine (sum_off' _ _ HOFF.out).mono ?_
        rintro e w2 ⟨rfl, hb2⟩
        have hoff2 := HOFF.out.below hb2
        have HOFF2 := Lib.hid hoff2; have HB2 := Lib.hid hb2
        have q2 := Try.eqZ z32 (by simp [z32])
        rw [decide_eq_true (show z32 = List.replicate 32 0 from rfl)] at q2
        clear hoff2 hb2
        go_wp2_with fail
        refine (len_off _ _ HOFF2.out).mono ?_
        rintro e w3 ⟨rfl, rfl⟩
        go_wp2_with fail
        refine (copy_off _ _ HOFF2.out).mono ?_
        rintro e w3 ⟨rfl, rfl⟩
        go_wp2_with fail
        go_roundw
        case rel => exact ⟨i + 1, by omega, by go_num, HB.out.trans (HB2.out.mono HB.out.size)⟩
        case measure => simp [intOf]; omega
      · obtain rfl : i = 2 := by omega
        have HB := Lib.hid hb; clear hb
        go_wp2_with fail
        refine (lives_any _).mono ?_
        rintro e w2 ⟨rfl, hb2⟩
        have hbl : Below w.heap.size w w2 := h1.out.below.trans ((HB.out.mono h1.out.below.size).trans (hb2.mono (Nat.le_trans h1.out.below.size HB.out.size)))
        clear hb2
        go_wp2_with fail
        go_ret
        exact ⟨rfl, hbl⟩
end Go.Proofs.Ytbfdjjaonjepnaa
