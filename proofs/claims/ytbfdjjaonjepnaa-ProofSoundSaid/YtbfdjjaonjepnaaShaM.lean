/- sha.Parse and its reference. -/
import Derived.Test.YtbfdjjaonjepnaaShaL
namespace Go.Proofs.Ytbfdjjaonjepnaa
open Go.RowKit

theorem digF_bd (c : UInt8) : -1 ≤ digF c ∧ digF c ≤ 15 := by unfold digF; split <;> (try split) <;> omega
/-- The first i bytes of digits of sixteen; none: they are none. -/
def hpTo (l : List UInt8) : Nat → Option (List UInt8)
  | 0 => some []
  | i + 1 => match hpTo l i with
    | none => none
    | some p => if digF (gB l (2 * i)) < 0 ∨ digF (gB l (2 * i + 1)) < 0 then none else some (p ++ [UInt8.ofNat (16 * digF (gB l (2 * i)) + digF (gB l (2 * i + 1))).toNat])
def hpF (l : List UInt8) : Option (List UInt8) := if l.length = 64 then hpTo l 32 else none
theorem hpTo_none (l : List UInt8) (i j : Nat) (h : hpTo l i = none) (hij : i ≤ j) : hpTo l j = none := by
  induction j with
  | zero => obtain rfl : i = 0 := by omega
            exact h
  | succ j ih =>
    by_cases e : i = j + 1
    · rw [← e]; exact h
    · rw [hpTo, ih (by omega)]
theorem hpTo_length (l : List UInt8) : ∀ (i : Nat) (p : List UInt8), hpTo l i = some p → p.length = i := by
  intro i
  induction i with
  | zero => intro p h; simp [hpTo] at h; subst h; rfl
  | succ i ih =>
    intro p h
    rw [hpTo] at h
    cases hq : hpTo l i with
    | none => rw [hq] at h; cases h
    | some q =>
      rw [hq] at h
      simp only [] at h
      split at h
      · cases h
      · cases h
        rw [List.length_append, ih q hq]; rfl
/-- What Parse gives. -/
def hpV (r : Option (List UInt8)) : Value := .tuple #[.agg (c8 (r.getD (List.replicate 32 0))), .bool r.isSome]
theorem or16 (a b : Int) (ha : 0 ≤ a) (ha2 : a ≤ 15) (hb : 0 ≤ b) (hb2 : b ≤ 15) : bits BinOp.or IntKind.i64 (a * 16) b = a * 16 + b := by
  have h : ∀ (x y : Fin 16), bits BinOp.or IntKind.i64 ((x.val : Int) * 16) (y.val : Int) = (x.val : Int) * 16 + (y.val : Int) := by decide +kernel
  have := h ⟨a.toNat, by omega⟩ ⟨b.toNat, by omega⟩
  simp only [Int.toNat_of_nonneg ha, Int.toNat_of_nonneg hb] at this
  exact this
theorem str_index {P : Program} (t : TypeId) (ht : P.underlying t = some .string) (k : IntKind) (l : List UInt8) (i : Nat) (hi : i < l.length) (x : Int) (hx : x = (i : Int)) (w : World) :
    (Instr.index t (.string (bs l)) (.int k x)).run P w = .ok (.int .u8 ((gB l i).toNat : Int)) w := by
  subst hx
  rw [run_index_string w t _ k _ ht]
  have hi2 : (0 : Int) ≤ (i : Int) ∧ (i : Int) < ((bs l).size : Int) := by rw [bs_size]; omega
  rw [dif_pos hi2]
  congr 3
  simp only [ge_beq, Int.toNat_natCast, bs_toList, gB]
  rw [List.getD_eq_getElem?_getD, List.getElem?_eq_getElem hi]; rfl

theorem hpV_none : hpV none = .tuple #[.agg (cB 32 []), .bool false] := by rw [cB_none]; rfl
theorem hpV_some (p : List UInt8) (h : p.length = 32) : hpV (some p) = .tuple #[.agg (cB 32 p), .bool true] := by rw [cB_full 32 p h]; rfl
set_option maxRecDepth 100000 in
set_option maxHeartbeats 1000000 in
theorem parse_any (l : List UInt8) (w : World) : Calls Try.prog 41 #[.string (bs l)] w (Ret w (hpV (hpF l))) := by
  have hsz := bs_size l
  by_cases h64 : l.length = 64
  · have H64 := Lib.hid h64
    have HR : Hid (hpF l = hpTo l 32) := Lib.hid (by rw [hpF, if_pos h64])
    rw [h64] at hsz
    clear h64
    go_enter Try.func41, Try.ntmps41
    go_wp2_with (refine wpList_alloc_g rfl _ rfl _ _ Try.zeroHash rfl ?_)
    intro R w1 h1
    go_wp2_with (refine wpList_alloc_g rfl _ rfl _ _ Try.zeroHash rfl ?_)
    intro E w2 h2
    go_wp2_with fail
    have hR : w2.heap[R]? = some (.cells (cB 32 []) 48 (0, 0)) := (h2.out.below.block R (heap_lt h1.out.cells)).trans h1.out.cells
    have hRE : R < E := by have := h1.out.eq; have := h2.out.eq; have := h1.out.size; omega
    have hwR : w.heap.size ≤ R := by have := h1.out.eq; omega
    have hbl : Below w.heap.size w w2 := h1.out.below.trans (h2.out.below.mono h1.out.below.size)
    have HRr := Lib.hid hR; have HBL := Lib.hid hbl
    clear hR hbl
    go_loopw [5, 6, 7, 12] (fun _ _ _ y wr => ∃ (i : Nat) (p : List UInt8), i ≤ 32 ∧ y = .int .i64 i ∧ hpTo l i = some p ∧ wr.heap[E]? = some (.cells (cB 32 p) 48 (0, 0)) ∧ wr.heap[R]? = some (.cells (cB 32 []) 48 (0, 0)) ∧ Below w.heap.size w wr) (fun _ _ _ y _ => 32 - (intOf y).toNat)
    case atStart => exact ⟨0, [], Nat.zero_le _, rfl, rfl, h2.out.cells, HRr.out, HBL.out⟩
    case round =>
      obtain ⟨i, p, hi, rfl, hp, hE, hR, hb⟩ := hrel
      have hpl := hpTo_length l i p hp
      by_cases hlt : i < 32
      · have j0 : (i : Int) < 32 := by omega
        have hx1 : ∀ w, (Instr.index 9 (.string (bs l)) (.int .i64 (2 * (i : Int)))).run Try.prog w = .ok (.int .u8 ((gB l (2 * i)).toNat : Int)) w := fun w =>
          str_index _ Try.underlying9 _ _ _ (by rw [H64.out]; omega) _ (by omega) w
        have hx2 : ∀ w, (Instr.index 9 (.string (bs l)) (.int .i64 (2 * (i : Int) + 1))).run Try.prog w = .ok (.int .u8 ((gB l (2 * i + 1)).toNat : Int)) w := fun w =>
          str_index _ Try.underlying9 _ _ _ (by rw [H64.out]; omega) _ (by omega) w
        have x1 : IntKind.i64.wrap (2 * (i : Int) + 1) = 2 * (i : Int) + 1 := by rw [IntKind.wrap_i64]; omega
        have x2 : IntKind.i64.wrap (2 * (i : Int)) = 2 * (i : Int) := by rw [IntKind.wrap_i64]; omega
        have hp1 : hpTo l (i + 1) = if digF (gB l (2 * i)) < 0 ∨ digF (gB l (2 * i + 1)) < 0 then none else some (p ++ [UInt8.ofNat (16 * digF (gB l (2 * i)) + digF (gB l (2 * i + 1))).toNat]) := by rw [hpTo, hp]
        have hd1 := fun w => digit_any (gB l (2 * i)) w
        have hd2 := fun w => digit_any (gB l (2 * i + 1)) w
        obtain ⟨a, ha⟩ : ∃ a, a = digF (gB l (2 * i)) := ⟨_, rfl⟩
        obtain ⟨b, hbb⟩ : ∃ b, b = digF (gB l (2 * i + 1)) := ⟨_, rfl⟩
        have ba := digF_bd (gB l (2 * i))
        have bb := digF_bd (gB l (2 * i + 1))
        rw [← ha] at hp1 ba hd1
        rw [← hbb] at hp1 bb hd2
        obtain ⟨ba1, ba2⟩ := ba
        obtain ⟨bb1, bb2⟩ := bb
        have HP := Lib.hid hp; have HP1 := Lib.hid hp1; have HE := Lib.hid hE; have HR2 := Lib.hid hR; have HB := Lib.hid hb; have HPL := Lib.hid hpl; have D1 := Lib.hid hd1; have D2 := Lib.hid hd2
        clear hp hp1 hE hR hb ha hbb hpl hd1 hd2
        go_wp2_with fail
        go_quiet ((first | (go_at_call 46; (with_reducible exact Calls.quiet_of_same ((D1.out _).mono fun e w' h => ⟨h.1, h.2.symm⟩))) | (go_at_call 46; (with_reducible exact Calls.quiet_of_same ((D2.out _).mono fun e w' h => ⟨h.1, h.2.symm⟩)))))
        obtain ⟨wq, hwq⟩ : ∃ wq, wq = wr.drewN nq := ⟨_, rfl⟩
        rw [← hwq]
        have q1 : wq.heap[E]? = some (.cells (cB 32 p) 48 (0, 0)) := by rw [hwq]; exact HE.out
        have q2 : wq.heap[R]? = some (.cells (cB 32 []) 48 (0, 0)) := by rw [hwq]; exact HR2.out
        have q3 : Below w.heap.size w wq := by rw [hwq]; exact below_drewN HB.out _
        have Q1 := Lib.hid q1; have Q2 := Lib.hid q2; have Q3 := Lib.hid q3
        clear hwq q1 q2 q3 HE HR2 HB
        by_cases hn : a < 0 ∨ b < 0
        · have hnone : hpF l = none := by rw [HR.out]; exact hpTo_none l (i + 1) 32 (by rw [HP1.out, if_pos hn]) (by omega)
          have HNV : Hid (hpV (hpF l) = .tuple #[.agg (cB 32 []), .bool false]) := Lib.hid (by rw [hnone, hpV_none])
          rcases (show a < 0 ∨ (0 ≤ a ∧ b < 0) by omega) with hn2 | ⟨hn3, hn2⟩
          all_goals
            clear hn hnone
            go_wp2_with (refine wpList_store_row_g (t := 48) (old := cB 32 []) rfl 48 (.tmp 2) _ rfl R (cB 32 []) rfl (by kernel_rfl) Q2.out (Try.sizeZ [] (by simp)) rfl (one_b _ _) ?_)
            intro w7 h7 k7 z7
            have H7 := Lib.hid h7
            have H8 := Lib.hid (Q3.out.trans (k7.below (B := w.heap.size) (by intro k hk2 e; omega) Q3.out.size))
            clear h7 k7 z7
            go_wp2_with fail
            exact bodyPost_ret (res_row_val rfl _ _ R _ (cB 32 []) _ _ rfl H7.out Try.underlying48 rfl (Try.sizeZ [] (by simp)) (.bool false) rfl) rfl ⟨congrArg Ending.returned HNV.out.symm, H8.out⟩
        · have a0 : 0 ≤ a := by omega
          have b0 : 0 ≤ b := by omega
          have hor := or16 a b a0 ba2 b0 bb2
          have hs1 : hpTo l (i + 1) = some (p ++ [UInt8.ofNat (16 * a + b).toNat]) := by rw [HP1.out, if_neg hn]
          have hv : (UInt8.ofNat (16 * a + b).toNat).toNat = (16 * a + b).toNat := by rw [UInt8.toNat_ofNat']; omega
          have hset : (cB 32 p).setIfInBounds i (.int .u8 (a * 16 + b)) = cB 32 (p ++ [UInt8.ofNat (16 * a + b).toNat]) := by
            have := cB_set 32 p (UInt8.ofNat (16 * a + b).toNat) (by rw [HPL.out]; exact hlt)
            rw [HPL.out, hv] at this
            rw [← this]; congr 2; omega
          have HS1 := Lib.hid hs1; have HSET := Lib.hid hset
          clear hs1 hset hv hn
          go_wp2_with ((refine wpList_store1_g rfl _ _ _ rfl E i (.int .u8 (a * 16 + b)) rfl rfl rfl rfl 48 _ Q1.out (by kernel_rfl) (by rw [cB_size _ _ (by rw [HPL.out]; exact hi)]; exact hlt) _ HSET.out ?_))
          intro w7 h7 k7 z7
          have H7 := Lib.hid h7; have K7 := Lib.hid k7
          clear h7 k7 z7
          go_wp2_with fail
          go_roundw
          case rel => exact ⟨i + 1, _, by omega, by go_num, HS1.out, H7.out, K7.out.at Q2.out (by omega), Q3.out.trans (K7.out.below (B := w.heap.size) (by intro k hk2 e; omega) Q3.out.size)⟩
          case measure => simp [intOf]; omega
      · obtain rfl : i = 32 := by omega
        have hsome : hpF l = some p := by rw [HR.out]; exact hp
        have HNV : Hid (hpV (hpF l) = .tuple #[.agg (cB 32 p), .bool true]) := Lib.hid (by rw [hsome, hpV_some p hpl])
        have HPL := Lib.hid hpl; have HE := Lib.hid hE; have HR2 := Lib.hid hR; have HB := Lib.hid hb
        clear hsome hpl hE hR hb hp
        go_wp2_with (first | (refine wpList_load_row rfl _ _ rfl E rfl _ (cB 32 p) _ _ HE.out Try.underlying48 rfl (Try.sizeZ _ (by rw [HPL.out]; omega)) ?_) | (refine wpList_store_row_g (t := 48) (old := cB 32 []) rfl 48 (.tmp 2) _ rfl R (cB 32 p) rfl rfl HR2.out (Try.sizeZ _ (by rw [HPL.out]; omega)) (by rw [cB_size _ _ (by simp), cB_size _ _ (by rw [HPL.out]; omega)]) (one_b _ _) ?_))
        intro w7 h7 k7 z7
        have H7 := Lib.hid h7
        have H8 := Lib.hid (HB.out.trans (k7.below (B := w.heap.size) (by intro k hk2 e; omega) HB.out.size))
        clear h7 k7 z7
        go_wp2_with fail
        exact bodyPost_ret (res_row_val rfl _ _ R _ (cB 32 p) _ _ rfl H7.out Try.underlying48 rfl (Try.sizeZ _ (by rw [HPL.out]; omega)) (.bool true) rfl) rfl ⟨congrArg Ending.returned HNV.out.symm, H8.out⟩
  · have hnone : hpF l = none := by rw [hpF, if_neg h64]
    have HNV : Hid (hpV (hpF l) = .tuple #[.agg (cB 32 []), .bool false]) := Lib.hid (by rw [hnone, hpV_none])
    have hne : ¬ ((bs l).size : Int) = 64 := by rw [hsz]; omega
    clear hsz hnone
    go_enter Try.func41, Try.ntmps41
    go_wp2_with (refine wpList_alloc_g rfl _ rfl _ _ Try.zeroHash rfl ?_)
    intro R w1 h1
    go_wp2_with (refine wpList_alloc_g rfl _ rfl _ _ Try.zeroHash rfl ?_)
    intro E w2 h2
    have hR : w2.heap[R]? = some (.cells (cB 32 []) 48 (0, 0)) := (h2.out.below.block R (heap_lt h1.out.cells)).trans h1.out.cells
    have hwR : w.heap.size ≤ R := by have := h1.out.eq; omega
    have hbl : Below w.heap.size w w2 := h1.out.below.trans (h2.out.below.mono h1.out.below.size)
    have HRr := Lib.hid hR; have HBL := Lib.hid hbl
    clear hR hbl
    go_wp2_with (first | (refine wpList_load_row rfl _ _ rfl E rfl _ (cB 32 []) _ _ h2.out.cells Try.underlying48 rfl (Try.sizeZ [] (by simp)) ?_) | (refine wpList_store_row_g (t := 48) (old := cB 32 []) rfl 48 (.tmp 2) _ rfl R (cB 32 []) rfl rfl HRr.out (Try.sizeZ [] (by simp)) rfl (one_b _ _) ?_))
    intro w7 h7 k7 z7
    have H7 := Lib.hid h7
    have H8 := Lib.hid (HBL.out.trans (k7.below (B := w.heap.size) (by intro k hk2 e; omega) HBL.out.size))
    clear h7 k7 z7
    go_wp2_with fail
    exact bodyPost_ret (res_row_val rfl _ _ R _ (cB 32 []) _ _ rfl H7.out Try.underlying48 rfl (Try.sizeZ [] (by simp)) (.bool false) rfl) rfl ⟨congrArg Ending.returned HNV.out.symm, H8.out⟩
end Go.Proofs.Ytbfdjjaonjepnaa
