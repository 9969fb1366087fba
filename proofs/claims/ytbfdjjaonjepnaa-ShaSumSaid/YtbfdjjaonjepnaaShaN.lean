/- The reference's Bytes and Parse. -/
import Derived.Test.YtbfdjjaonjepnaaShaM
namespace Go.Proofs.Ytbfdjjaonjepnaa
open Go.RowKit

def hbF (l : List UInt8) : Option (List UInt8) := if l.length % 2 = 0 then hpTo l (l.length / 2) else none
/-- How Bytes ends. -/
def BytesEnd (w : World) (r : Option (List UInt8)) (e : Ending) (w' : World) : Prop :=
  Below w.heap.size w w' ∧ ∃ v, e = .returned (.tuple #[v, .bool r.isSome]) ∧ Rd w' u8E 1 v (r.getD []) ∧ ∀ k, v.ownBlock = some k → w.heap.size ≤ k
theorem bytesEnd_none {w w' : World} (h : Below w.heap.size w w') : BytesEnd w none (.returned (.tuple #[.slice none 0 0, .bool false])) w' := ⟨h, _, rfl, Rd.nil _ _ _, fun k hk => by cases hk⟩

set_option maxRecDepth 100000 in
set_option maxHeartbeats 1000000 in
theorem bytes_any (l : List UInt8) (w : World) (hl : l.length ≤ 140737488355328) : Calls Try.prog 80 #[.string (bs l)] w (BytesEnd w (hbF l)) := by
  have hsz := bs_size l
  by_cases h2 : l.length % 2 = 0
  · have HR : Hid (hbF l = hpTo l (l.length / 2)) := Lib.hid (by rw [hbF, if_pos h2])
    obtain ⟨n, hn⟩ : ∃ n, l.length = 2 * n := ⟨l.length / 2, by omega⟩
    have HN := Lib.hid hn
    have e1 : ((bs l).size : Int) % 2 = 0 := by rw [hsz]; omega
    have e2 : ((bs l).size : Int) = 2 * (n : Int) := by rw [hsz]; omega
    have hn2 : 2 * n ≤ 140737488355328 := by omega
    clear h2 hn hsz hl
    go_enter Try.func80, Try.ntmps80
    go_wp2_with fail
    go_loopw [4, 5, 6, 7] (fun x y _ _ wr => ∃ (i : Nat) (p : List UInt8), i ≤ n ∧ y = .int .i64 (2 * (i : Int)) ∧ hpTo l i = some p ∧ Own wr w.heap.size 5 u8E 1 x p ∧ Below w.heap.size w wr) (fun _ y _ _ _ => 2 * n - (intOf y).toNat)
    case atStart => exact ⟨0, [], Nat.zero_le _, rfl, rfl, Own.nil _ _ _ _ _, Below.refl _ _⟩
    case round =>
      obtain ⟨i, p, hi, rfl, hp, hown, hb⟩ := hrel
      have hpl := hpTo_length l i p hp
      by_cases hlt : i < n
      · have hx1 : ∀ w, (Instr.index 9 (.string (bs l)) (.int .i64 (2 * (i : Int)))).run Try.prog w = .ok (.int .u8 ((gB l (2 * i)).toNat : Int)) w := fun w =>
          str_index _ Try.underlying9 _ _ _ (by rw [HN.out]; omega) _ (by omega) w
        have hx2 : ∀ w, (Instr.index 9 (.string (bs l)) (.int .i64 (2 * (i : Int) + 1))).run Try.prog w = .ok (.int .u8 ((gB l (2 * i + 1)).toNat : Int)) w := fun w =>
          str_index _ Try.underlying9 _ _ _ (by rw [HN.out]; omega) _ (by omega) w
        have x1 : IntKind.i64.wrap (2 * (i : Int) + 1) = 2 * (i : Int) + 1 := by rw [IntKind.wrap_i64]; omega
        have l1 : 2 * (i : Int) + 1 < 2 * (n : Int) := by omega
        have hp1 : hpTo l (i + 1) = if digF (gB l (2 * i)) < 0 ∨ digF (gB l (2 * i + 1)) < 0 then none else some (p ++ [UInt8.ofNat (16 * digF (gB l (2 * i)) + digF (gB l (2 * i + 1))).toNat]) := by rw [hpTo, hp]
        have hd1 := fun w => refDigit_any (gB l (2 * i)) w
        have hd2 := fun w => refDigit_any (gB l (2 * i + 1)) w
        obtain ⟨a, ha⟩ : ∃ a, a = digF (gB l (2 * i)) := ⟨_, rfl⟩
        obtain ⟨b, hbb⟩ : ∃ b, b = digF (gB l (2 * i + 1)) := ⟨_, rfl⟩
        have ba := digF_bd (gB l (2 * i))
        have bb := digF_bd (gB l (2 * i + 1))
        rw [← ha] at hp1 ba hd1
        rw [← hbb] at hp1 bb hd2
        obtain ⟨ba1, ba2⟩ := ba
        obtain ⟨bb1, bb2⟩ := bb
        have HP := Lib.hid hp; have HP1 := Lib.hid hp1; have HO := Lib.hid hown; have HB := Lib.hid hb; have HPL := Lib.hid hpl; have D1 := Lib.hid hd1; have D2 := Lib.hid hd2
        clear hp hp1 hown hb ha hbb hpl hd1 hd2
        go_wp2_with fail
        go_quiet ((first | (go_at_call 95; (with_reducible exact Calls.quiet_of_same ((D1.out _).mono fun e w' h => ⟨h.1, h.2.symm⟩))) | (go_at_call 95; (with_reducible exact Calls.quiet_of_same ((D2.out _).mono fun e w' h => ⟨h.1, h.2.symm⟩)))))
        obtain ⟨wq, hwq⟩ : ∃ wq, wq = wr.drewN nq := ⟨_, rfl⟩
        rw [← hwq]
        have q1 : Own wq w.heap.size 5 u8E 1 u4 p := by rw [hwq]; exact HO.out.later (below_drewN (Below.refl _ _) _)
        have q3 : Below w.heap.size w wq := by rw [hwq]; exact below_drewN HB.out _
        have Q1 := Lib.hid q1; have Q3 := Lib.hid q3
        clear hwq q1 q3 HO HB
        by_cases hneg : a < 0 ∨ b < 0
        · have hnone : hbF l = none := by rw [HR.out]; exact hpTo_none l (i + 1) _ (by rw [HP1.out, if_pos hneg]) (by have := HN.out; omega)
          have HNONE := Lib.hid hnone
          rcases (show a < 0 ∨ (0 ≤ a ∧ b < 0) by omega) with hn2 | ⟨hn3, hn2⟩
          all_goals
            clear hneg hnone
            go_wp2_with fail
            go_ret2
            rw [HNONE.out]
            exact bytesEnd_none Q3.out
        · have a0 : 0 ≤ a := by omega
          have b0 : 0 ≤ b := by omega
          have hs1 : hpTo l (i + 1) = some (p ++ [UInt8.ofNat (16 * a + b).toNat]) := by rw [HP1.out, if_neg hneg]
          have hv : u8E (UInt8.ofNat (16 * a + b).toNat) = [.int .u8 (16 * a + b)] := by
            have : (UInt8.ofNat (16 * a + b).toNat).toNat = (16 * a + b).toNat := by rw [UInt8.toNat_ofNat']; omega
            unfold u8E byteV; rw [this, Int.toNat_of_nonneg (by omega)]
          have HS1 := Lib.hid hs1; have HV := Lib.hid hv
          clear hs1 hv hneg
          go_wp2_with (at_builtin; refine own_app1 rfl _ _ _ rfl Try.underlying43 Try.infoU8 rfl (UInt8.ofNat (16 * a + b).toNat) Q1.out rfl rfl HV.out rfl (by rw [HPL.out]; unfold maxLen; omega) (by rw [HPL.out]; omega) Q3.out (Nat.le_refl _) Q3.out.size (Nat.le_refl _) ?_)
          intro v' w' h5 h6 h7
          clear h7
          have H5 := Lib.hid h5; have H6 := Lib.hid h6
          clear h5 h6
          go_wp2_with fail
          go_roundw
          case rel => exact ⟨i + 1, _, by omega, by go_num, HS1.out, H5.out, H6.out⟩
          case measure => simp [intOf]; omega
      · obtain rfl : i = n := by omega
        have l1 : ¬ 2 * (i : Int) + 1 < 2 * (i : Int) := by omega
        have hsome : hbF l = some p := by rw [HR.out, show l.length / 2 = i by have := HN.out; omega]; exact hp
        have HSM := Lib.hid hsome; have HO := Lib.hid hown; have HB := Lib.hid hb
        clear hsome hp hown hb hpl
        go_wp2_with fail
        go_ret2
        rw [HSM.out]
        exact ⟨HB.out, _, rfl, HO.out.rd (fun _ => rfl), fun k hk => (HO.out.lt k hk).1⟩
  · have hnone : hbF l = none := by rw [hbF, if_neg h2]
    rw [hnone]
    have e1 : ¬ ((bs l).size : Int) % 2 = 0 := by rw [hsz]; omega
    have hb := hl
    clear hsz hnone
    go_enter Try.func80, Try.ntmps80
    go_wp2_with fail
    go_ret2
    exact bytesEnd_none (Below.refl _ _)

theorem hpF_hb (l : List UInt8) : hpF l = match hbF l with | some p => if p.length = 32 then some p else none | none => none := by
  unfold hpF hbF
  by_cases h : l.length = 64
  · rw [if_pos h, if_pos (by omega), h]
    cases hq : hpTo l (64 / 2) with
    | none => rfl
    | some p => simp only []; rw [if_pos (hpTo_length l 32 p hq)]
  · rw [if_neg h]
    by_cases h2 : l.length % 2 = 0
    · rw [if_pos h2]
      cases hq : hpTo l (l.length / 2) with
      | none => rfl
      | some p => simp only []; rw [if_neg (by rw [hpTo_length l _ p hq]; omega)]
    · rw [if_neg h2]

set_option maxRecDepth 100000 in
set_option maxHeartbeats 1000000 in
theorem refParse_any (l : List UInt8) (w : World) (hl : l.length ≤ 140737488355328) : Calls Try.prog 42 #[.string (bs l)] w (Ret w (hpV (hpF l))) := by
  have hq := hpF_hb l
  obtain ⟨r, hr⟩ : ∃ r, r = hbF l := ⟨_, rfl⟩
  have hby := fun w => bytes_any l w hl
  rw [← hr] at hq hby
  have HQ := Lib.hid hq; have HBY := Lib.hid hby
  clear hr hq hby hl
  go_enter Try.func42, Try.ntmps42
  go_wp2_with (refine wpList_alloc_g rfl _ rfl _ _ Try.zeroHash rfl ?_)
  intro R w1 h1
  go_wp2_with (refine wpList_alloc_g rfl _ rfl _ _ Try.zeroHash rfl ?_)
  intro E w2 h2
  go_wp2_with fail
  refine (HBY.out _).mono ?_
  rintro e w3 ⟨hb3, v, rfl, hrd, hvk⟩
  have z2 := h1.out.size
  have eR := h1.out.eq
  have eE := h2.out.eq
  have s2 := h2.out.below.size
  have hR : w3.heap[R]? = some (.cells (cB 32 []) 48 (0, 0)) := (hb3.block R (by omega)).trans ((h2.out.below.block R (heap_lt h1.out.cells)).trans h1.out.cells)
  have hE : w3.heap[E]? = some (.cells (cB 32 []) 48 (0, 0)) := (hb3.block E (heap_lt h2.out.cells)).trans h2.out.cells
  have hRE : R < E := by omega
  have hwR : w.heap.size ≤ R := by omega
  have hE3 : E < w2.heap.size := heap_lt h2.out.cells
  have hbl : Below w.heap.size w w3 := h1.out.below.trans ((h2.out.below.mono h1.out.below.size).trans (hb3.mono (Nat.le_trans h1.out.below.size h2.out.below.size)))
  obtain ⟨ad, cap, rfl, hc1, hc2⟩ := hrd.shape
  have HRr := Lib.hid hR; have HEe := Lib.hid hE; have HBL := Lib.hid hbl; have HRD := Lib.hid hrd; have HVK := Lib.hid hvk
  clear hvk
  clear hR hE hbl hrd z2 eR eE s2 hb3
  by_cases hok : r.isSome = true ∧ (r.getD []).length = 32
  · obtain ⟨p, rfl⟩ : ∃ p, r = some p := by cases r with | none => simp at hok | some p => exact ⟨p, rfl⟩
    simp only [Option.getD_some, Option.isSome_some] at hc1 hc2 hok HRD ⊢
    have hpl := hok.2
    have HNV : Hid (hpV (hpF l) = .tuple #[.agg (cB 32 p), .bool true]) := Lib.hid (by rw [HQ.out]; simp only []; rw [if_pos hpl, hpV_some p hpl])
    rw [hpl] at hc1 HRD ⊢
    have HPL := Lib.hid hpl
    clear hok hpl
    go_wp2_with fail
    go_loopw [7, 21] (fun _ y wr => ∃ i : Nat, i ≤ 32 ∧ y = .int .i64 i ∧ wr.heap[E]? = some (.cells (cB 32 (p.take i)) 48 (0, 0)) ∧ Keep (· = E) w3 wr) (fun _ y _ => 32 - (intOf y).toNat)
    case atStart => exact ⟨0, Nat.zero_le _, rfl, HEe.out, Keep.refl _ _⟩
    case round =>
      obtain ⟨i, hi, rfl, hE, hk⟩ := hrel
      by_cases hlt : i < 32
      · have hrd2 : Rd wr u8E 1 (.slice ad 32 cap) p := HRD.out.keep hk (fun k hk2 _ e => by have := HVK.out k (by cases ad <;> exact hk2); omega)
        obtain ⟨sb, so, rfl, hsb, hcl⟩ := hrd2.at i (by rw [HPL.out]; exact hlt)
        have hcl2 : wr.cell? ⟨sb, so + i, none⟩ = some (.int .u8 ((gB p i).toNat : Int)) := by
          rw [hcl]
          have : i < p.length := by rw [HPL.out]; exact hlt
          simp [u8E, byteV, gB, List.getD, List.getElem?_eq_getElem this]
        have hset : (cB 32 (p.take i)).setIfInBounds i (.int .u8 ((gB p i).toNat : Int)) = cB 32 (p.take (i + 1)) := by
          have := cB_set 32 (p.take i) (gB p i) (by simp; omega)
          rw [take_snocB p i (by rw [HPL.out]; exact hlt), ← this]
          congr 1
          simp [HPL.out]; omega
        have j0 : (i : Int) < 32 := by omega
        have HSET := Lib.hid hset; have HE := Lib.hid hE; have HK := Lib.hid hk
        clear hset hE hk hrd2 hcl hsb
        go_wp2_with ((refine wpList_store1_g rfl _ _ _ rfl E i (.int .u8 ((gB p i).toNat : Int)) rfl rfl rfl rfl 48 _ HE.out (by kernel_rfl) (by rw [cB_size _ _ (by simp; omega)]; exact hlt) _ HSET.out ?_))
        intro w7 h7 k7 z7
        have H7 := Lib.hid h7; have K7 := Lib.hid k7
        clear h7 k7 z7
        go_wp2_with fail
        go_roundw
        case rel => exact ⟨i + 1, by omega, by go_num, H7.out, HK.out.then K7.out (fun x hx => .inl hx)⟩
        case measure => simp [intOf]; omega
      · obtain rfl : i = 32 := by omega
        rw [List.take_of_length_le (by rw [HPL.out]; omega)] at hE
        have hR2 : wr.heap[R]? = some (.cells (cB 32 []) 48 (0, 0)) := hk.at HRr.out (by omega)
        have hb2 : Below w.heap.size w wr := HBL.out.trans (hk.below (B := w.heap.size) (by intro k hk2 e; omega) HBL.out.size)
        have HE := Lib.hid hE; have HR2 := Lib.hid hR2; have HB := Lib.hid hb2
        clear hE hk hR2 hb2
        go_wp2_with (first | (refine wpList_load_row rfl _ _ rfl E rfl _ (cB 32 p) _ _ HE.out Try.underlying48 rfl (Try.sizeZ _ (by rw [HPL.out]; omega)) ?_) | (refine wpList_store_row_g (t := 48) (old := cB 32 []) rfl 48 (.tmp 2) _ rfl R (cB 32 p) rfl rfl HR2.out (Try.sizeZ _ (by rw [HPL.out]; omega)) (by rw [cB_size _ _ (by simp), cB_size _ _ (by rw [HPL.out]; omega)]) (one_b _ _) ?_))
        intro w7 h7 k7 z7
        have H7 := Lib.hid h7
        have H8 := Lib.hid (HB.out.trans (k7.below (B := w.heap.size) (by intro k hk2 e; omega) HB.out.size))
        clear h7 k7 z7
        go_wp2_with fail
        exact bodyPost_ret (res_row_val rfl _ _ R _ (cB 32 p) _ _ rfl H7.out Try.underlying48 rfl (Try.sizeZ _ (by rw [HPL.out]; omega)) (.bool true) rfl) rfl ⟨congrArg Ending.returned HNV.out.symm, H8.out⟩
  · have hnone : hpF l = none := by
      rw [HQ.out]
      cases r with
      | none => rfl
      | some p => simp only []; exact if_neg (fun h => hok ⟨rfl, h⟩)
    have HNV : Hid (hpV (hpF l) = .tuple #[.agg (cB 32 []), .bool false]) := Lib.hid (by rw [hnone, hpV_none])
    clear hnone
    rcases (show r.isSome = false ∨ (r.isSome = true ∧ ¬ (r.getD []).length = 32) by
      cases h : r.isSome with
      | false => exact .inl rfl
      | true => exact .inr ⟨rfl, fun h2 => hok ⟨h, h2⟩⟩) with hf | ⟨hf, hne⟩
    · rw [hf]
      clear hok hf
      go_wp2_with (first | (refine wpList_load_row rfl _ _ rfl E rfl _ (cB 32 []) _ _ HEe.out Try.underlying48 rfl (Try.sizeZ [] (by simp)) ?_) | (refine wpList_store_row_g (t := 48) (old := cB 32 []) rfl 48 (.tmp 2) _ rfl R (cB 32 []) rfl rfl HRr.out (Try.sizeZ [] (by simp)) rfl (one_b _ _) ?_))
      intro w7 h7 k7 z7
      have H7 := Lib.hid h7
      have H8 := Lib.hid (HBL.out.trans (k7.below (B := w.heap.size) (by intro k hk2 e; omega) HBL.out.size))
      clear h7 k7 z7
      go_wp2_with fail
      exact bodyPost_ret (res_row_val rfl _ _ R _ (cB 32 []) _ _ rfl H7.out Try.underlying48 rfl (Try.sizeZ [] (by simp)) (.bool false) rfl) rfl ⟨congrArg Ending.returned HNV.out.symm, H8.out⟩
    · rw [hf]
      obtain ⟨n, hn⟩ : ∃ n, n = (r.getD []).length := ⟨_, rfl⟩
      rw [← hn] at hne hc1 ⊢
      have hne2 : ¬ (n : Int) = 32 := by omega
      clear hok hf hn
      go_wp2_with (first | (refine wpList_load_row rfl _ _ rfl E rfl _ (cB 32 []) _ _ HEe.out Try.underlying48 rfl (Try.sizeZ [] (by simp)) ?_) | (refine wpList_store_row_g (t := 48) (old := cB 32 []) rfl 48 (.tmp 2) _ rfl R (cB 32 []) rfl rfl HRr.out (Try.sizeZ [] (by simp)) rfl (one_b _ _) ?_))
      intro w7 h7 k7 z7
      have H7 := Lib.hid h7
      have H8 := Lib.hid (HBL.out.trans (k7.below (B := w.heap.size) (by intro k hk2 e; omega) HBL.out.size))
      clear h7 k7 z7
      go_wp2_with fail
      exact bodyPost_ret (res_row_val rfl _ _ R _ (cB 32 []) _ _ rfl H7.out Try.underlying48 rfl (Try.sizeZ [] (by simp)) (.bool false) rfl) rfl ⟨congrArg Ending.returned HNV.out.symm, H8.out⟩
end Go.Proofs.Ytbfdjjaonjepnaa
