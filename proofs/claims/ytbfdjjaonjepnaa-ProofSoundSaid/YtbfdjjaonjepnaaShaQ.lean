/- Plain facts on digits of sixteen, and '==' of hashes. No condition. -/
import Derived.Test.YtbfdjjaonjepnaaShaM
namespace Go.Proofs.Ytbfdjjaonjepnaa
open Go.RowKit

theorem digF_hexC (n : Nat) (h : n < 16) : digF (hexC n) = n := by
  have : ∀ m : Fin 16, digF (hexC m.val) = (m.val : Int) := by decide
  exact this ⟨n, h⟩
theorem hexC_digF (c : UInt8) (h : ¬ digF c < 0) : hexC (digF c).toNat = c := by
  have : ∀ m : Fin 256, ¬ digF (UInt8.ofNat m.val) < 0 → hexC (digF (UInt8.ofNat m.val)).toNat = UInt8.ofNat m.val := by decide +kernel
  have h2 := this ⟨c.toNat, c.toNat_lt⟩
  simp only [UInt8.ofNat_toNat] at h2
  exact h2 h
theorem hexF_cons (c : UInt8) (l : List UInt8) : hexF (c :: l) = hexC (c.toNat / 16) :: hexC (c.toNat % 16) :: hexF l := rfl
theorem gB_hex : ∀ (h : List UInt8) (i : Nat), i < h.length → gB (hexF h) (2 * i) = hexC ((gB h i).toNat / 16) ∧ gB (hexF h) (2 * i + 1) = hexC ((gB h i).toNat % 16)
  | c :: h, 0, _ => ⟨rfl, rfl⟩
  | c :: h, i + 1, hi => gB_hex h i (by simpa using hi)
theorem hex_back (h : List UInt8) (h32 : h.length = 32) : hpF (hexF h) = some h := by
  have hi : ∀ i, i ≤ 32 → hpTo (hexF h) i = some (h.take i) := by
    intro i
    induction i with
    | zero => intro _; rfl
    | succ i ih =>
      intro hi
      have hb := gB_hex h i (by omega)
      have hc := (gB h i).toNat_lt
      rw [hpTo, ih (by omega)]
      simp only [hb.1, hb.2, digF_hexC _ (show (gB h i).toNat / 16 < 16 by omega), digF_hexC _ (show (gB h i).toNat % 16 < 16 by omega)]
      rw [if_neg (by omega), take_snocB h i (by omega)]
      have e : (16 * (((gB h i).toNat / 16 : Nat) : Int) + (((gB h i).toNat % 16 : Nat) : Int)).toNat = (gB h i).toNat := by omega
      rw [e, UInt8.ofNat_toNat]
  rw [hpF, if_pos (by rw [hexF_length, h32]), hi 32 (Nat.le_refl _), List.take_of_length_le (by omega)]
theorem take2_snoc (l : List UInt8) (i : Nat) (h : 2 * i + 1 < l.length) : l.take (2 * (i + 1)) = l.take (2 * i) ++ [gB l (2 * i), gB l (2 * i + 1)] := by
  rw [show 2 * (i + 1) = 2 * i + 1 + 1 by omega, take_snocB l (2 * i + 1) h, take_snocB l (2 * i) (by omega), List.append_assoc]
  rfl
theorem hex_of (l p : List UInt8) (h : hpF l = some p) : hexF p = l := by
  have hi : ∀ i p, 2 * i ≤ l.length → hpTo l i = some p → hexF p = l.take (2 * i) := by
    intro i
    induction i with
    | zero => intro p _ h; simp [hpTo] at h; subst h; rfl
    | succ i ih =>
      intro p hl h
      rw [hpTo] at h
      cases hq : hpTo l i with
      | none => rw [hq] at h; cases h
      | some q =>
        rw [hq] at h
        simp only [] at h
        by_cases hn : digF (gB l (2 * i)) < 0 ∨ digF (gB l (2 * i + 1)) < 0
        · rw [if_pos hn] at h; cases h
        · rw [if_neg hn] at h
          cases h
          have b1 := digF_bd (gB l (2 * i))
          have b2 := digF_bd (gB l (2 * i + 1))
          have e : (UInt8.ofNat (16 * digF (gB l (2 * i)) + digF (gB l (2 * i + 1))).toNat).toNat = (16 * digF (gB l (2 * i)) + digF (gB l (2 * i + 1))).toNat := by rw [UInt8.toNat_ofNat']; omega
          rw [hexF_snoc, e, ih q (by omega) hq, take2_snoc l i (by omega),
            show (16 * digF (gB l (2 * i)) + digF (gB l (2 * i + 1))).toNat / 16 = (digF (gB l (2 * i))).toNat by omega,
            show (16 * digF (gB l (2 * i)) + digF (gB l (2 * i + 1))).toNat % 16 = (digF (gB l (2 * i + 1))).toNat by omega,
            hexC_digF _ (by omega), hexC_digF _ (by omega)]
  unfold hpF at h
  by_cases h64 : l.length = 64
  · rw [if_pos h64] at h
    rw [hi 32 p (by omega) h, List.take_of_length_le (by omega)]
  · rw [if_neg h64] at h; cases h
theorem hpF_len (l p : List UInt8) (h : hpF l = some p) : p.length = 32 := by
  unfold hpF at h
  by_cases h64 : l.length = 64
  · rw [if_pos h64] at h; exact hpTo_length l 32 p h
  · rw [if_neg h64] at h; cases h
theorem c8_ints (l : List UInt8) : c8 l = ((l.map fun c => (c.toNat : Int)).map (Value.int .u8)).toArray := by
  simp [c8, byteV]
theorem map_toInt_inj (l m : List UInt8) : ((l.map fun c => (c.toNat : Int)) = m.map fun c => (c.toNat : Int)) ↔ l = m := by
  refine ⟨fun h => ?_, fun h => h ▸ rfl⟩
  induction l generalizing m with
  | nil => cases m with
    | nil => rfl
    | cons y m => simp at h
  | cons x l ih => cases m with
    | nil => simp at h
    | cons y m =>
      simp only [List.map_cons, List.cons.injEq] at h
      have hxy : x = y := UInt8.toNat_inj.1 (by omega)
      rw [hxy, ih m h.2]
theorem Try.eqH (l m : List UInt8) (h1 : l.length = 32) (h2 : m.length = 32) (w : World) : (Op.equalIn 10000 48 (.agg (c8 l)) (.agg (c8 m))).run Try.prog w = .ok (decide (l = m)) w := by
  obtain ⟨i, hi, hs⟩ : ∃ i, Try.prog.info? 5 = some i ∧ i.size = 1 := by
    obtain ⟨i, hi, _, h1, _⟩ := info_parts Try.infoU8
    exact ⟨i, hi, h1⟩
  rw [c8_ints, c8_ints, run_equalIn_arr w 9998 48 5 .u8 32 Try.underlying48 Try.underlying5 i hi hs _ _ (by simpa using h1) (by simpa using h2)]
  have : decide ((l.map fun c => (c.toNat : Int)) = m.map fun c => (c.toNat : Int)) = decide (l = m) := decide_eq_decide.2 (map_toInt_inj l m)
  rw [this]
theorem zeros32 : (#[.int .u8 0, .int .u8 0, .int .u8 0, .int .u8 0, .int .u8 0, .int .u8 0, .int .u8 0, .int .u8 0, .int .u8 0, .int .u8 0, .int .u8 0, .int .u8 0, .int .u8 0, .int .u8 0, .int .u8 0, .int .u8 0, .int .u8 0, .int .u8 0, .int .u8 0, .int .u8 0, .int .u8 0, .int .u8 0, .int .u8 0, .int .u8 0, .int .u8 0, .int .u8 0, .int .u8 0, .int .u8 0, .int .u8 0, .int .u8 0, .int .u8 0, .int .u8 0] : Array Value) = c8 (List.replicate 32 0) := by kernel_rfl
theorem Try.eqZ (l : List UInt8) (h1 : l.length = 32) (w : World) : (Op.equalIn 10000 48 (.agg (c8 l)) (.agg #[.int .u8 0, .int .u8 0, .int .u8 0, .int .u8 0, .int .u8 0, .int .u8 0, .int .u8 0, .int .u8 0, .int .u8 0, .int .u8 0, .int .u8 0, .int .u8 0, .int .u8 0, .int .u8 0, .int .u8 0, .int .u8 0, .int .u8 0, .int .u8 0, .int .u8 0, .int .u8 0, .int .u8 0, .int .u8 0, .int .u8 0, .int .u8 0, .int .u8 0, .int .u8 0, .int .u8 0, .int .u8 0, .int .u8 0, .int .u8 0, .int .u8 0, .int .u8 0])).run Try.prog w = .ok (decide (l = List.replicate 32 0)) w := by
  rw [zeros32]; exact Try.eqH l _ h1 (by simp) w
end Go.Proofs.Ytbfdjjaonjepnaa
