/- Numbers put into bytes: octet.Var and the document's. No condition. -/
import Derived.Test.YtmclmccgghnglaaGreatLs6
namespace Go.Proofs.YtmclmccgghnglaaGreat
open Go.RowKit

theorem byte_of {n : Nat} (h : n < 256) : byteV (UInt8.ofNat n) = .int .u8 (n : Int) := by
  unfold byteV
  rw [UInt8.toNat_ofNat', Nat.mod_eq_of_lt (by simpa using h)]
theorem byte_cell {n : Nat} {x : Int} (h : n < 256) (e : x = (n : Int)) : u8E (UInt8.ofNat n) = [Value.int .u8 x] := by rw [e]; exact congrArg (fun v => [v]) (byte_of h)
theorem or128 : ∀ x : Fin 256, x.val ||| 128 = x.val % 128 + 128 := by decide +kernel
theorem or_more (m : Nat) : bits BinOp.or IntKind.u8 (IntKind.u8.wrap (m : Int)) 128 = ((m % 128 + 128 : Nat) : Int) := by
  have h := or128 ⟨m % 256, Nat.mod_lt _ (by omega)⟩
  simp only at h
  have hw : IntKind.u8.wrap (m : Int) = ((m % 256 : Nat) : Int) := by rw [IntKind.wrap_u8]; omega
  rw [hw]
  have hx : m % 256 ||| 128 < 2 ^ 8 := Nat.or_lt_two_pow (by omega) (by omega)
  show IntKind.u8.wrap ((BitVec.ofInt 8 ((m % 256 : Nat) : Int) ||| BitVec.ofInt 8 128).toNat : Int) = _
  have e1 : (BitVec.ofInt 8 ((m % 256 : Nat) : Int)).toNat = m % 256 := by rw [BitVec.toNat_ofInt]; omega
  have e2 : (BitVec.ofInt 8 128).toNat = 128 := rfl
  rw [BitVec.toNat_or, e1, e2, IntKind.wrap_u8, h]
  omega
theorem out_len {o l : List UInt8} {m N : Nat} (h : o ++ varN m = l ++ varN N) (hN : N < 9223372036854775808) : o.length ≤ l.length + 9 := by
  have := congrArg List.length h
  simp only [List.length_append] at this
  have := varN_9 hN
  omega

set_option maxHeartbeats 4000000 in
set_option maxRecDepth 100000 in
theorem ovar_any (w : World) (v : Value) (l : List UInt8) (hr : Rd w u8E 1 v l) (hlen : l.length < 1000000000) (n : Int) (hn : n < 9223372036854775808) :
    Calls Tryz.prog 158 #[v, .int .i64 n] w (RowB w (l ++ varN n.toNat)) := by
  have HR := Lib.hid hr
  clear hr
  rcases Int.lt_or_le n 0 with h0 | h0
  · rw [Int.toNat_of_nonpos (Int.le_of_lt h0)]
    have hN2 : 0 < 9223372036854775808 := by omega
    obtain ⟨N, hN⟩ : ∃ N, N = 0 := ⟨_, rfl⟩
    rw [← hN] at hN2 ⊢
    have H00 : Hid (Value.int IntKind.i64 0 = .int .i64 (N : Int)) := Lib.hid (by rw [hN]; rfl)
    clear hN
    go_enter Tryz.func158, Tryz.ntmps158
    go_wp2_with fail
    refine (clone_bytes w v l HR.out (by omega)).mono ?_
    rintro e w1 ⟨v1, rfl, ho, hb⟩
    have HO := Lib.hid ho; have HB := Lib.hid hb
    clear ho hb HR
    go_wp2_with fail
    go_loopw [1, 5] (fun x vo wr => ∃ (m : Nat) (o : List UInt8), m < 9223372036854775808 ∧ x = .int .i64 m ∧ Hid (o ++ varN m = l ++ varN N) ∧ Hid (Own wr w.heap.size 5 u8E 1 vo o) ∧ Hid (Below w.heap.size w wr)) (fun x _ _ => (intOf x).toNat)
    case atStart => exact ⟨N, l, hN2, H00.out, Lib.hid rfl, HO, HB⟩
    case round =>
      clear HO HB
      obtain ⟨m, o, hm, rfl, HE, HO, HB⟩ := hrel
      have HL := Lib.hid (out_len HE.out hN2)
      by_cases hlt : m < 128
      · obtain ⟨c, hc⟩ : ∃ c, c = UInt8.ofNat m := ⟨_, rfl⟩
        have HE2 := Lib.hid (by rw [← HE.out, varN_low hlt, hc] : o ++ [c] = l ++ varN N)
        have HC := Lib.hid (by rw [hc]; exact byte_cell (by omega) rfl : u8E c = [Value.int .u8 (m : Int)])
        clear hc
        go_wp2_with (at_builtin; refine own_app1 rfl _ _ _ rfl Tryz.underlying100 Tryz.infoU8 rfl c HO.out rfl rfl HC.out rfl (by have := HL.out; unfold maxLen; omega) (by have := HL.out; omega) HB.out (Nat.le_refl _) HB.out.size (Nat.le_refl _) ?_)
        intro v' w' ho' hb' _
        have HO' := Lib.hid ho'; have HB' := Lib.hid hb'
        clear ho' hb'
        go_wp2_with fail
        go_ret
        exact ⟨_, rfl, by rw [← HE2.out]; exact HO'.out, HB'.out⟩
      · obtain ⟨c, hc⟩ : ∃ c, c = UInt8.ofNat (m % 128 + 128) := ⟨_, rfl⟩
        have HE2 := Lib.hid (by rw [← HE.out, varN_more hlt, hc, List.append_assoc]; rfl : (o ++ [c]) ++ varN (m / 128) = l ++ varN N)
        have HC := Lib.hid (by rw [hc]; exact byte_cell (by omega) (or_more m) : u8E c = [Value.int .u8 (bits BinOp.or IntKind.u8 (IntKind.u8.wrap (m : Int)) 128)])
        clear hc
        go_wp2_with (at_builtin; refine own_app1 rfl _ _ _ rfl Tryz.underlying100 Tryz.infoU8 rfl c HO.out rfl rfl HC.out rfl (by have := HL.out; unfold maxLen; omega) (by have := HL.out; omega) HB.out (Nat.le_refl _) HB.out.size (Nat.le_refl _) ?_)
        intro v' w' ho' hb' _
        have HO' := Lib.hid ho'; have HB' := Lib.hid hb'
        clear ho' hb'
        go_wp2_with fail
        go_roundw
        case rel => exact ⟨m / 128, _, by omega, by go_num, HE2, HO', HB'⟩
        case measure => simp [intOf]; omega
  · obtain ⟨N, rfl⟩ := Int.eq_ofNat_of_zero_le h0
    rw [Int.toNat_natCast]
    have hN2 : N < 9223372036854775808 := by omega
    clear h0 hn
    go_enter Tryz.func158, Tryz.ntmps158
    go_wp2_with fail
    refine (clone_bytes w v l HR.out (by omega)).mono ?_
    rintro e w1 ⟨v1, rfl, ho, hb⟩
    have HO := Lib.hid ho; have HB := Lib.hid hb
    clear ho hb HR
    go_wp2_with fail
    go_loopw [1, 5] (fun x vo wr => ∃ (m : Nat) (o : List UInt8), m < 9223372036854775808 ∧ x = .int .i64 m ∧ Hid (o ++ varN m = l ++ varN N) ∧ Hid (Own wr w.heap.size 5 u8E 1 vo o) ∧ Hid (Below w.heap.size w wr)) (fun x _ _ => (intOf x).toNat)
    case atStart => exact ⟨N, l, hN2, rfl, Lib.hid rfl, HO, HB⟩
    case round =>
      clear HO HB
      obtain ⟨m, o, hm, rfl, HE, HO, HB⟩ := hrel
      have HL := Lib.hid (out_len HE.out hN2)
      by_cases hlt : m < 128
      · obtain ⟨c, hc⟩ : ∃ c, c = UInt8.ofNat m := ⟨_, rfl⟩
        have HE2 := Lib.hid (by rw [← HE.out, varN_low hlt, hc] : o ++ [c] = l ++ varN N)
        have HC := Lib.hid (by rw [hc]; exact byte_cell (by omega) rfl : u8E c = [Value.int .u8 (m : Int)])
        clear hc
        go_wp2_with (at_builtin; refine own_app1 rfl _ _ _ rfl Tryz.underlying100 Tryz.infoU8 rfl c HO.out rfl rfl HC.out rfl (by have := HL.out; unfold maxLen; omega) (by have := HL.out; omega) HB.out (Nat.le_refl _) HB.out.size (Nat.le_refl _) ?_)
        intro v' w' ho' hb' _
        have HO' := Lib.hid ho'; have HB' := Lib.hid hb'
        clear ho' hb'
        go_wp2_with fail
        go_ret
        exact ⟨_, rfl, by rw [← HE2.out]; exact HO'.out, HB'.out⟩
      · obtain ⟨c, hc⟩ : ∃ c, c = UInt8.ofNat (m % 128 + 128) := ⟨_, rfl⟩
        have HE2 := Lib.hid (by rw [← HE.out, varN_more hlt, hc, List.append_assoc]; rfl : (o ++ [c]) ++ varN (m / 128) = l ++ varN N)
        have HC := Lib.hid (by rw [hc]; exact byte_cell (by omega) (or_more m) : u8E c = [Value.int .u8 (bits BinOp.or IntKind.u8 (IntKind.u8.wrap (m : Int)) 128)])
        clear hc
        go_wp2_with (at_builtin; refine own_app1 rfl _ _ _ rfl Tryz.underlying100 Tryz.infoU8 rfl c HO.out rfl rfl HC.out rfl (by have := HL.out; unfold maxLen; omega) (by have := HL.out; omega) HB.out (Nat.le_refl _) HB.out.size (Nat.le_refl _) ?_)
        intro v' w' ho' hb' _
        have HO' := Lib.hid ho'; have HB' := Lib.hid hb'
        clear ho' hb'
        go_wp2_with fail
        go_roundw
        case rel => exact ⟨m / 128, _, by omega, by go_num, HE2, HO', HB'⟩
        case measure => simp [intOf]; omega

set_option maxHeartbeats 4000000 in
set_option maxRecDepth 100000 in
theorem rvar_any (w : World) (v : Value) (l : List UInt8) (hr : Rd w u8E 1 v l) (hlen : l.length < 1000000000) (n : Int) (hn : n < 9223372036854775808) :
    Calls Tryz.prog 160 #[v, .int .i64 n] w (RowB w (l ++ varN n.toNat)) := by
  have HR := Lib.hid hr
  clear hr
  have HM1 : Hid (([] : List UInt8).length + l.length ≤ maxLen) := Lib.hid (by unfold maxLen; simp; omega)
  have HM2 : Hid ((([] : List UInt8).length + l.length) * 1 ≤ 140737488355328) := Lib.hid (by simp; omega)
  rcases Int.lt_or_le n 0 with h0 | h0
  · rw [Int.toNat_of_nonpos (Int.le_of_lt h0)]
    have hN2 : 0 < 9223372036854775808 := by omega
    obtain ⟨N, hN⟩ : ∃ N, N = 0 := ⟨_, rfl⟩
    rw [← hN] at hN2 ⊢
    have H00 : Hid (Value.int IntKind.i64 0 = .int .i64 (N : Int)) := Lib.hid (by rw [hN]; rfl)
    clear hN
    go_enter Tryz.func160, Tryz.ntmps160
    go_wp2_with (at_builtin; refine own_apps (l2 := l) (enc := u8E) (B := w.heap.size) (w0 := w) rfl _ _ 100 rfl Tryz.underlying100 Tryz.infoU8 rfl (by decide) u8_len u8_one (own_mt w _ (Nat.le_refl _)) rfl _ rfl (HR.out.alloc _) HM1.out HM2.out ((Below.refl _ _).alloc (Nat.le_refl _) _) (Nat.le_refl _) (by simp) ?_)
    intro v1 w1 ho hb _
    have HO := Lib.hid ho; have HB := Lib.hid hb
    clear ho hb HR
    go_wp2_with fail
    go_loopw [1, 5] (fun x vo wr => ∃ (m : Nat) (o : List UInt8), m < 9223372036854775808 ∧ x = .int .i64 m ∧ Hid (o ++ varN m = l ++ varN N) ∧ Hid (Own wr w.heap.size 5 u8E 1 vo o) ∧ Hid (Below w.heap.size w wr)) (fun x _ _ => (intOf x).toNat)
    case atStart => exact ⟨N, l, hN2, H00.out, Lib.hid rfl, HO, HB⟩
    case round =>
      clear HO HB
      obtain ⟨m, o, hm, rfl, HE, HO, HB⟩ := hrel
      have HL := Lib.hid (out_len HE.out hN2)
      by_cases hlt : m < 128
      · obtain ⟨c, hc⟩ : ∃ c, c = UInt8.ofNat m := ⟨_, rfl⟩
        have HE2 := Lib.hid (by rw [← HE.out, varN_low hlt, hc] : o ++ [c] = l ++ varN N)
        have HC := Lib.hid (by rw [hc]; exact byte_cell (by omega) rfl : u8E c = [Value.int .u8 (m : Int)])
        clear hc
        go_wp2_with (at_builtin; refine own_app1 rfl _ _ _ rfl Tryz.underlying100 Tryz.infoU8 rfl c HO.out rfl rfl HC.out rfl (by have := HL.out; unfold maxLen; omega) (by have := HL.out; omega) HB.out (Nat.le_refl _) HB.out.size (Nat.le_refl _) ?_)
        intro v' w' ho' hb' _
        have HO' := Lib.hid ho'; have HB' := Lib.hid hb'
        clear ho' hb'
        go_wp2_with fail
        go_ret
        exact ⟨_, rfl, by rw [← HE2.out]; exact HO'.out, HB'.out⟩
      · obtain ⟨c, hc⟩ : ∃ c, c = UInt8.ofNat (m % 128 + 128) := ⟨_, rfl⟩
        have HE2 := Lib.hid (by rw [← HE.out, varN_more hlt, hc, List.append_assoc]; rfl : (o ++ [c]) ++ varN (m / 128) = l ++ varN N)
        have HC := Lib.hid (by rw [hc]; exact byte_cell (by omega) (by omega) : u8E c = [Value.int .u8 ((m : Int) % 128 + 128)])
        clear hc
        go_wp2_with (at_builtin; refine own_app1 rfl _ _ _ rfl Tryz.underlying100 Tryz.infoU8 rfl c HO.out rfl rfl HC.out rfl (by have := HL.out; unfold maxLen; omega) (by have := HL.out; omega) HB.out (Nat.le_refl _) HB.out.size (Nat.le_refl _) ?_)
        intro v' w' ho' hb' _
        have HO' := Lib.hid ho'; have HB' := Lib.hid hb'
        clear ho' hb'
        go_wp2_with fail
        go_roundw
        case rel => exact ⟨m / 128, _, by omega, by go_num, HE2, HO', HB'⟩
        case measure => simp [intOf]; omega
  · obtain ⟨N, rfl⟩ := Int.eq_ofNat_of_zero_le h0
    rw [Int.toNat_natCast]
    have hN2 : N < 9223372036854775808 := by omega
    clear h0 hn
    go_enter Tryz.func160, Tryz.ntmps160
    go_wp2_with (at_builtin; refine own_apps (l2 := l) (enc := u8E) (B := w.heap.size) (w0 := w) rfl _ _ 100 rfl Tryz.underlying100 Tryz.infoU8 rfl (by decide) u8_len u8_one (own_mt w _ (Nat.le_refl _)) rfl _ rfl (HR.out.alloc _) HM1.out HM2.out ((Below.refl _ _).alloc (Nat.le_refl _) _) (Nat.le_refl _) (by simp) ?_)
    intro v1 w1 ho hb _
    have HO := Lib.hid ho; have HB := Lib.hid hb
    clear ho hb HR
    go_wp2_with fail
    go_loopw [1, 5] (fun x vo wr => ∃ (m : Nat) (o : List UInt8), m < 9223372036854775808 ∧ x = .int .i64 m ∧ Hid (o ++ varN m = l ++ varN N) ∧ Hid (Own wr w.heap.size 5 u8E 1 vo o) ∧ Hid (Below w.heap.size w wr)) (fun x _ _ => (intOf x).toNat)
    case atStart => exact ⟨N, l, hN2, rfl, Lib.hid rfl, HO, HB⟩
    case round =>
      clear HO HB
      obtain ⟨m, o, hm, rfl, HE, HO, HB⟩ := hrel
      have HL := Lib.hid (out_len HE.out hN2)
      by_cases hlt : m < 128
      · obtain ⟨c, hc⟩ : ∃ c, c = UInt8.ofNat m := ⟨_, rfl⟩
        have HE2 := Lib.hid (by rw [← HE.out, varN_low hlt, hc] : o ++ [c] = l ++ varN N)
        have HC := Lib.hid (by rw [hc]; exact byte_cell (by omega) rfl : u8E c = [Value.int .u8 (m : Int)])
        clear hc
        go_wp2_with (at_builtin; refine own_app1 rfl _ _ _ rfl Tryz.underlying100 Tryz.infoU8 rfl c HO.out rfl rfl HC.out rfl (by have := HL.out; unfold maxLen; omega) (by have := HL.out; omega) HB.out (Nat.le_refl _) HB.out.size (Nat.le_refl _) ?_)
        intro v' w' ho' hb' _
        have HO' := Lib.hid ho'; have HB' := Lib.hid hb'
        clear ho' hb'
        go_wp2_with fail
        go_ret
        exact ⟨_, rfl, by rw [← HE2.out]; exact HO'.out, HB'.out⟩
      · obtain ⟨c, hc⟩ : ∃ c, c = UInt8.ofNat (m % 128 + 128) := ⟨_, rfl⟩
        have HE2 := Lib.hid (by rw [← HE.out, varN_more hlt, hc, List.append_assoc]; rfl : (o ++ [c]) ++ varN (m / 128) = l ++ varN N)
        have HC := Lib.hid (by rw [hc]; exact byte_cell (by omega) (by omega) : u8E c = [Value.int .u8 ((m : Int) % 128 + 128)])
        clear hc
        go_wp2_with (at_builtin; refine own_app1 rfl _ _ _ rfl Tryz.underlying100 Tryz.infoU8 rfl c HO.out rfl rfl HC.out rfl (by have := HL.out; unfold maxLen; omega) (by have := HL.out; omega) HB.out (Nat.le_refl _) HB.out.size (Nat.le_refl _) ?_)
        intro v' w' ho' hb' _
        have HO' := Lib.hid ho'; have HB' := Lib.hid hb'
        clear ho' hb'
        go_wp2_with fail
        go_roundw
        case rel => exact ⟨m / 128, _, by omega, by go_num, HE2, HO', HB'⟩
        case measure => simp [intOf]; omega
end Go.Proofs.YtmclmccgghnglaaGreat
