/- Numbers as bytes, plainly: groups of seven bits, and as few bytes as there must be. No program, no condition. Bytes cloned; how many bits a number of 256 bits has. No condition. -/
import Derived.Test.YtmclmccgghnglaaGreatLs1
import Derived.Test.YtmclmccgghnglaaGreatLsUn
import Derived.Test.YtmclmccgghnglaaGreatLsOwn
import Derived.Test.YtmclmccgghnglaaGreatLsKeep
import Derived.Deep.QuietTactic
import Derived.BigQuiet
import Derived.Deep.Cut
namespace Go.Proofs.YtmclmccgghnglaaGreat
section

/-- A number in groups of seven bits, the least first. -/
def varN (n : Nat) : List UInt8 := if h : n < 128 then [UInt8.ofNat n] else UInt8.ofNat (n % 128 + 128) :: varN (n / 128)
termination_by n
decreasing_by omega
theorem varN_low {n : Nat} (h : n < 128) : varN n = [UInt8.ofNat n] := by rw [varN, dif_pos h]
theorem varN_more {n : Nat} (h : ¬ n < 128) : varN n = UInt8.ofNat (n % 128 + 128) :: varN (n / 128) := by rw [varN, dif_neg h]
theorem varN_len : ∀ (k n : Nat), n < 128 ^ (k + 1) → (varN n).length ≤ k + 1 := by
  intro k
  induction k with
  | zero => intro n h; rw [varN_low (by omega)]; simp
  | succ k ih =>
    intro n h
    by_cases hn : n < 128
    · rw [varN_low hn]; simp
    · rw [varN_more hn, List.length_cons]
      have := ih (n / 128) (by rw [Nat.pow_succ] at h; omega)
      omega
theorem varN_9 {n : Nat} (h : n < 9223372036854775808) : (varN n).length ≤ 9 := varN_len 8 n h

/-- Where the groups from place k on end; none: they do not, or not so. -/
def grp : Nat → List UInt8 → Option Nat
  | _, [] => none
  | k, c :: l => if k = 9 then none else if 128 ≤ c.toNat then grp (k + 1) l else if c = 0 ∧ 0 < k then none else some (k + 1)
/-- What groups are together. -/
def gval : List UInt8 → Nat
  | [] => 0
  | c :: l => c.toNat % 128 + 128 * gval l
/-- A number, and what is behind it. -/
def varR (l : List UInt8) : Option (Nat × List UInt8) := (grp 0 l).map fun s => (gval (l.take s), l.drop s)
/-- What its error is. -/
def varE (l : List UInt8) : Prop := varR l = none
/-! ### as few bytes as there must be -/
theorem be_cons (c : UInt8) (l : List UInt8) : be (c :: l) = c.toNat * 256 ^ l.length + be l := by
  suffices h : ∀ (r : List UInt8), be (c :: r.reverse) = c.toNat * 256 ^ r.length + be r.reverse by simpa using h l.reverse
  intro r
  induction r with
  | nil => simp [be]
  | cons d r ih =>
    rw [List.reverse_cons, ← List.cons_append, be_snoc, be_snoc, ih, List.length_cons, Nat.pow_succ, Nat.add_mul, Nat.mul_assoc]
    omega
theorem be_zeros : ∀ (z : Nat) (l : List UInt8), be (List.replicate z 0 ++ l) = be l
  | 0, l => rfl
  | z + 1, l => by rw [List.replicate_succ, List.cons_append, be_cons, be_zeros z l]; simp
/-- Without noughts ahead. -/
def sigB : List UInt8 → List UInt8
  | [] => []
  | c :: l => if c = 0 then sigB l else c :: l
theorem sigB_split : ∀ l : List UInt8, ∃ z, l = List.replicate z 0 ++ sigB l ∧ z + (sigB l).length = l.length
  | [] => ⟨0, rfl, rfl⟩
  | c :: l => by
    unfold sigB
    split
    · rename_i h
      obtain ⟨z, h1, h2⟩ := sigB_split l
      refine ⟨z + 1, ?_, by simp; omega⟩
      rw [List.replicate_succ, List.cons_append, ← h1, h]
    · exact ⟨0, rfl, by simp⟩
theorem sigB_be (l : List UInt8) : be (sigB l) = be l := by
  obtain ⟨z, h, _⟩ := sigB_split l
  conv => rhs; rw [h]
  rw [be_zeros]
theorem sigB_le (l : List UInt8) : (sigB l).length ≤ l.length := by obtain ⟨z, _, h⟩ := sigB_split l; omega
theorem sigB_drop (l : List UInt8) : l.drop (l.length - (sigB l).length) = sigB l := by
  obtain ⟨z, h, h2⟩ := sigB_split l
  rw [show l.length - (sigB l).length = z by omega]
  conv => lhs; rw [h]
  rw [List.drop_append_of_le_length (by simp)]
  simp
theorem sigB_head : ∀ l : List UInt8, (sigB l).head? ≠ some 0
  | [] => by simp [sigB]
  | c :: l => by
    unfold sigB
    split
    · exact sigB_head l
    · rename_i h; simpa using h
theorem bitsN_of {n k : Nat} (h1 : 256 ^ k ≤ n) (h2 : n < 256 ^ (k + 1)) : (bitsN n + 7) / 8 = k + 1 := by
  have e : ∀ j, (256 : Nat) ^ j = 2 ^ (8 * j) := fun j => by rw [Nat.pow_mul]
  rw [e] at h1 h2
  have h3 := bitsN_le n _ h2
  have h4 := bitsN_lt n
  have h5 : 2 ^ (8 * k) < 2 ^ bitsN n := Nat.lt_of_le_of_lt h1 h4
  have h6 := (Nat.pow_lt_pow_iff_right (by omega)).1 h5
  omega
theorem sigB_bits (l : List UInt8) : (bitsN (be l) + 7) / 8 = (sigB l).length := by
  rw [← sigB_be l]
  have hh := sigB_head l
  cases hs : sigB l with
  | nil => rw [be_nil, bitsN_zero]; rfl
  | cons c t =>
    rw [hs] at hh
    have hc : c ≠ 0 := by simpa using hh
    have hc0 : c.toNat ≠ 0 := fun e => hc (UInt8.toNat_inj.1 (by rw [e]; rfl))
    have := be_lt t
    have hc2 := c.toNat_lt
    rw [List.length_cons]
    refine bitsN_of ?_ ?_
    · rw [be_cons]
      have : 1 * 256 ^ t.length ≤ c.toNat * 256 ^ t.length := Nat.mul_le_mul_right _ (by omega)
      omega
    · have := be_lt (c :: t); simpa using this
/-- Of how many noughts ahead there are the first k. -/
theorem sig_at (l : List UInt8) (k : Nat) : (∀ j, j < k → ∀ h : j < l.length, l[j] = 0) → k ≤ l.length → (∀ h : k < l.length, l[k] ≠ 0) → l.length - (sigB l).length = k := by
  induction l generalizing k with
  | nil => intro _ h _; simp at h; subst h; rfl
  | cons c l ih =>
    intro h1 h2 h3
    unfold sigB
    cases k with
    | zero =>
      have := h3 (by simp)
      simp only [List.getElem_cons_zero] at this
      rw [if_neg this]; simp
    | succ k =>
      have h0 := h1 0 (by omega) (by simp)
      simp only [List.getElem_cons_zero] at h0
      rw [if_pos h0]
      have := ih k (fun j hj h => by have := h1 (j + 1) (by omega) (by simpa using h); simpa using this) (by simpa using h2) (fun h => by have := h3 (by simpa using h); simpa using this)
      have hle := sigB_le l
      rw [List.length_cons]; omega
/-- An amount out of bytes, and what is behind it. -/
def amtR : List UInt8 → Option (Nat × List UInt8)
  | [] => none
  | c :: l => if 32 < c.toNat ∨ (0 < c.toNat ∧ l.head? = some 0) then none else if l.length < c.toNat then none else some (be (l.take c.toNat), l.drop c.toNat)
/-- A hash out of bytes. -/
def hashR (l : List UInt8) : Option (List UInt8 × List UInt8) := if l.length < 32 then none else some (l.take 32, l.drop 32)
/-- What an earner's leaf says; a token's. -/
def toEar (l : List UInt8) : Option (Nat × List UInt8) := match varR l with
  | none => none
  | some (n, r) => match hashR r with
    | none => none
    | some (h, r2) => if r2 = [] then some (n, h) else none
def toTok (l : List UInt8) : Option (Nat × Nat) := match varR l with
  | none => none
  | some (n, r) => match amtR r with
    | none => none
    | some (m, r2) => if r2 = [] then some (n, m) else none
end
section
open Go.RowKit

theorem run_eql_nilsl {P : Program} (w : World) (t e : TypeId) (a : Option Addr) (n c : Nat) (h : P.underlying t = some (.slice e)) : (binOp .eql t (.slice a n c) (.slice none 0 0)).run P w = .ok (.bool a.isNone) w := by
  have := Lib.run_eql_slice_nil (P := P) w t e a n c 0 0 h
  simpa using this
/-- Handed back: a slice of the call's own, of bytes. -/
def RowB (w : World) (l : List UInt8) (e : Ending) (w' : World) : Prop := ∃ v', e = .returned v' ∧ Own w' w.heap.size 5 u8E 1 v' l ∧ Below w.heap.size w w'
theorem own_mt (w : World) (B : Nat) (hB : B ≤ w.heap.size) : Own (w.alloc (.cells #[] 5)) B 5 u8E 1 (.slice (some ⟨w.heap.size, 0, none⟩) 0 0) ([] : List UInt8) :=
  ⟨by simp, .inr ⟨w.heap.size, 0, #[], rfl, hB, heap_alloc_new _ _, Nat.le_refl _, by unfold maxLen; omega, rfl, rfl⟩⟩
theorem u8_one (x : UInt8) : ∀ u ∈ u8E x, u.oneCell' = true := fun u hu => by rw [List.mem_singleton.1 hu]; rfl
theorem u8_len (x : UInt8) : (u8E x).length = 1 := rfl
theorem Rd.null {α : Type} {w : World} {enc : α → List Value} {sz n cap : Nat} {l : List α} (hr : Rd w enc sz (.slice none n cap) l) : l = [] := by
  by_cases hl : l = []
  · exact hl
  · obtain ⟨ad', cap', e, c1, c2, c3⟩ := hr
    cases e
    obtain ⟨b, off, e, _⟩ := c3 hl
    cases e

set_option maxHeartbeats 4000000 in
set_option maxRecDepth 100000 in
/-- slices.Clone of bytes. -/
theorem clone_bytes (w : World) (v : Value) (l : List UInt8) (hr : Rd w u8E 1 v l) (hlen : l.length < 1099511627776) :
    Calls Tryz.prog 244 #[v] w (RowB w l) := by
  obtain ⟨ad, cap, rfl, h1, h2⟩ := hr.shape
  have heq := fun a n c w => run_eql_nilsl (P := Tryz.prog) w 100 5 a n c Tryz.underlying100
  cases ad with
  | none =>
    have hl := hr.null
    subst hl
    go_enter Tryz.func244, Tryz.ntmps244
    go_wp2_with fail
    go_ret
    exact ⟨_, rfl, Own.nil _ _ _ _ _, Below.refl _ _⟩
  | some a =>
    have HR := Lib.hid hr
    have hm : ([] : List UInt8).length + l.length ≤ maxLen := by unfold maxLen; simp; omega
    have hb : (([] : List UInt8).length + l.length) * 1 ≤ 140737488355328 := by simp; omega
    have HM := Lib.hid hm; have HB := Lib.hid hb
    clear hr hm hb
    go_enter Tryz.func244, Tryz.ntmps244
    go_wp2_with (at_builtin; refine own_apps (l2 := l) (enc := u8E) (B := w.heap.size) (w0 := w) rfl _ _ 100 rfl Tryz.underlying100 Tryz.infoU8 rfl (by decide) u8_len u8_one (own_mt w _ (Nat.le_refl _)) rfl _ rfl (HR.out.alloc _) HM.out HB.out ((Below.refl _ _).alloc (Nat.le_refl _) _) (Nat.le_refl _) (by simp) ?_)
    intro v' w' r1 r2 r3
    have R1 := Lib.hid r1; have HB2 := Lib.hid r2
    clear r1 r2 r3
    go_wp2_with fail
    go_ret
    exact ⟨_, rfl, R1.out, HB2.out⟩

/-! ### bits -/
theorem bitsN_shift (x r k : Nat) (hx : 0 < x) (hr : r < 2 ^ k) : bitsN (x * 2 ^ k + r) = bitsN x + k := by
  induction k generalizing r with
  | zero => simp at hr; subst hr; simp
  | succ k ih =>
    have hp : 0 < x * 2 ^ (k + 1) := Nat.mul_pos hx (Nat.pow_pos (by omega))
    rw [bitsN_pos _ (by omega)]
    have e : x * 2 ^ (k + 1) = 2 * (x * 2 ^ k) := by rw [Nat.pow_succ]; rw [← Nat.mul_assoc, Nat.mul_comm (x * 2 ^ k) 2]
    rw [e, show (2 * (x * 2 ^ k) + r) / 2 = x * 2 ^ k + r / 2 by omega, ih (r / 2) (by rw [Nat.pow_succ] at hr; omega)]
    omega
theorem bitsN_div (x k : Nat) (h : x / 2 ^ k ≠ 0) : bitsN (x / 2 ^ k) + k = bitsN x := by
  have h1 := bitsN_shift (x / 2 ^ k) (x % 2 ^ k) k (Nat.pos_of_ne_zero h) (Nat.mod_lt _ (Nat.pow_pos (by omega)))
  rw [Nat.div_add_mod'] at h1
  exact h1.symm
theorem bitsN_64 {x : Nat} (h : x < 18446744073709551616) : bitsN x ≤ 64 := bitsN_le x 64 h
theorem bitsN_1 {x : Nat} (h : x < 2) : bitsN x = x := by
  match x, h with
  | 0, _ => exact bitsN_zero
  | 1, _ => rw [bitsN_pos 1 (by omega), show 1 / 2 = 0 from rfl, bitsN_zero]

def lbd (s : Nat) : Nat := if s = 0 then 1 else 2 * s
set_option maxHeartbeats 4000000 in
set_option maxRecDepth 100000 in
/-- u256.length: of a word, in bits. -/
theorem ulength_any (x : Nat) (hx : x < 18446744073709551616) (w : World) : Calls Tryz.prog 313 #[.int .u64 (x : Int)] w fun e w' => e = .returned (.int .i64 (bitsN x)) ∧ Below w.heap.size w w' := by
  obtain ⟨D, hD⟩ : ∃ D, D = bitsN x := ⟨_, rfl⟩
  have h64 := bitsN_64 hx
  rw [← hD] at h64 ⊢
  have HD := Lib.hid hD; have HX := Lib.hid hx
  clear hD hx
  go_enter Tryz.func313, Tryz.ntmps313
  go_wp2_with fail
  go_loopw [0, 3, 4] (fun a b c wr => ∃ (y n s : Nat), a = .int .u64 y ∧ b = .int .i64 n ∧ c = .int .i64 s ∧ Hid ((s = 32 ∨ s = 16 ∨ s = 8 ∨ s = 4 ∨ s = 2 ∨ s = 1 ∨ s = 0) ∧ y < 2 ^ (lbd s) ∧ bitsN y + n = D) ∧ Hid (Below w.heap.size w wr)) (fun _ _ c _ => (intOf c).toNat)
  case atStart => exact ⟨x, 0, 32, rfl, rfl, rfl, Lib.hid ⟨.inl rfl, HX.out, by rw [HD.out]; rfl⟩, Lib.hid (Below.refl _ _)⟩
  case round =>
    obtain ⟨y, n, s, rfl, rfl, rfl, hI, hb⟩ := hrel
    obtain ⟨hs, hy, hn⟩ := hI.out
    clear hI
    rcases hs with rfl | rfl | rfl | rfl | rfl | rfl | rfl
    · by_cases hq : y / 2 ^ 32 = 0
      · have hq2 : ((y : Int) / 4294967296 != 0) = false := by simp; omega
        have HI := Lib.hid (show y < 4294967296 ∧ bitsN y + n = D from ⟨by have h : y < 18446744073709551616 := hy; omega, hn⟩)
        clear hq hy hn
        go_wp2_with fail
        go_roundw
        case rel => exact ⟨y, n, 16, rfl, rfl, rfl, Lib.hid ⟨by omega, HI.out⟩, hb⟩
        case measure => decide
      · have hq2 : ((y : Int) / 4294967296 != 0) = true := by simp; omega
        have hb2 := bitsN_div y 32 hq
        have hz : y / 2 ^ 32 < 4294967296 := by have h : y < 18446744073709551616 := hy; omega
        have hc : (y : Int) / 4294967296 = ((y / 2 ^ 32 : Nat) : Int) := by omega
        obtain ⟨z, ez⟩ : ∃ z, z = y / 2 ^ 32 := ⟨_, rfl⟩
        rw [← ez] at hb2 hz hc
        have hn2 : bitsN z + (n + 32) = D := by omega
        have HI := Lib.hid (show z < 4294967296 ∧ bitsN z + (n + 32) = D from ⟨hz, hn2⟩)
        have HC := Lib.hid hc
        have hn3 : n + 32 ≤ 64 := by omega
        clear hq hy hn hb2 hz hc ez hn2
        go_wp2_with fail
        go_quiet (fail)
        go_wp2_with fail
        go_roundw
        case rel => exact ⟨z, n + 32, 16, by rw [← HC.out], by go_num, rfl, Lib.hid ⟨by omega, HI.out⟩, below_drewN hb _⟩
        case measure => decide
    · by_cases hq : y / 2 ^ 16 = 0
      · have hq2 : ((y : Int) / 65536 != 0) = false := by simp; omega
        have HI := Lib.hid (show y < 65536 ∧ bitsN y + n = D from ⟨by have h : y < 4294967296 := hy; omega, hn⟩)
        clear hq hy hn
        go_wp2_with fail
        go_roundw
        case rel => exact ⟨y, n, 8, rfl, rfl, rfl, Lib.hid ⟨by omega, HI.out⟩, hb⟩
        case measure => decide
      · have hq2 : ((y : Int) / 65536 != 0) = true := by simp; omega
        have hb2 := bitsN_div y 16 hq
        have hz : y / 2 ^ 16 < 65536 := by have h : y < 4294967296 := hy; omega
        have hc : (y : Int) / 65536 = ((y / 2 ^ 16 : Nat) : Int) := by omega
        obtain ⟨z, ez⟩ : ∃ z, z = y / 2 ^ 16 := ⟨_, rfl⟩
        rw [← ez] at hb2 hz hc
        have hn2 : bitsN z + (n + 16) = D := by omega
        have HI := Lib.hid (show z < 65536 ∧ bitsN z + (n + 16) = D from ⟨hz, hn2⟩)
        have HC := Lib.hid hc
        have hn3 : n + 16 ≤ 64 := by omega
        clear hq hy hn hb2 hz hc ez hn2
        go_wp2_with fail
        go_quiet (fail)
        go_wp2_with fail
        go_roundw
        case rel => exact ⟨z, n + 16, 8, by rw [← HC.out], by go_num, rfl, Lib.hid ⟨by omega, HI.out⟩, below_drewN hb _⟩
        case measure => decide
    · by_cases hq : y / 2 ^ 8 = 0
      · have hq2 : ((y : Int) / 256 != 0) = false := by simp; omega
        have HI := Lib.hid (show y < 256 ∧ bitsN y + n = D from ⟨by have h : y < 65536 := hy; omega, hn⟩)
        clear hq hy hn
        go_wp2_with fail
        go_roundw
        case rel => exact ⟨y, n, 4, rfl, rfl, rfl, Lib.hid ⟨by omega, HI.out⟩, hb⟩
        case measure => decide
      · have hq2 : ((y : Int) / 256 != 0) = true := by simp; omega
        have hb2 := bitsN_div y 8 hq
        have hz : y / 2 ^ 8 < 256 := by have h : y < 65536 := hy; omega
        have hc : (y : Int) / 256 = ((y / 2 ^ 8 : Nat) : Int) := by omega
        obtain ⟨z, ez⟩ : ∃ z, z = y / 2 ^ 8 := ⟨_, rfl⟩
        rw [← ez] at hb2 hz hc
        have hn2 : bitsN z + (n + 8) = D := by omega
        have HI := Lib.hid (show z < 256 ∧ bitsN z + (n + 8) = D from ⟨hz, hn2⟩)
        have HC := Lib.hid hc
        have hn3 : n + 8 ≤ 64 := by omega
        clear hq hy hn hb2 hz hc ez hn2
        go_wp2_with fail
        go_quiet (fail)
        go_wp2_with fail
        go_roundw
        case rel => exact ⟨z, n + 8, 4, by rw [← HC.out], by go_num, rfl, Lib.hid ⟨by omega, HI.out⟩, below_drewN hb _⟩
        case measure => decide
    · by_cases hq : y / 2 ^ 4 = 0
      · have hq2 : ((y : Int) / 16 != 0) = false := by simp; omega
        have HI := Lib.hid (show y < 16 ∧ bitsN y + n = D from ⟨by have h : y < 256 := hy; omega, hn⟩)
        clear hq hy hn
        go_wp2_with fail
        go_roundw
        case rel => exact ⟨y, n, 2, rfl, rfl, rfl, Lib.hid ⟨by omega, HI.out⟩, hb⟩
        case measure => decide
      · have hq2 : ((y : Int) / 16 != 0) = true := by simp; omega
        have hb2 := bitsN_div y 4 hq
        have hz : y / 2 ^ 4 < 16 := by have h : y < 256 := hy; omega
        have hc : (y : Int) / 16 = ((y / 2 ^ 4 : Nat) : Int) := by omega
        obtain ⟨z, ez⟩ : ∃ z, z = y / 2 ^ 4 := ⟨_, rfl⟩
        rw [← ez] at hb2 hz hc
        have hn2 : bitsN z + (n + 4) = D := by omega
        have HI := Lib.hid (show z < 16 ∧ bitsN z + (n + 4) = D from ⟨hz, hn2⟩)
        have HC := Lib.hid hc
        have hn3 : n + 4 ≤ 64 := by omega
        clear hq hy hn hb2 hz hc ez hn2
        go_wp2_with fail
        go_quiet (fail)
        go_wp2_with fail
        go_roundw
        case rel => exact ⟨z, n + 4, 2, by rw [← HC.out], by go_num, rfl, Lib.hid ⟨by omega, HI.out⟩, below_drewN hb _⟩
        case measure => decide
    · by_cases hq : y / 2 ^ 2 = 0
      · have hq2 : ((y : Int) / 4 != 0) = false := by simp; omega
        have HI := Lib.hid (show y < 4 ∧ bitsN y + n = D from ⟨by have h : y < 16 := hy; omega, hn⟩)
        clear hq hy hn
        go_wp2_with fail
        go_roundw
        case rel => exact ⟨y, n, 1, rfl, rfl, rfl, Lib.hid ⟨by omega, HI.out⟩, hb⟩
        case measure => decide
      · have hq2 : ((y : Int) / 4 != 0) = true := by simp; omega
        have hb2 := bitsN_div y 2 hq
        have hz : y / 2 ^ 2 < 4 := by have h : y < 16 := hy; omega
        have hc : (y : Int) / 4 = ((y / 2 ^ 2 : Nat) : Int) := by omega
        obtain ⟨z, ez⟩ : ∃ z, z = y / 2 ^ 2 := ⟨_, rfl⟩
        rw [← ez] at hb2 hz hc
        have hn2 : bitsN z + (n + 2) = D := by omega
        have HI := Lib.hid (show z < 4 ∧ bitsN z + (n + 2) = D from ⟨hz, hn2⟩)
        have HC := Lib.hid hc
        have hn3 : n + 2 ≤ 64 := by omega
        clear hq hy hn hb2 hz hc ez hn2
        go_wp2_with fail
        go_quiet (fail)
        go_wp2_with fail
        go_roundw
        case rel => exact ⟨z, n + 2, 1, by rw [← HC.out], by go_num, rfl, Lib.hid ⟨by omega, HI.out⟩, below_drewN hb _⟩
        case measure => decide
    · by_cases hq : y / 2 ^ 1 = 0
      · have hq2 : ((y : Int) / 2 != 0) = false := by simp; omega
        have HI := Lib.hid (show y < 2 ∧ bitsN y + n = D from ⟨by have h : y < 4 := hy; omega, hn⟩)
        clear hq hy hn
        go_wp2_with fail
        go_roundw
        case rel => exact ⟨y, n, 0, rfl, rfl, rfl, Lib.hid ⟨by omega, HI.out⟩, hb⟩
        case measure => decide
      · have hq2 : ((y : Int) / 2 != 0) = true := by simp; omega
        have hb2 := bitsN_div y 1 hq
        have hz : y / 2 ^ 1 < 2 := by have h : y < 4 := hy; omega
        have hc : (y : Int) / 2 = ((y / 2 ^ 1 : Nat) : Int) := by omega
        obtain ⟨z, ez⟩ : ∃ z, z = y / 2 ^ 1 := ⟨_, rfl⟩
        rw [← ez] at hb2 hz hc
        have hn2 : bitsN z + (n + 1) = D := by omega
        have HI := Lib.hid (show z < 2 ∧ bitsN z + (n + 1) = D from ⟨hz, hn2⟩)
        have HC := Lib.hid hc
        have hn3 : n + 1 ≤ 64 := by omega
        clear hq hy hn hb2 hz hc ez hn2
        go_wp2_with fail
        go_quiet (fail)
        go_wp2_with fail
        go_roundw
        case rel => exact ⟨z, n + 1, 0, by rw [← HC.out], by go_num, rfl, Lib.hid ⟨by omega, HI.out⟩, below_drewN hb _⟩
        case measure => decide
    · replace hy : y < 2 := hy
      rw [bitsN_1 hy] at hn
      have hyn : (y : Int) < 2 := by omega
      have HN := Lib.hid (show (n : Int) + (y : Int) = (D : Int) by omega)
      have hn64 : n + y ≤ 64 := by omega
      clear hn
      go_wp2_with fail
      go_ret
      exact ⟨by rw [← HN.out]; rfl, hb⟩


/-- How many words are not noughts above. -/
def UsedRet (f : Nat → Int) (w : World) (e : Ending) (w' : World) : Prop := ∃ n : Nat, n ≤ 4 ∧ e = .returned (.int .i64 (n : Int)) ∧ (∀ j, n ≤ j → j < 4 → f j = 0) ∧ (0 < n → f (n - 1) ≠ 0) ∧ Below w.heap.size w w'
theorem w4_cell {a b c d : Int} {g : Nat} {w : World} (h : w.heap[g]? = some (.cells #[.int .u64 a, .int .u64 b, .int .u64 c, .int .u64 d] 55 (0, 0))) (j : Nat) (hj : j < 4) : w.cell? ⟨g, j, none⟩ = some (.int .u64 (w4 a b c d j)) := by
  rw [Lib.cell_of_heap h]
  match j, hj with
  | 0, _ => rfl
  | 1, _ => rfl
  | 2, _ => rfl
  | 3, _ => rfl
set_option maxHeartbeats 4000000 in
set_option maxRecDepth 100000 in
theorem used_any (a b c d : Int) (w : World) : Calls Tryz.prog 312 #[.agg #[.int .u64 a, .int .u64 b, .int .u64 c, .int .u64 d]] w (UsedRet (w4 a b c d) w) := by
  go_enter Tryz.func312, Tryz.ntmps312
  go_wp2_with fail
  obtain ⟨w1, hw1⟩ : ∃ w1, w1 = w.alloc (.cells #[.int .u64 a, .int .u64 b, .int .u64 c, .int .u64 d] 55) := ⟨_, rfl⟩
  obtain ⟨g, hg⟩ : ∃ g, g = w.heap.size := ⟨_, rfl⟩
  rw [← hw1, ← hg]
  have H := Lib.hid (show w1.heap[g]? = some (.cells #[.int .u64 a, .int .u64 b, .int .u64 c, .int .u64 d] 55 (0, 0)) by rw [hw1, hg]; exact heap_alloc_new _ _)
  have HB := Lib.hid (show Below w.heap.size w w1 by rw [hw1]; exact (Below.refl _ _).alloc (Nat.le_refl _) _)
  clear hw1 hg
  go_loopw [3] (fun x wr => wr = w1 ∧ ∃ n : Nat, n ≤ 4 ∧ x = .int .i64 n ∧ Hid (∀ j, n ≤ j → j < 4 → w4 a b c d j = 0)) (fun x _ => (intOf x).toNat)
  case atStart => exact ⟨rfl, 4, by omega, rfl, Lib.hid fun j h1 h2 => by omega⟩
  case round =>
    obtain ⟨rfl, n, hn, rfl, hz⟩ := hrel
    by_cases h0 : n = 0
    · subst h0
      go_wp2_with fail
      go_ret
      exact ⟨0, by omega, rfl, hz.out, fun h => by omega, HB.out⟩
    · obtain ⟨m, rfl⟩ : ∃ m, n = m + 1 := ⟨n - 1, by omega⟩
      have hc := w4_cell H.out m (by omega)
      obtain ⟨x, hx⟩ : ∃ x, x = w4 a b c d m := ⟨_, rfl⟩
      rw [← hx] at hc
      have hi : IntKind.i64.wrap (((m + 1 : Nat) : Int) - 1) = (m : Int) := IntWalk.i64_in _ (by omega) |>.trans (by omega)
      have hi2 : ((m + 1 : Nat) : Int) - 1 = (m : Int) := by omega
      have HX := Lib.hid hx; clear hx h0
      have hm4 : (m : Int) < 4 := by omega
      by_cases hq : x = 0
      · have ht : (x != 0) = false := by simp [hq]
        have HQ := Lib.hid hq; clear hq
        go_wp2_with fail
        go_roundw
        case rel =>
          refine ⟨by first | rfl | trivial, m, by omega, rfl, Lib.hid fun j h1 h2 => ?_⟩
          rcases (show j = m ∨ m + 1 ≤ j by omega) with rfl | h3
          · rw [← HX.out]; exact HQ.out
          · exact hz.out j h3 h2
        case measure => simp [intOf]
      · have ht : (x != 0) = true := by simp [hq]
        have HQ := Lib.hid hq; clear hq
        go_wp2_with fail
        go_ret
        exact ⟨m + 1, hn, rfl, hz.out, fun _ => by rw [show m + 1 - 1 = m by omega, ← HX.out]; exact HQ.out, HB.out⟩

theorem below_at2 {a b : World} (h : Below a.heap.size a b) {k : Nat} {o : Obj} (ho : a.heap[k]? = some o) : b.heap[k]? = some o := (Keep.of_below (S := fun _ => False) h).at ho id
/-- The number's bits, by its highest word. -/
theorem bits_word {a b c d : Int} {m : Nat} (h : UIs a b c d m) {n : Nat} (hn : n ≤ 4) (hz : ∀ j, n ≤ j → j < 4 → w4 a b c d j = 0) (hq : 0 < n → w4 a b c d (n - 1) ≠ 0) :
    (n = 0 ∧ m = 0) ∨ ∃ k x : Nat, n = k + 1 ∧ w4 a b c d k = (x : Int) ∧ x < 18446744073709551616 ∧ bitsN m = 64 * k + bitsN x := by
  obtain ⟨⟨a0, a1⟩, ⟨b0, b1⟩, ⟨c0, c1⟩, ⟨d0, d1⟩, e⟩ := h
  obtain ⟨A, rfl⟩ := Int.eq_ofNat_of_zero_le a0
  obtain ⟨B, rfl⟩ := Int.eq_ofNat_of_zero_le b0
  obtain ⟨C, rfl⟩ := Int.eq_ofNat_of_zero_le c0
  obtain ⟨E, rfl⟩ := Int.eq_ofNat_of_zero_le d0
  match n, hn with
  | 0, _ =>
    have z0 := hz 0 (by omega) (by omega); have z1 := hz 1 (by omega) (by omega); have z2 := hz 2 (by omega) (by omega); have z3 := hz 3 (by omega) (by omega)
    simp only [w4] at z0 z1 z2 z3
    exact .inl ⟨rfl, by omega⟩
  | 1, _ =>
    have z1 := hz 1 (by omega) (by omega); have z2 := hz 2 (by omega) (by omega); have z3 := hz 3 (by omega) (by omega)
    simp only [w4] at z1 z2 z3
    exact .inr ⟨0, A, rfl, rfl, by omega, by rw [show m = A by omega]; omega⟩
  | 2, _ =>
    have q := hq (by omega); have z2 := hz 2 (by omega) (by omega); have z3 := hz 3 (by omega) (by omega)
    simp only [w4] at q z2 z3
    have hb := bitsN_shift B A 64 (by omega) (by omega)
    exact .inr ⟨1, B, rfl, rfl, by omega, by rw [show m = B * 2 ^ 64 + A by omega, hb]; omega⟩
  | 3, _ =>
    have q := hq (by omega); have z3 := hz 3 (by omega) (by omega)
    simp only [w4] at q z3
    have hb := bitsN_shift C (B * 18446744073709551616 + A) 128 (by omega) (by omega)
    exact .inr ⟨2, C, rfl, rfl, by omega, by rw [show m = C * 2 ^ 128 + (B * 18446744073709551616 + A) by omega, hb]; omega⟩
  | 4, _ =>
    have q : (E : Int) ≠ 0 := hq (by omega)
    have e2 : (2 : Nat) ^ 192 = 6277101735386680763835789423207666416102355444464034512896 := rfl
    have hb := bitsN_shift E (C * 340282366920938463463374607431768211456 + B * 18446744073709551616 + A) 192 (by omega) (by rw [e2]; omega)
    rw [e2] at hb
    exact .inr ⟨3, E, rfl, rfl, by omega, by rw [show m = E * 6277101735386680763835789423207666416102355444464034512896 + (C * 340282366920938463463374607431768211456 + B * 18446744073709551616 + A) by omega, hb]; omega⟩
set_option maxHeartbeats 4000000 in
set_option maxRecDepth 100000 in
/-- u256.Bits. -/
theorem ubits_any {a b c d : Int} {m : Nat} (h : UIs a b c d m) (w : World) : Calls Tryz.prog 257 #[.agg #[.int .u64 a, .int .u64 b, .int .u64 c, .int .u64 d]] w (Ret w (.int .i64 (bitsN m))) := by
  have H := Lib.hid h; clear h
  go_enter Tryz.func257, Tryz.ntmps257
  go_wp2_with fail
  obtain ⟨w1, hw1⟩ : ∃ w1, w1 = w.alloc (.cells #[.int .u64 a, .int .u64 b, .int .u64 c, .int .u64 d] 55) := ⟨_, rfl⟩
  obtain ⟨g, hg⟩ : ∃ g, g = w.heap.size := ⟨_, rfl⟩
  rw [← hw1, ← hg]
  have HH := Lib.hid (show w1.heap[g]? = some (.cells #[.int .u64 a, .int .u64 b, .int .u64 c, .int .u64 d] 55 (0, 0)) by rw [hw1, hg]; exact heap_alloc_new _ _)
  have HB := Lib.hid (show Below w.heap.size w w1 by rw [hw1]; exact (Below.refl _ _).alloc (Nat.le_refl _) _)
  clear hw1 hg
  refine (used_any a b c d w1).mono ?_
  rintro e w2 ⟨n, hn, rfl, hz, hq, hb⟩
  have HH2 := Lib.hid (below_at2 hb HH.out)
  have HB2 := Lib.hid (HB.out.trans (hb.mono HB.out.size))
  rcases bits_word H.out hn hz hq with ⟨rfl, rfl⟩ | ⟨k, x, rfl, hx, hx2, hm⟩
  · clear hz hq HH HB hb
    go_wp2_with fail
    go_ret
    exact ⟨by rw [bitsN_zero]; rfl, HB2.out⟩
  · have hc := w4_cell HH2.out k (by omega)
    rw [hx] at hc
    have hb64 := bitsN_64 hx2
    obtain ⟨y, hy⟩ : ∃ y, y = bitsN x := ⟨_, rfl⟩
    have hul := ulength_any x hx2
    rw [← hy] at hb64 hul hm
    have HE := Lib.hid (show 64 * (k : Int) + (y : Int) = (bitsN m : Int) by omega)
    have HU := Lib.hid hul
    have hi2 : ((k + 1 : Nat) : Int) - 1 = (k : Int) := by omega
    have hk4 : (k : Int) < 4 := by omega
    clear hz hq HH HB hb hx hx2 hm hy hul H
    go_wp2_with fail
    refine (HU.out w2).mono ?_
    rintro e w3 ⟨rfl, hb3⟩
    have HB3 := Lib.hid (HB2.out.trans (hb3.mono HB2.out.size))
    clear hb3 HB2 HH2 hc HU
    go_wp2_with fail
    go_ret
    exact ⟨by rw [← HE.out]; rfl, HB3.out⟩
end
end Go.Proofs.YtmclmccgghnglaaGreat
