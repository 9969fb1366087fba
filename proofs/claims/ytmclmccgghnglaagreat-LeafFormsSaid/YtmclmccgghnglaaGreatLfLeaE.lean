/- Rows of a table: which may be, and in order (code). No condition. -/
import Derived.Test.YtmclmccgghnglaaGreatLfLeaD
namespace Go.Proofs.YtmclmccgghnglaaGreat
open Go.RowKit Go.Sort Go.Shelf

/-- Numbers whose words' or is nought. -/
theorem lor_zero (a b : Nat) : (a ||| b = 0) ↔ (a = 0 ∧ b = 0) := by
  constructor
  · intro h
    have h1 := Nat.left_le_or (n := a) (m := b)
    have h2 := Nat.right_le_or (n := a) (m := b)
    omega
  · rintro ⟨rfl, rfl⟩; rfl
def half256 : Nat := 340282366920938463463374607431768211456
set_option maxHeartbeats 1000000 in
theorem wadamt_any {a b c d : Int} {n : Nat} (h : UIs a b c d n) (w : World) : Calls Tryz.prog 108 #[.agg #[.int .u64 a, .int .u64 b, .int .u64 c, .int .u64 d]] w (Ret w (.bool (decide (n < half256)))) := by
  obtain ⟨C, E, hc, he, rfl, rfl, hn⟩ : ∃ C E : Nat, C < 18446744073709551616 ∧ E < 18446744073709551616 ∧ c = (C : Int) ∧ d = (E : Int) ∧ (n < half256 ↔ C = 0 ∧ E = 0) := by
    unfold UIs at h
    unfold half256
    exact ⟨c.toNat, d.toNat, by omega, by omega, by omega, by omega, by omega⟩
  have hor : bits BinOp.or IntKind.u64 (C : Int) (E : Int) = ((C ||| E : Nat) : Int) := u64_or_nat C E hc he
  have hz : (((C ||| E : Nat) : Int) == 0) = decide (n < half256) := by
    by_cases h0 : C ||| E = 0
    · have := (lor_zero C E).1 h0
      rw [h0, decide_eq_true (hn.2 this)]; rfl
    · have h1 : ¬ (C = 0 ∧ E = 0) := fun e => h0 ((lor_zero C E).2 e)
      rw [decide_eq_false (fun k => h1 (hn.1 k))]
      simpa using h0
  obtain ⟨z, hz2⟩ : ∃ z, z = (((C ||| E : Nat) : Int) == 0) := ⟨_, rfl⟩
  have HZ := Lib.hid (hz2.trans hz)
  have hz3 := hz2.symm
  obtain ⟨q, hq⟩ : ∃ q : Int, q = ((C ||| E : Nat) : Int) := ⟨_, rfl⟩
  rw [← hq] at hor hz3
  clear h hc he hn hz hz2 hq
  go_enter Tryz.func108, Tryz.ntmps108
  go_wp2_with fail
  go_ret
  exact ⟨by rw [HZ.out]; rfl, (Below.refl _ _).alloc (Nat.le_refl _) _⟩

structure LRow where
  e : Int
  t : Int
  m : Nat
def rowC (r : LRow) : Array Value := #[.int .i64 r.e, .int .i64 r.t, .int .u64 (uw0 r.m), .int .u64 (uw1 r.m), .int .u64 (uw2 r.m), .int .u64 (uw3 r.m)]
def rowE (r : LRow) : List Value := [.int .i64 r.e, .int .i64 r.t, .int .u64 (uw0 r.m), .int .u64 (uw1 r.m), .int .u64 (uw2 r.m), .int .u64 (uw3 r.m)]
theorem rowE_len (r : LRow) : (rowE r).length = 6 := rfl
theorem rowE_one (r : LRow) : ∀ u ∈ rowE r, u.oneCell' = true := by
  intro u hu
  simp only [rowE, List.mem_cons, List.not_mem_nil, or_false] at hu
  rcases hu with rfl | rfl | rfl | rfl | rfl | rfl <;> rfl
theorem one_row (r : LRow) : (#[.int .i64 r.e, .int .i64 r.t, .int .u64 (uw0 r.m), .int .u64 (uw1 r.m), .int .u64 (uw2 r.m), .int .u64 (uw3 r.m)] : Array Value).all (·.oneCell') = true := by simp [Value.oneCell']
def ROk (r : LRow) : Prop := I64k (r.e, r.t) ∧ r.m < uMax
def rkey (r : LRow) : Int × Int := (r.e, r.t)
def kv (r : LRow) : (Int × Int) × Nat := ((r.e, r.t), r.m)
def goodR (r : LRow) : Bool := decide (1 ≤ r.e) && (decide (r.e ≤ 4294967295) && (decide (1 ≤ r.t) && (decide (r.t ≤ 1000) && decide (r.m < half256))))
theorem Tryz.zeroRow (w : World) : (zeroValue 127).run Tryz.prog w = .ok (.agg #[.int .i64 0, .int .i64 0, .int .u64 0, .int .u64 0, .int .u64 0, .int .u64 0]) w := by kernel_rfl
theorem Tryz.sizeRow : (Tryz.prog.info? 127).map (·.size) = some 6 := by kernel_rfl
theorem Tryz.infoRow : (Tryz.prog.info? 127).map (fun i => (i.zero, i.size, i.bytes)) = some (some (.agg #[.int .i64 0, .int .i64 0, .int .u64 0, .int .u64 0, .int .u64 0, .int .u64 0]), 6, 48) := by kernel_rfl
theorem Rd.six {w : World} {ad : Option Addr} {n cap : Nat} {l : List LRow} (h : Rd w rowE 6 (.slice ad n cap) l) (i : Nat) (hi : i < l.length) :
    ∃ b off, ad = some ⟨b, off, none⟩ ∧ b < w.heap.size ∧ w.cell? ⟨b, off + i * 6, none⟩ = some (.int .i64 l[i].e) ∧ w.cell? ⟨b, off + i * 6 + 1, none⟩ = some (.int .i64 l[i].t) ∧ w.cell? ⟨b, off + i * 6 + 2, none⟩ = some (.int .u64 (uw0 l[i].m)) ∧
      w.cell? ⟨b, off + i * 6 + 3, none⟩ = some (.int .u64 (uw1 l[i].m)) ∧ w.cell? ⟨b, off + i * 6 + 4, none⟩ = some (.int .u64 (uw2 l[i].m)) ∧ w.cell? ⟨b, off + i * 6 + 5, none⟩ = some (.int .u64 (uw3 l[i].m)) := by
  obtain ⟨ad', cap', he, h1, h2, h3⟩ := h
  cases he
  obtain ⟨b, off, rfl, hb, hc⟩ := h3 (by intro hl; subst hl; simp at hi)
  exact ⟨b, off, rfl, hb, hc i hi 0 (by omega), hc i hi 1 (by omega), hc i hi 2 (by omega), hc i hi 3 (by omega), hc i hi 4 (by omega), hc i hi 5 (by omega)⟩

set_option maxHeartbeats 4000000 in
theorem good_any (r : LRow) (hr : r.m < uMax) (w : World) : Calls Tryz.prog 77 #[.agg #[.int .i64 r.e, .int .i64 r.t, .int .u64 (uw0 r.m), .int .u64 (uw1 r.m), .int .u64 (uw2 r.m), .int .u64 (uw3 r.m)]] w (Ret w (.bool (goodR r))) := by
  have HU := Lib.hid (uw_is hr)
  obtain ⟨e, t, m⟩ := r
  obtain ⟨q, hq⟩ : ∃ q, q = goodR ⟨e, t, m⟩ := ⟨_, rfl⟩
  have HQ := Lib.hid hq
  rw [← hq]
  clear hr hq
  dsimp only at HU ⊢
  by_cases h0 : 1 ≤ e
  · by_cases h1 : e ≤ 4294967295
    · by_cases h2 : 1 ≤ t
      · by_cases h3 : t ≤ 1000
        · go_enter Tryz.func77, Tryz.ntmps77
          go_wp2_with fail
          refine (wadamt_any HU.out _).mono ?_
          rintro e' w1 ⟨rfl, hb⟩
          have HB := Lib.hid (((Below.refl w.heap.size w).alloc (Nat.le_refl _) _).trans (hb.mono (by simp)))
          clear hb
          go_wp2_with fail
          go_ret
          exact ⟨by rw [HQ.out]; simp [goodR, h0, h1, h2, h3], HB.out⟩
        · have g3 : 1000 < t := by omega
          have hF : goodR ⟨e, t, m⟩ = false := by simp [goodR, h0, h1, h2, h3]
          rw [hF] at HQ
          clear h3 hF
          go_enter Tryz.func77, Tryz.ntmps77
          go_wp2_with fail
          go_ret
          exact ⟨by rw [HQ.out]; rfl, (Below.refl _ _).alloc (Nat.le_refl _) _⟩
      · have g2 : t < 1 := by omega
        have hF : goodR ⟨e, t, m⟩ = false := by simp [goodR, h0, h1, h2]
        rw [hF] at HQ
        clear h2 hF
        go_enter Tryz.func77, Tryz.ntmps77
        go_wp2_with fail
        go_ret
        exact ⟨by rw [HQ.out]; rfl, (Below.refl _ _).alloc (Nat.le_refl _) _⟩
    · have g1 : 4294967295 < e := by omega
      have hF : goodR ⟨e, t, m⟩ = false := by simp [goodR, h0, h1]
      rw [hF] at HQ
      clear h1 hF
      go_enter Tryz.func77, Tryz.ntmps77
      go_wp2_with fail
      go_ret
      exact ⟨by rw [HQ.out]; rfl, (Below.refl _ _).alloc (Nat.le_refl _) _⟩
  · have g0 : e < 1 := by omega
    have hF : goodR ⟨e, t, m⟩ = false := by simp [goodR, h0]
    rw [hF] at HQ
    clear h0 hF
    go_enter Tryz.func77, Tryz.ntmps77
    go_wp2_with fail
    go_ret
    exact ⟨by rw [HQ.out]; rfl, (Below.refl _ _).alloc (Nat.le_refl _) _⟩
end Go.Proofs.YtmclmccgghnglaaGreat
