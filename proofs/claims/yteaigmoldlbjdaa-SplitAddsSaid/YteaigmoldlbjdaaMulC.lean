/- Division by a number of 32 bits (code). No condition. -/
import Derived.Test.YteaigmoldlbjdaaMulB
namespace Go.Proofs.Yteaigmoldlbjdaa
open Go.RowKit

/-- One step of a division by a small number. -/
theorem small_step {d r x : Nat} (hr : r < d) (hd : d < 4294967296) (hx : x < 18446744073709551616) :
    r * 4294967296 + x / 4294967296 < 18446744073709551616 ∧ (r * 4294967296 + x / 4294967296) % d * 4294967296 + x % 4294967296 < 18446744073709551616 ∧ (r * 4294967296 + x / 4294967296) / d < 4294967296 ∧ ((r * 4294967296 + x / 4294967296) % d * 4294967296 + x % 4294967296) / d < 4294967296 ∧
    r * 18446744073709551616 + x = d * ((r * 4294967296 + x / 4294967296) / d * 4294967296 + ((r * 4294967296 + x / 4294967296) % d * 4294967296 + x % 4294967296) / d) + ((r * 4294967296 + x / 4294967296) % d * 4294967296 + x % 4294967296) % d := by
  have hd0 : 0 < d := by omega
  have h1 := Nat.div_add_mod (r * 4294967296 + x / 4294967296) d
  have h2 := Nat.mod_lt (r * 4294967296 + x / 4294967296) hd0
  obtain ⟨hi, hhi⟩ : ∃ q, q = r * 4294967296 + x / 4294967296 := ⟨_, rfl⟩
  rw [← hhi] at h1 h2 ⊢
  have k1 : hi / d < 4294967296 := Nat.div_lt_of_lt_mul (by
    have : r * 4294967296 + 4294967296 ≤ d * 4294967296 := by rw [← Nat.succ_mul]; exact Nat.mul_le_mul_right _ hr
    omega)
  obtain ⟨qh, hqh⟩ : ∃ q, q = hi / d := ⟨_, rfl⟩
  obtain ⟨rh, hrh⟩ : ∃ q, q = hi % d := ⟨_, rfl⟩
  rw [← hqh, ← hrh] at h1
  rw [← hrh] at h2
  rw [← hqh] at k1 ⊢
  rw [← hrh]
  have h3 := Nat.div_add_mod (rh * 4294967296 + x % 4294967296) d
  have k2 : (rh * 4294967296 + x % 4294967296) / d < 4294967296 := Nat.div_lt_of_lt_mul (by
    have : rh * 4294967296 + 4294967296 ≤ d * 4294967296 := by rw [← Nat.succ_mul]; exact Nat.mul_le_mul_right _ h2
    omega)
  obtain ⟨ql, hql⟩ : ∃ q, q = (rh * 4294967296 + x % 4294967296) / d := ⟨_, rfl⟩
  obtain ⟨rl, hrl⟩ : ∃ q, q = (rh * 4294967296 + x % 4294967296) % d := ⟨_, rfl⟩
  rw [← hql, ← hrl] at h3
  rw [← hql] at k2 ⊢
  rw [← hrl]
  refine ⟨by omega, by omega, k1, k2, ?_⟩
  rw [Nat.mul_add, ← Nat.mul_assoc]
  obtain ⟨u, hu⟩ : ∃ q, q = d * qh := ⟨_, rfl⟩
  obtain ⟨v, hv⟩ : ∃ q, q = d * ql := ⟨_, rfl⟩
  rw [← hu] at h1 ⊢
  rw [← hv] at h3 ⊢
  omega
/-- What stands behind the places from t on: quotients; r is what is left. -/
structure SmI (la : List Nat) (d t : Nat) (o : List Nat) (r : Nat) : Prop where
  len : o.length = la.length
  d64 : D64 o
  lo : o.take t = la.take t
  eq : wv (la.drop t) = d * wv (o.drop t) + r
  lt : r < d
theorem SmI.start {la : List Nat} {d : Nat} (hl : D64 la) (hd : 0 < d) : SmI la d la.length la 0 := ⟨rfl, hl, rfl, by rw [List.drop_length]; simp [wv], hd⟩
theorem SmI.next {la o : List Nat} {d t r x q r' : Nat} (h : SmI la d (t + 1) o r) (ht : t < la.length) (hx : ∃ h : t < o.length, o[t] = x) (hq : q < 18446744073709551616) (he : r * 18446744073709551616 + x = d * q + r') (hr : r' < d) : SmI la d t (o.set t q) r' := by
  obtain ⟨hto, hxo⟩ := hx
  have hxl : la[t] = x := by
    have e := congrArg (fun l => l[t]?) h.lo
    simp only [List.getElem?_take_of_lt (Nat.lt_succ_self t), List.getElem?_eq_getElem hto, List.getElem?_eq_getElem ht] at e
    rw [← hxo]; exact (Option.some.inj e).symm
  refine ⟨by rw [List.length_set, h.len], h.d64.set _ hq, ?_, ?_, hr⟩
  · rw [List.take_set_of_le (Nat.le_refl t)]
    have e := congrArg (fun l => l.take t) h.lo
    simpa [List.take_take, Nat.min_eq_left (Nat.le_succ t)] using e
  · have e1 : la.drop t = la[t] :: la.drop (t + 1) := List.drop_eq_getElem_cons ht
    have hs : t < (o.set t q).length := by rw [List.length_set]; exact hto
    have e2 : (o.set t q).drop t = q :: o.drop (t + 1) := by
      rw [List.drop_eq_getElem_cons hs, List.getElem_set_self, List.drop_set_of_lt (Nat.lt_succ_self t)]
    rw [e1, e2, hxl]
    show x + 18446744073709551616 * wv (la.drop (t + 1)) = d * (q + 18446744073709551616 * wv (o.drop (t + 1))) + r'
    rw [h.eq, Nat.mul_add, Nat.mul_add, Nat.mul_left_comm d 18446744073709551616]
    omega
theorem SmI.done {la o : List Nat} {d r : Nat} (h : SmI la d 0 o r) : wv o = wv la / d ∧ r = wv la % d := by
  have e := h.eq
  rw [List.drop_zero, List.drop_zero] at e
  have hd : 0 < d := by have := h.lt; omega
  rw [e]
  exact ⟨by rw [Nat.mul_add_div hd, Nat.div_eq_of_lt h.lt, Nat.add_zero], by rw [Nat.mul_add_mod, Nat.mod_eq_of_lt h.lt]⟩
/-- What small says. -/
def SmRet (w : World) (n d : Nat) (e : Ending) (w' : World) : Prop := ∃ a b c f : Int, UIs a b c f (n / d) ∧ e = .returned (.tuple #[.agg #[.int .u64 a, .int .u64 b, .int .u64 c, .int .u64 f], .int .u64 ((n % d : Nat) : Int)]) ∧ Below w.heap.size w w'

set_option maxHeartbeats 16000000 in
set_option maxRecDepth 100000 in
theorem small_any {a b c f : Int} {n d : Nat} (h : UIs a b c f n) (hd0 : 0 < d) (hd : d < 4294967296) (w : World) :
    Calls Try.prog 118 #[.agg #[.int .u64 a, .int .u64 b, .int .u64 c, .int .u64 f], .int .u64 (d : Int)] w (SmRet w n d) := by
  obtain ⟨A0, A1, A2, A3, rfl, rfl, rfl, rfl, ha0, ha1, ha2, ha3, hn⟩ := h.nats
  obtain ⟨la, hla⟩ : ∃ l, l = [A0, A1, A2, A3] := ⟨_, rfl⟩
  have HVA : Hid (wv la = n ∧ D64 la ∧ la.length = 4) := Lib.hid (by
    rw [hla]
    refine ⟨by unfold wv wv wv wv wv; omega, fun x hx => ?_, rfl⟩
    simp only [List.mem_cons, List.not_mem_nil, or_false] at hx
    rcases hx with rfl | rfl | rfl | rfl <;> assumption)
  have HLA := Lib.hid hla; have HD := Lib.hid (And.intro hd0 hd)
  obtain ⟨res, hres⟩ : ∃ q, q = n % d := ⟨_, rfl⟩
  have HRES := Lib.hid hres
  clear h ha0 ha1 ha2 ha3 hn hla hres hd0 hd
  go_enter Try.func118, Try.ntmps118
  go_wp2_with (refine wpList_alloc_g rfl _ rfl _ _ Try.zeroUz rfl ?_)
  obtain ⟨w1, hw1⟩ : ∃ wq, wq = w.alloc (.cells #[.int .u64 (A0 : Int), .int .u64 (A1 : Int), .int .u64 (A2 : Int), .int .u64 (A3 : Int)] 24) := ⟨_, rfl⟩
  obtain ⟨X, hX⟩ : ∃ x, x = w.heap.size := ⟨_, rfl⟩
  rw [← hw1, ← hX]
  have HX1 : Hid (w1.heap[X]? = some (.cells #[.int .u64 (A0 : Int), .int .u64 (A1 : Int), .int .u64 (A2 : Int), .int .u64 (A3 : Int)] 24 (0, 0))) := Lib.hid (by rw [hw1, hX]; exact heap_alloc_new _ _)
  have HB1 : Hid (Below w.heap.size w w1) := Lib.hid (by rw [hw1]; exact below_new _ _)
  have WX : Hid (w.heap.size ≤ X) := Lib.hid (by omega)
  clear hw1 hX
  intro R w2 hR'
  have WR : Hid (w.heap.size ≤ R) := Lib.hid (by rw [hR'.out.eq]; exact HB1.out.size)
  have NXR : Hid (X ≠ R) := Lib.hid (by have := hR'.out.eq; have := heap_lt HX1.out; omega)
  have HR := Lib.hid hR'.out.cells; have HX := Lib.hid (below_at' hR'.out.below HX1.out); have HB := Lib.hid (HB1.out.trans (hR'.out.below.mono HB1.out.size))
  clear hR' HX1 HB1
  go_wp2_with fail
  go_loopw [6, 7] (fun vr vi wr => ∃ (t r : Nat) (o : List Nat), vr = .int .u64 r ∧ vi = .int .i64 ((t : Int) - 1) ∧ t ≤ 4 ∧ Hid (SmI la d t o r) ∧ Hid (wr.heap[X]? = some (.cells (rowW o) 24 (0, 0))) ∧ Hid (wr.heap[R]? = some (.cells u0 24 (0, 0))) ∧ Hid (Below w.heap.size w wr)) (fun _ vi _ => (intOf vi + 1).toNat)
  case atStart => exact ⟨4, 0, la, rfl, rfl, by omega, Lib.hid (by have h9 := SmI.start HVA.out.2.1 HD.out.1; rw [HVA.out.2.2] at h9; exact h9), Lib.hid (by rw [HLA.out]; exact HX.out), HR, HB⟩
  case round =>
    clear HX HR HB
    obtain ⟨t, r, o, rfl, rfl, ht4, HS, HX, HR, HB⟩ := hrel
    have hl := HS.out.len
    rw [HVA.out.2.2] at hl
    match o, hl with
    | [p0, p1, p2, p3], _ =>
      rcases (show t = 0 ∨ t = 1 ∨ t = 2 ∨ t = 3 ∨ t = 4 by omega) with rfl | rfl | rfl | rfl | rfl
      · have hdn := HS.out.done
        rw [HVA.out.1] at hdn
        have HDN : Hid (wv [p0, p1, p2, p3] = n / d ∧ r = n % d) := Lib.hid hdn
        have HPP : Hid (p0 < 18446744073709551616 ∧ p1 < 18446744073709551616 ∧ p2 < 18446744073709551616 ∧ p3 < 18446744073709551616) := Lib.hid ⟨HS.out.d64 _ (by simp), HS.out.d64 _ (by simp), HS.out.d64 _ (by simp), HS.out.d64 _ (by simp)⟩
        have hxx : Hid (wr.heap[X]? = some (.cells #[.int .u64 (p0 : Int), .int .u64 (p1 : Int), .int .u64 (p2 : Int), .int .u64 (p3 : Int)] 24 (0, 0))) := HX
        clear hdn HX HS
        have HX := hxx
        clear hxx
        go_wp2_with (first
          | (refine wpList_load_row rfl 24 _ rfl X rfl 24 _ _ _ HX.out Try.underlying24 rfl Try.sizeU ?_)
          | (refine wpList_store_row_g (t := 24) (old := u0) rfl 24 _ _ rfl R #[.int .u64 (p0 : Int), .int .u64 (p1 : Int), .int .u64 (p2 : Int), .int .u64 (p3 : Int)] rfl rfl HR.out Try.sizeU rfl (one_u64 _ _ _ _) ?_))
        intro f1 hxR kR zR
        clear zR
        have HBm := Lib.hid (HB.out.trans (kR.below (B := w.heap.size) (fun y hy e => by have := WR.out; omega) HB.out.size))
        have HXm := Lib.hid (kR.at HX.out NXR.out)
        have HRm := Lib.hid hxR
        clear hxR kR HB HX HR
        have HB := HBm
        have HX := HXm
        have HR := HRm
        clear HBm HXm HRm
        go_wp2_with fail
        exact bodyPost_ret (res_row_val rfl _ _ R _ _ _ _ rfl HR.out Try.underlying24 rfl Try.sizeU _ rfl) rfl ⟨_, _, _, _, by rw [← HDN.out.1]; exact UIs.of_words HPP.out.1 HPP.out.2.1 HPP.out.2.2.1 HPP.out.2.2.2, by rw [← HDN.out.2]; rfl, HB.out⟩
      · have hp : p0 < 18446744073709551616 := HS.out.d64 _ (by simp)
        have hst := small_step HS.out.lt HD.out.2 hp
        have hnx : ∀ q r', q < 18446744073709551616 → r * 18446744073709551616 + p0 = d * q + r' → r' < d → SmI la d 0 ([p0, p1, p2, p3].set 0 q) r' := fun q r' h1 h2 h3 => HS.out.next (by rw [HVA.out.2.2]; decide) ⟨by simp, rfl⟩ h1 h2 h3
        have hrd := HS.out.lt
        have hdm := HD.out.2
        have hd0 := HD.out.1
        obtain ⟨xh, hxh⟩ : ∃ q, q = p0 / 4294967296 := ⟨_, rfl⟩
        obtain ⟨xl, hxl⟩ : ∃ q, q = p0 % 4294967296 := ⟨_, rfl⟩
        rw [← hxh, ← hxl] at hst
        obtain ⟨hi, hhi⟩ : ∃ q, q = r * 4294967296 + xh := ⟨_, rfl⟩
        rw [← hhi] at hst
        obtain ⟨rh, hrh⟩ : ∃ q, q = hi % d := ⟨_, rfl⟩
        obtain ⟨qh, hqh⟩ : ∃ q, q = hi / d := ⟨_, rfl⟩
        rw [← hrh, ← hqh] at hst
        obtain ⟨low, hlow⟩ : ∃ q, q = rh * 4294967296 + xl := ⟨_, rfl⟩
        rw [← hlow] at hst
        obtain ⟨rl, hrl⟩ : ∃ q, q = low % d := ⟨_, rfl⟩
        obtain ⟨ql, hql⟩ : ∃ q, q = low / d := ⟨_, rfl⟩
        rw [← hrl, ← hql] at hst
        obtain ⟨q, hq⟩ : ∃ q, q = qh * 4294967296 + ql := ⟨_, rfl⟩
        rw [← hq] at hst
        have hrh2 : rh < d := by rw [hrh]; exact Nat.mod_lt _ hd0
        have hrl2 : rl < d := by rw [hrl]; exact Nat.mod_lt _ hd0
        have HNX : Hid (SmI la d 0 ([p0, p1, p2, p3].set 0 q) rl) := Lib.hid (hnx q rl (by omega) hst.2.2.2.2 hrl2)
        have f1 : IntKind.u64.wrap ((r : Int) * 4294967296) = ((r * 4294967296 : Nat) : Int) := by rw [wrap_high, Nat.mod_eq_of_lt (by omega)]
        have f2 : (p0 : Int) / 4294967296 = (xh : Int) := by omega
        have f3 : bits BinOp.or IntKind.u64 ((r * 4294967296 : Nat) : Int) (xh : Int) = (hi : Int) := by rw [or_high r xh (by omega) (by omega), hhi]
        have f4 : (hi : Int) % (d : Int) = (rh : Int) := by rw [hrh]; exact (Int.natCast_emod _ _).symm
        have e4 : (hi : Int).tmod (d : Int) = (rh : Int) := by rw [hrh]; rfl
        have j3 : (low : Int).tmod (d : Int) = (rl : Int) := by rw [hrl]; rfl
        have e8 : IntKind.u64.wrap (qh : Int) = (qh : Int) := by rw [IntKind.wrap_u64]; omega
        have j1 : IntKind.u64.wrap (ql : Int) = (ql : Int) := by rw [IntKind.wrap_u64]; omega
        have f5 : IntKind.u64.wrap ((rh : Int) * 4294967296) = ((rh * 4294967296 : Nat) : Int) := by rw [wrap_high, Nat.mod_eq_of_lt (by omega)]
        have f6 : bits BinOp.and IntKind.u64 (p0 : Int) 4294967295 = (xl : Int) := by rw [and_low p0 hp, hxl]
        have f7 : bits BinOp.or IntKind.u64 ((rh * 4294967296 : Nat) : Int) (xl : Int) = (low : Int) := by rw [or_high rh xl (by omega) (by omega), hlow]
        have f8 : (hi : Int) / (d : Int) = (qh : Int) := by rw [hqh]; exact (Int.natCast_ediv _ _).symm
        have f9 : IntKind.u64.wrap ((qh : Int) * 4294967296) = ((qh * 4294967296 : Nat) : Int) := by rw [wrap_high, Nat.mod_eq_of_lt (by omega)]
        have g1 : (low : Int) / (d : Int) = (ql : Int) := by rw [hql]; exact (Int.natCast_ediv _ _).symm
        have g2 : bits BinOp.or IntKind.u64 ((qh * 4294967296 : Nat) : Int) (ql : Int) = (q : Int) := by rw [or_high qh ql (by omega) (by omega), hq]
        have g3 : (low : Int) % (d : Int) = (rl : Int) := by rw [hrl]; exact (Int.natCast_emod _ _).symm
        obtain ⟨v1, hv1⟩ : ∃ v : Int, v = ((r * 4294967296 : Nat) : Int) := ⟨_, rfl⟩
        obtain ⟨v2, hv2⟩ : ∃ v : Int, v = ((rh * 4294967296 : Nat) : Int) := ⟨_, rfl⟩
        obtain ⟨v3, hv3⟩ : ∃ v : Int, v = ((qh * 4294967296 : Nat) : Int) := ⟨_, rfl⟩
        rw [← hv1] at f1 f3
        rw [← hv2] at f5 f7
        rw [← hv3] at f9 g2
        have hne : ((d : Int) == 0) = false := beq_eq_false_iff_ne.2 (by omega)
        have hne2 : ¬ d = 0 := by omega
        have hxx : Hid (wr.heap[X]? = some (.cells #[.int .u64 (p0 : Int), .int .u64 (p1 : Int), .int .u64 (p2 : Int), .int .u64 (p3 : Int)] 24 (0, 0))) := HX
        have c0 : wr.cell? ⟨X, 0, none⟩ = some (.int .u64 (p0 : Int)) := Lib.cell_of_heap hxx.out 0
        clear hst hnx hxh hxl hhi hrh hqh hlow hrl hql hq hv1 hv2 hv3 HS HX hp hrd hdm hrh2 hrl2
        have HX := hxx
        clear hxx
        go_wp2_with fail
        clear c0
        obtain ⟨d1, hwz⟩ : ∃ wz, wz = wr.drew := ⟨_, rfl⟩
        have hbz : Below wr.heap.size wr d1 := by rw [hwz]; exact (Below.refl _ _).drew
        have HBm := Lib.hid (HB.out.trans (hbz.mono HB.out.size))
        have HXm := Lib.hid (below_at' hbz HX.out)
        have HRm := Lib.hid (below_at' hbz HR.out)
        clear hbz HB HX HR
        have HB := HBm
        have HX := HXm
        have HR := HRm
        clear HBm HXm HRm
        have hS : d1.heap[X]? = some (.cells #[.int .u64 (p0 : Int), .int .u64 (p1 : Int), .int .u64 (p2 : Int), .int .u64 (p3 : Int)] 24 (0, 0)) := HX.out
        refine wp_region_till (fun w' => w'.heap[X]? = some (.cells #[.int .u64 (p0 : Int), .int .u64 (p1 : Int), .int .u64 (p2 : Int), .int .u64 (p3 : Int)] 24 (0, 0))) 10 10 (by kernel_rfl) rfl ?_
        rw [← hwz]
        clear hwz
        refine till_take 0 (some 21) rfl rfl (by kernel_rfl) (by kernel_rfl) (by kernel_rfl) (by kernel_rfl) (by kernel_rfl) (by kernel_rfl) (fun _ _ _ h => h) (.inl ⟨by rfl, fun w' _ => (by go_simp; rfl)⟩) hS ?_
        go_frame
        refine till_take 1 (some 22) rfl rfl (by kernel_rfl) (by kernel_rfl) (by kernel_rfl) (by kernel_rfl) (by kernel_rfl) (by kernel_rfl) (fun _ _ _ h => h) (.inl ⟨by rfl, fun w' _ => (by go_simp; rfl)⟩) hS ?_
        go_frame
        refine till_take 2 (some 23) rfl rfl (by kernel_rfl) (by kernel_rfl) (by kernel_rfl) (by kernel_rfl) (by kernel_rfl) (by kernel_rfl) (fun _ _ _ h => h) (.inl ⟨by rfl, fun w' _ => (by go_simp; rfl)⟩) hS ?_
        go_frame
        refine till_take 3 (some 24) rfl rfl (by kernel_rfl) (by kernel_rfl) (by kernel_rfl) (by kernel_rfl) (by kernel_rfl) (by kernel_rfl) (fun _ _ _ h => h) (.inl ⟨by rfl, fun w' _ => (by go_simp; rfl)⟩) hS ?_
        go_frame
        refine till_take 4 (some 25) rfl rfl (by kernel_rfl) (by kernel_rfl) (by kernel_rfl) (by kernel_rfl) (by kernel_rfl) (by kernel_rfl) (fun _ _ _ h => h) (.inl ⟨by rfl, fun w' _ => (by go_simp; rfl)⟩) hS ?_
        go_frame
        refine till_take 5 (some 26) rfl rfl (by kernel_rfl) (by kernel_rfl) (by kernel_rfl) (by kernel_rfl) (by kernel_rfl) (by kernel_rfl) (fun _ _ _ h => h) (.inl ⟨by rfl, fun w' _ => (by go_simp; rfl)⟩) hS ?_
        go_frame
        refine till_take 6 (some 27) rfl rfl (by kernel_rfl) (by kernel_rfl) (by kernel_rfl) (by kernel_rfl) (by kernel_rfl) (by kernel_rfl) (fun _ _ _ h => h) (.inl ⟨by rfl, fun w' hS' => (by have hc : w'.cell? ⟨X, 0, none⟩ = some (.int .u64 (p0 : Int)) := Lib.cell_of_heap (hS') 0; go_simp; rfl)⟩) hS ?_
        go_frame
        refine till_take 7 (some 28) rfl rfl (by kernel_rfl) (by kernel_rfl) (by kernel_rfl) (by kernel_rfl) (by kernel_rfl) (by kernel_rfl) (fun _ _ _ h => h) (.inl ⟨by rfl, fun w' _ => (by go_simp; rfl)⟩) hS ?_
        go_frame
        refine till_take 8 (some 29) rfl rfl (by kernel_rfl) (by kernel_rfl) (by kernel_rfl) (by kernel_rfl) (by kernel_rfl) (by kernel_rfl) (fun _ _ _ h => h) (.inl ⟨by rfl, fun w' _ => (by go_simp; rfl)⟩) hS ?_
        go_frame
        refine till_take 9 (some 9) rfl rfl (by kernel_rfl) (by kernel_rfl) (by kernel_rfl) (by kernel_rfl) (by kernel_rfl) (by kernel_rfl) (fun _ _ _ h => h) (.inl ⟨by rfl, fun w' _ => (by go_simp; rfl)⟩) hS ?_
        go_frame
        refine till_done (by kernel_rfl) ?_ _
        clear hS
        go_wp2_with fail
        obtain ⟨d2, hwz⟩ : ∃ wz, wz = d1.drew := ⟨_, rfl⟩
        have hbz : Below d1.heap.size d1 d2 := by rw [hwz]; exact (Below.refl _ _).drew
        have HBm := Lib.hid (HB.out.trans (hbz.mono HB.out.size))
        have HXm := Lib.hid (below_at' hbz HX.out)
        have HRm := Lib.hid (below_at' hbz HR.out)
        clear hbz HB HX HR
        have HB := HBm
        have HX := HXm
        have HR := HRm
        clear HBm HXm HRm
        have hS : True := trivial
        refine wp_region_till (fun w' => True) 15 15 (by kernel_rfl) rfl ?_
        rw [← hwz]
        clear hwz
        refine till_take 0 (some 30) rfl rfl (by kernel_rfl) (by kernel_rfl) (by kernel_rfl) (by kernel_rfl) (by kernel_rfl) (by kernel_rfl) (fun _ _ _ h => h) (.inl ⟨by rfl, fun w' _ => (by go_simp; rfl)⟩) hS ?_
        go_frame
        refine till_take 1 (some 31) rfl rfl (by kernel_rfl) (by kernel_rfl) (by kernel_rfl) (by kernel_rfl) (by kernel_rfl) (by kernel_rfl) (fun _ _ _ h => h) (.inl ⟨by rfl, fun w' _ => (by go_simp; rfl)⟩) hS ?_
        go_frame
        refine till_take 2 (some 32) rfl rfl (by kernel_rfl) (by kernel_rfl) (by kernel_rfl) (by kernel_rfl) (by kernel_rfl) (by kernel_rfl) (fun _ _ _ h => h) (.inl ⟨by rfl, fun w' _ => (by go_simp; rfl)⟩) hS ?_
        go_frame
        refine till_take 3 (some 33) rfl rfl (by kernel_rfl) (by kernel_rfl) (by kernel_rfl) (by kernel_rfl) (by kernel_rfl) (by kernel_rfl) (fun _ _ _ h => h) (.inl ⟨by rfl, fun w' _ => (by go_simp; rfl)⟩) hS ?_
        go_frame
        refine till_take 4 (some 34) rfl rfl (by kernel_rfl) (by kernel_rfl) (by kernel_rfl) (by kernel_rfl) (by kernel_rfl) (by kernel_rfl) (fun _ _ _ h => h) (.inl ⟨by rfl, fun w' _ => (by go_simp; rfl)⟩) hS ?_
        go_frame
        refine till_take 5 (some 35) rfl rfl (by kernel_rfl) (by kernel_rfl) (by kernel_rfl) (by kernel_rfl) (by kernel_rfl) (by kernel_rfl) (fun _ _ _ h => h) (.inl ⟨by rfl, fun w' _ => (by go_simp; rfl)⟩) hS ?_
        go_frame
        refine till_take 6 (some 36) rfl rfl (by kernel_rfl) (by kernel_rfl) (by kernel_rfl) (by kernel_rfl) (by kernel_rfl) (by kernel_rfl) (fun _ _ _ h => h) (.inl ⟨by rfl, fun w' _ => (by go_simp; rfl)⟩) hS ?_
        go_frame
        refine till_take 7 (some 37) rfl rfl (by kernel_rfl) (by kernel_rfl) (by kernel_rfl) (by kernel_rfl) (by kernel_rfl) (by kernel_rfl) (fun _ _ _ h => h) (.inl ⟨by rfl, fun w' _ => (by go_simp; rfl)⟩) hS ?_
        go_frame
        refine till_take 8 (some 38) rfl rfl (by kernel_rfl) (by kernel_rfl) (by kernel_rfl) (by kernel_rfl) (by kernel_rfl) (by kernel_rfl) (fun _ _ _ h => h) (.inl ⟨by rfl, fun w' _ => (by go_simp; rfl)⟩) hS ?_
        go_frame
        refine till_take 9 (some 39) rfl rfl (by kernel_rfl) (by kernel_rfl) (by kernel_rfl) (by kernel_rfl) (by kernel_rfl) (by kernel_rfl) (fun _ _ _ h => h) (.inl ⟨by rfl, fun w' _ => (by go_simp; rfl)⟩) hS ?_
        go_frame
        refine till_take 10 (some 40) rfl rfl (by kernel_rfl) (by kernel_rfl) (by kernel_rfl) (by kernel_rfl) (by kernel_rfl) (by kernel_rfl) (fun _ _ _ h => h) (.inl ⟨by rfl, fun w' _ => (by go_simp; rfl)⟩) hS ?_
        go_frame
        refine till_take 11 (some 41) rfl rfl (by kernel_rfl) (by kernel_rfl) (by kernel_rfl) (by kernel_rfl) (by kernel_rfl) (by kernel_rfl) (fun _ _ _ h => h) (.inl ⟨by rfl, fun w' _ => (by go_simp; rfl)⟩) hS ?_
        go_frame
        refine till_take 12 (some 42) rfl rfl (by kernel_rfl) (by kernel_rfl) (by kernel_rfl) (by kernel_rfl) (by kernel_rfl) (by kernel_rfl) (fun _ _ _ h => h) (.inl ⟨by rfl, fun w' _ => (by go_simp; rfl)⟩) hS ?_
        go_frame
        refine till_one 13 rfl (by kernel_rfl) fun K hK => ?_
        simp only [List.getElem_toArray, List.getElem_cons_succ, List.getElem_cons_zero]
        rw [if_pos (by rfl)]
        refine wp_store1_g 22 _ _ rfl X 0 (.int .u64 (q : Int)) rfl rfl rfl rfl 24 _ HX.out Try.sizeW1 (by simp) #[.int .u64 (q : Int), .int .u64 (p1 : Int), .int .u64 (p2 : Int), .int .u64 (p3 : Int)] rfl ?_
        intro d3 hxX kX zX
        clear zX
        have HBm := Lib.hid (HB.out.trans (kX.below (B := w.heap.size) (fun y hy e => by have := WX.out; omega) HB.out.size))
        have HRm := Lib.hid (kX.at HR.out (fun e => NXR.out e.symm))
        have HXm := Lib.hid hxX
        clear hxX kX HB HX HR
        have HB := HBm
        have HX := HXm
        have HR := HRm
        clear HBm HXm HRm
        have hS2 : True := trivial
        refine hK _ _ (fun _ _ => hS2) ?_
        clear hK hS
        have hS := hS2
        clear hS2
        refine till_take 14 (some 6) rfl rfl (by kernel_rfl) (by kernel_rfl) (by kernel_rfl) (by kernel_rfl) (by kernel_rfl) (by kernel_rfl) (fun _ _ _ h => h) (.inl ⟨by rfl, fun w' _ => (by go_simp; rfl)⟩) hS ?_
        go_frame
        refine till_done (by kernel_rfl) ?_ _
        clear hS
        clear f1 f2 f3 f4 e4 j3 e8 j1 f5 f6 f7 f8 f9 g1 g2 g3 hne hne2 hd0
        go_wp2_with fail
        go_roundw
        case rel => exact ⟨0, rl, _, by first | rfl | trivial, by first | rfl | trivial, by omega, HNX, HX, HR, HB⟩
        case measure => simp [intOf]
      · have hp : p1 < 18446744073709551616 := HS.out.d64 _ (by simp)
        have hst := small_step HS.out.lt HD.out.2 hp
        have hnx : ∀ q r', q < 18446744073709551616 → r * 18446744073709551616 + p1 = d * q + r' → r' < d → SmI la d 1 ([p0, p1, p2, p3].set 1 q) r' := fun q r' h1 h2 h3 => HS.out.next (by rw [HVA.out.2.2]; decide) ⟨by simp, rfl⟩ h1 h2 h3
        have hrd := HS.out.lt
        have hdm := HD.out.2
        have hd0 := HD.out.1
        obtain ⟨xh, hxh⟩ : ∃ q, q = p1 / 4294967296 := ⟨_, rfl⟩
        obtain ⟨xl, hxl⟩ : ∃ q, q = p1 % 4294967296 := ⟨_, rfl⟩
        rw [← hxh, ← hxl] at hst
        obtain ⟨hi, hhi⟩ : ∃ q, q = r * 4294967296 + xh := ⟨_, rfl⟩
        rw [← hhi] at hst
        obtain ⟨rh, hrh⟩ : ∃ q, q = hi % d := ⟨_, rfl⟩
        obtain ⟨qh, hqh⟩ : ∃ q, q = hi / d := ⟨_, rfl⟩
        rw [← hrh, ← hqh] at hst
        obtain ⟨low, hlow⟩ : ∃ q, q = rh * 4294967296 + xl := ⟨_, rfl⟩
        rw [← hlow] at hst
        obtain ⟨rl, hrl⟩ : ∃ q, q = low % d := ⟨_, rfl⟩
        obtain ⟨ql, hql⟩ : ∃ q, q = low / d := ⟨_, rfl⟩
        rw [← hrl, ← hql] at hst
        obtain ⟨q, hq⟩ : ∃ q, q = qh * 4294967296 + ql := ⟨_, rfl⟩
        rw [← hq] at hst
        have hrh2 : rh < d := by rw [hrh]; exact Nat.mod_lt _ hd0
        have hrl2 : rl < d := by rw [hrl]; exact Nat.mod_lt _ hd0
        have HNX : Hid (SmI la d 1 ([p0, p1, p2, p3].set 1 q) rl) := Lib.hid (hnx q rl (by omega) hst.2.2.2.2 hrl2)
        have f1 : IntKind.u64.wrap ((r : Int) * 4294967296) = ((r * 4294967296 : Nat) : Int) := by rw [wrap_high, Nat.mod_eq_of_lt (by omega)]
        have f2 : (p1 : Int) / 4294967296 = (xh : Int) := by omega
        have f3 : bits BinOp.or IntKind.u64 ((r * 4294967296 : Nat) : Int) (xh : Int) = (hi : Int) := by rw [or_high r xh (by omega) (by omega), hhi]
        have f4 : (hi : Int) % (d : Int) = (rh : Int) := by rw [hrh]; exact (Int.natCast_emod _ _).symm
        have e4 : (hi : Int).tmod (d : Int) = (rh : Int) := by rw [hrh]; rfl
        have j3 : (low : Int).tmod (d : Int) = (rl : Int) := by rw [hrl]; rfl
        have e8 : IntKind.u64.wrap (qh : Int) = (qh : Int) := by rw [IntKind.wrap_u64]; omega
        have j1 : IntKind.u64.wrap (ql : Int) = (ql : Int) := by rw [IntKind.wrap_u64]; omega
        have f5 : IntKind.u64.wrap ((rh : Int) * 4294967296) = ((rh * 4294967296 : Nat) : Int) := by rw [wrap_high, Nat.mod_eq_of_lt (by omega)]
        have f6 : bits BinOp.and IntKind.u64 (p1 : Int) 4294967295 = (xl : Int) := by rw [and_low p1 hp, hxl]
        have f7 : bits BinOp.or IntKind.u64 ((rh * 4294967296 : Nat) : Int) (xl : Int) = (low : Int) := by rw [or_high rh xl (by omega) (by omega), hlow]
        have f8 : (hi : Int) / (d : Int) = (qh : Int) := by rw [hqh]; exact (Int.natCast_ediv _ _).symm
        have f9 : IntKind.u64.wrap ((qh : Int) * 4294967296) = ((qh * 4294967296 : Nat) : Int) := by rw [wrap_high, Nat.mod_eq_of_lt (by omega)]
        have g1 : (low : Int) / (d : Int) = (ql : Int) := by rw [hql]; exact (Int.natCast_ediv _ _).symm
        have g2 : bits BinOp.or IntKind.u64 ((qh * 4294967296 : Nat) : Int) (ql : Int) = (q : Int) := by rw [or_high qh ql (by omega) (by omega), hq]
        have g3 : (low : Int) % (d : Int) = (rl : Int) := by rw [hrl]; exact (Int.natCast_emod _ _).symm
        obtain ⟨v1, hv1⟩ : ∃ v : Int, v = ((r * 4294967296 : Nat) : Int) := ⟨_, rfl⟩
        obtain ⟨v2, hv2⟩ : ∃ v : Int, v = ((rh * 4294967296 : Nat) : Int) := ⟨_, rfl⟩
        obtain ⟨v3, hv3⟩ : ∃ v : Int, v = ((qh * 4294967296 : Nat) : Int) := ⟨_, rfl⟩
        rw [← hv1] at f1 f3
        rw [← hv2] at f5 f7
        rw [← hv3] at f9 g2
        have hne : ((d : Int) == 0) = false := beq_eq_false_iff_ne.2 (by omega)
        have hne2 : ¬ d = 0 := by omega
        have hxx : Hid (wr.heap[X]? = some (.cells #[.int .u64 (p0 : Int), .int .u64 (p1 : Int), .int .u64 (p2 : Int), .int .u64 (p3 : Int)] 24 (0, 0))) := HX
        have c0 : wr.cell? ⟨X, 1, none⟩ = some (.int .u64 (p1 : Int)) := Lib.cell_of_heap hxx.out 1
        clear hst hnx hxh hxl hhi hrh hqh hlow hrl hql hq hv1 hv2 hv3 HS HX hp hrd hdm hrh2 hrl2
        have HX := hxx
        clear hxx
        go_wp2_with fail
        clear c0
        obtain ⟨d1, hwz⟩ : ∃ wz, wz = wr.drew := ⟨_, rfl⟩
        have hbz : Below wr.heap.size wr d1 := by rw [hwz]; exact (Below.refl _ _).drew
        have HBm := Lib.hid (HB.out.trans (hbz.mono HB.out.size))
        have HXm := Lib.hid (below_at' hbz HX.out)
        have HRm := Lib.hid (below_at' hbz HR.out)
        clear hbz HB HX HR
        have HB := HBm
        have HX := HXm
        have HR := HRm
        clear HBm HXm HRm
        have hS : d1.heap[X]? = some (.cells #[.int .u64 (p0 : Int), .int .u64 (p1 : Int), .int .u64 (p2 : Int), .int .u64 (p3 : Int)] 24 (0, 0)) := HX.out
        refine wp_region_till (fun w' => w'.heap[X]? = some (.cells #[.int .u64 (p0 : Int), .int .u64 (p1 : Int), .int .u64 (p2 : Int), .int .u64 (p3 : Int)] 24 (0, 0))) 10 10 (by kernel_rfl) rfl ?_
        rw [← hwz]
        clear hwz
        refine till_take 0 (some 21) rfl rfl (by kernel_rfl) (by kernel_rfl) (by kernel_rfl) (by kernel_rfl) (by kernel_rfl) (by kernel_rfl) (fun _ _ _ h => h) (.inl ⟨by rfl, fun w' _ => (by go_simp; rfl)⟩) hS ?_
        go_frame
        refine till_take 1 (some 22) rfl rfl (by kernel_rfl) (by kernel_rfl) (by kernel_rfl) (by kernel_rfl) (by kernel_rfl) (by kernel_rfl) (fun _ _ _ h => h) (.inl ⟨by rfl, fun w' _ => (by go_simp; rfl)⟩) hS ?_
        go_frame
        refine till_take 2 (some 23) rfl rfl (by kernel_rfl) (by kernel_rfl) (by kernel_rfl) (by kernel_rfl) (by kernel_rfl) (by kernel_rfl) (fun _ _ _ h => h) (.inl ⟨by rfl, fun w' _ => (by go_simp; rfl)⟩) hS ?_
        go_frame
        refine till_take 3 (some 24) rfl rfl (by kernel_rfl) (by kernel_rfl) (by kernel_rfl) (by kernel_rfl) (by kernel_rfl) (by kernel_rfl) (fun _ _ _ h => h) (.inl ⟨by rfl, fun w' _ => (by go_simp; rfl)⟩) hS ?_
        go_frame
        refine till_take 4 (some 25) rfl rfl (by kernel_rfl) (by kernel_rfl) (by kernel_rfl) (by kernel_rfl) (by kernel_rfl) (by kernel_rfl) (fun _ _ _ h => h) (.inl ⟨by rfl, fun w' _ => (by go_simp; rfl)⟩) hS ?_
        go_frame
        refine till_take 5 (some 26) rfl rfl (by kernel_rfl) (by kernel_rfl) (by kernel_rfl) (by kernel_rfl) (by kernel_rfl) (by kernel_rfl) (fun _ _ _ h => h) (.inl ⟨by rfl, fun w' _ => (by go_simp; rfl)⟩) hS ?_
        go_frame
        refine till_take 6 (some 27) rfl rfl (by kernel_rfl) (by kernel_rfl) (by kernel_rfl) (by kernel_rfl) (by kernel_rfl) (by kernel_rfl) (fun _ _ _ h => h) (.inl ⟨by rfl, fun w' hS' => (by have hc : w'.cell? ⟨X, 1, none⟩ = some (.int .u64 (p1 : Int)) := Lib.cell_of_heap (hS') 1; go_simp; rfl)⟩) hS ?_
        go_frame
        refine till_take 7 (some 28) rfl rfl (by kernel_rfl) (by kernel_rfl) (by kernel_rfl) (by kernel_rfl) (by kernel_rfl) (by kernel_rfl) (fun _ _ _ h => h) (.inl ⟨by rfl, fun w' _ => (by go_simp; rfl)⟩) hS ?_
        go_frame
        refine till_take 8 (some 29) rfl rfl (by kernel_rfl) (by kernel_rfl) (by kernel_rfl) (by kernel_rfl) (by kernel_rfl) (by kernel_rfl) (fun _ _ _ h => h) (.inl ⟨by rfl, fun w' _ => (by go_simp; rfl)⟩) hS ?_
        go_frame
        refine till_take 9 (some 9) rfl rfl (by kernel_rfl) (by kernel_rfl) (by kernel_rfl) (by kernel_rfl) (by kernel_rfl) (by kernel_rfl) (fun _ _ _ h => h) (.inl ⟨by rfl, fun w' _ => (by go_simp; rfl)⟩) hS ?_
        go_frame
        refine till_done (by kernel_rfl) ?_ _
        clear hS
        go_wp2_with fail
        obtain ⟨d2, hwz⟩ : ∃ wz, wz = d1.drew := ⟨_, rfl⟩
        have hbz : Below d1.heap.size d1 d2 := by rw [hwz]; exact (Below.refl _ _).drew
        have HBm := Lib.hid (HB.out.trans (hbz.mono HB.out.size))
        have HXm := Lib.hid (below_at' hbz HX.out)
        have HRm := Lib.hid (below_at' hbz HR.out)
        clear hbz HB HX HR
        have HB := HBm
        have HX := HXm
        have HR := HRm
        clear HBm HXm HRm
        have hS : True := trivial
        refine wp_region_till (fun w' => True) 15 15 (by kernel_rfl) rfl ?_
        rw [← hwz]
        clear hwz
        refine till_take 0 (some 30) rfl rfl (by kernel_rfl) (by kernel_rfl) (by kernel_rfl) (by kernel_rfl) (by kernel_rfl) (by kernel_rfl) (fun _ _ _ h => h) (.inl ⟨by rfl, fun w' _ => (by go_simp; rfl)⟩) hS ?_
        go_frame
        refine till_take 1 (some 31) rfl rfl (by kernel_rfl) (by kernel_rfl) (by kernel_rfl) (by kernel_rfl) (by kernel_rfl) (by kernel_rfl) (fun _ _ _ h => h) (.inl ⟨by rfl, fun w' _ => (by go_simp; rfl)⟩) hS ?_
        go_frame
        refine till_take 2 (some 32) rfl rfl (by kernel_rfl) (by kernel_rfl) (by kernel_rfl) (by kernel_rfl) (by kernel_rfl) (by kernel_rfl) (fun _ _ _ h => h) (.inl ⟨by rfl, fun w' _ => (by go_simp; rfl)⟩) hS ?_
        go_frame
        refine till_take 3 (some 33) rfl rfl (by kernel_rfl) (by kernel_rfl) (by kernel_rfl) (by kernel_rfl) (by kernel_rfl) (by kernel_rfl) (fun _ _ _ h => h) (.inl ⟨by rfl, fun w' _ => (by go_simp; rfl)⟩) hS ?_
        go_frame
        refine till_take 4 (some 34) rfl rfl (by kernel_rfl) (by kernel_rfl) (by kernel_rfl) (by kernel_rfl) (by kernel_rfl) (by kernel_rfl) (fun _ _ _ h => h) (.inl ⟨by rfl, fun w' _ => (by go_simp; rfl)⟩) hS ?_
        go_frame
        refine till_take 5 (some 35) rfl rfl (by kernel_rfl) (by kernel_rfl) (by kernel_rfl) (by kernel_rfl) (by kernel_rfl) (by kernel_rfl) (fun _ _ _ h => h) (.inl ⟨by rfl, fun w' _ => (by go_simp; rfl)⟩) hS ?_
        go_frame
        refine till_take 6 (some 36) rfl rfl (by kernel_rfl) (by kernel_rfl) (by kernel_rfl) (by kernel_rfl) (by kernel_rfl) (by kernel_rfl) (fun _ _ _ h => h) (.inl ⟨by rfl, fun w' _ => (by go_simp; rfl)⟩) hS ?_
        go_frame
        refine till_take 7 (some 37) rfl rfl (by kernel_rfl) (by kernel_rfl) (by kernel_rfl) (by kernel_rfl) (by kernel_rfl) (by kernel_rfl) (fun _ _ _ h => h) (.inl ⟨by rfl, fun w' _ => (by go_simp; rfl)⟩) hS ?_
        go_frame
        refine till_take 8 (some 38) rfl rfl (by kernel_rfl) (by kernel_rfl) (by kernel_rfl) (by kernel_rfl) (by kernel_rfl) (by kernel_rfl) (fun _ _ _ h => h) (.inl ⟨by rfl, fun w' _ => (by go_simp; rfl)⟩) hS ?_
        go_frame
        refine till_take 9 (some 39) rfl rfl (by kernel_rfl) (by kernel_rfl) (by kernel_rfl) (by kernel_rfl) (by kernel_rfl) (by kernel_rfl) (fun _ _ _ h => h) (.inl ⟨by rfl, fun w' _ => (by go_simp; rfl)⟩) hS ?_
        go_frame
        refine till_take 10 (some 40) rfl rfl (by kernel_rfl) (by kernel_rfl) (by kernel_rfl) (by kernel_rfl) (by kernel_rfl) (by kernel_rfl) (fun _ _ _ h => h) (.inl ⟨by rfl, fun w' _ => (by go_simp; rfl)⟩) hS ?_
        go_frame
        refine till_take 11 (some 41) rfl rfl (by kernel_rfl) (by kernel_rfl) (by kernel_rfl) (by kernel_rfl) (by kernel_rfl) (by kernel_rfl) (fun _ _ _ h => h) (.inl ⟨by rfl, fun w' _ => (by go_simp; rfl)⟩) hS ?_
        go_frame
        refine till_take 12 (some 42) rfl rfl (by kernel_rfl) (by kernel_rfl) (by kernel_rfl) (by kernel_rfl) (by kernel_rfl) (by kernel_rfl) (fun _ _ _ h => h) (.inl ⟨by rfl, fun w' _ => (by go_simp; rfl)⟩) hS ?_
        go_frame
        refine till_one 13 rfl (by kernel_rfl) fun K hK => ?_
        simp only [List.getElem_toArray, List.getElem_cons_succ, List.getElem_cons_zero]
        rw [if_pos (by rfl)]
        refine wp_store1_g 22 _ _ rfl X 1 (.int .u64 (q : Int)) rfl rfl rfl rfl 24 _ HX.out Try.sizeW1 (by simp) #[.int .u64 (p0 : Int), .int .u64 (q : Int), .int .u64 (p2 : Int), .int .u64 (p3 : Int)] rfl ?_
        intro d3 hxX kX zX
        clear zX
        have HBm := Lib.hid (HB.out.trans (kX.below (B := w.heap.size) (fun y hy e => by have := WX.out; omega) HB.out.size))
        have HRm := Lib.hid (kX.at HR.out (fun e => NXR.out e.symm))
        have HXm := Lib.hid hxX
        clear hxX kX HB HX HR
        have HB := HBm
        have HX := HXm
        have HR := HRm
        clear HBm HXm HRm
        have hS2 : True := trivial
        refine hK _ _ (fun _ _ => hS2) ?_
        clear hK hS
        have hS := hS2
        clear hS2
        refine till_take 14 (some 6) rfl rfl (by kernel_rfl) (by kernel_rfl) (by kernel_rfl) (by kernel_rfl) (by kernel_rfl) (by kernel_rfl) (fun _ _ _ h => h) (.inl ⟨by rfl, fun w' _ => (by go_simp; rfl)⟩) hS ?_
        go_frame
        refine till_done (by kernel_rfl) ?_ _
        clear hS
        clear f1 f2 f3 f4 e4 j3 e8 j1 f5 f6 f7 f8 f9 g1 g2 g3 hne hne2 hd0
        go_wp2_with fail
        go_roundw
        case rel => exact ⟨1, rl, _, by first | rfl | trivial, by first | rfl | trivial, by omega, HNX, HX, HR, HB⟩
        case measure => simp [intOf]
      · have hp : p2 < 18446744073709551616 := HS.out.d64 _ (by simp)
        have hst := small_step HS.out.lt HD.out.2 hp
        have hnx : ∀ q r', q < 18446744073709551616 → r * 18446744073709551616 + p2 = d * q + r' → r' < d → SmI la d 2 ([p0, p1, p2, p3].set 2 q) r' := fun q r' h1 h2 h3 => HS.out.next (by rw [HVA.out.2.2]; decide) ⟨by simp, rfl⟩ h1 h2 h3
        have hrd := HS.out.lt
        have hdm := HD.out.2
        have hd0 := HD.out.1
        obtain ⟨xh, hxh⟩ : ∃ q, q = p2 / 4294967296 := ⟨_, rfl⟩
        obtain ⟨xl, hxl⟩ : ∃ q, q = p2 % 4294967296 := ⟨_, rfl⟩
        rw [← hxh, ← hxl] at hst
        obtain ⟨hi, hhi⟩ : ∃ q, q = r * 4294967296 + xh := ⟨_, rfl⟩
        rw [← hhi] at hst
        obtain ⟨rh, hrh⟩ : ∃ q, q = hi % d := ⟨_, rfl⟩
        obtain ⟨qh, hqh⟩ : ∃ q, q = hi / d := ⟨_, rfl⟩
        rw [← hrh, ← hqh] at hst
        obtain ⟨low, hlow⟩ : ∃ q, q = rh * 4294967296 + xl := ⟨_, rfl⟩
        rw [← hlow] at hst
        obtain ⟨rl, hrl⟩ : ∃ q, q = low % d := ⟨_, rfl⟩
        obtain ⟨ql, hql⟩ : ∃ q, q = low / d := ⟨_, rfl⟩
        rw [← hrl, ← hql] at hst
        obtain ⟨q, hq⟩ : ∃ q, q = qh * 4294967296 + ql := ⟨_, rfl⟩
        rw [← hq] at hst
        have hrh2 : rh < d := by rw [hrh]; exact Nat.mod_lt _ hd0
        have hrl2 : rl < d := by rw [hrl]; exact Nat.mod_lt _ hd0
        have HNX : Hid (SmI la d 2 ([p0, p1, p2, p3].set 2 q) rl) := Lib.hid (hnx q rl (by omega) hst.2.2.2.2 hrl2)
        have f1 : IntKind.u64.wrap ((r : Int) * 4294967296) = ((r * 4294967296 : Nat) : Int) := by rw [wrap_high, Nat.mod_eq_of_lt (by omega)]
        have f2 : (p2 : Int) / 4294967296 = (xh : Int) := by omega
        have f3 : bits BinOp.or IntKind.u64 ((r * 4294967296 : Nat) : Int) (xh : Int) = (hi : Int) := by rw [or_high r xh (by omega) (by omega), hhi]
        have f4 : (hi : Int) % (d : Int) = (rh : Int) := by rw [hrh]; exact (Int.natCast_emod _ _).symm
        have e4 : (hi : Int).tmod (d : Int) = (rh : Int) := by rw [hrh]; rfl
        have j3 : (low : Int).tmod (d : Int) = (rl : Int) := by rw [hrl]; rfl
        have e8 : IntKind.u64.wrap (qh : Int) = (qh : Int) := by rw [IntKind.wrap_u64]; omega
        have j1 : IntKind.u64.wrap (ql : Int) = (ql : Int) := by rw [IntKind.wrap_u64]; omega
        have f5 : IntKind.u64.wrap ((rh : Int) * 4294967296) = ((rh * 4294967296 : Nat) : Int) := by rw [wrap_high, Nat.mod_eq_of_lt (by omega)]
        have f6 : bits BinOp.and IntKind.u64 (p2 : Int) 4294967295 = (xl : Int) := by rw [and_low p2 hp, hxl]
        have f7 : bits BinOp.or IntKind.u64 ((rh * 4294967296 : Nat) : Int) (xl : Int) = (low : Int) := by rw [or_high rh xl (by omega) (by omega), hlow]
        have f8 : (hi : Int) / (d : Int) = (qh : Int) := by rw [hqh]; exact (Int.natCast_ediv _ _).symm
        have f9 : IntKind.u64.wrap ((qh : Int) * 4294967296) = ((qh * 4294967296 : Nat) : Int) := by rw [wrap_high, Nat.mod_eq_of_lt (by omega)]
        have g1 : (low : Int) / (d : Int) = (ql : Int) := by rw [hql]; exact (Int.natCast_ediv _ _).symm
        have g2 : bits BinOp.or IntKind.u64 ((qh * 4294967296 : Nat) : Int) (ql : Int) = (q : Int) := by rw [or_high qh ql (by omega) (by omega), hq]
        have g3 : (low : Int) % (d : Int) = (rl : Int) := by rw [hrl]; exact (Int.natCast_emod _ _).symm
        obtain ⟨v1, hv1⟩ : ∃ v : Int, v = ((r * 4294967296 : Nat) : Int) := ⟨_, rfl⟩
        obtain ⟨v2, hv2⟩ : ∃ v : Int, v = ((rh * 4294967296 : Nat) : Int) := ⟨_, rfl⟩
        obtain ⟨v3, hv3⟩ : ∃ v : Int, v = ((qh * 4294967296 : Nat) : Int) := ⟨_, rfl⟩
        rw [← hv1] at f1 f3
        rw [← hv2] at f5 f7
        rw [← hv3] at f9 g2
        have hne : ((d : Int) == 0) = false := beq_eq_false_iff_ne.2 (by omega)
        have hne2 : ¬ d = 0 := by omega
        have hxx : Hid (wr.heap[X]? = some (.cells #[.int .u64 (p0 : Int), .int .u64 (p1 : Int), .int .u64 (p2 : Int), .int .u64 (p3 : Int)] 24 (0, 0))) := HX
        have c0 : wr.cell? ⟨X, 2, none⟩ = some (.int .u64 (p2 : Int)) := Lib.cell_of_heap hxx.out 2
        clear hst hnx hxh hxl hhi hrh hqh hlow hrl hql hq hv1 hv2 hv3 HS HX hp hrd hdm hrh2 hrl2
        have HX := hxx
        clear hxx
        go_wp2_with fail
        clear c0
        obtain ⟨d1, hwz⟩ : ∃ wz, wz = wr.drew := ⟨_, rfl⟩
        have hbz : Below wr.heap.size wr d1 := by rw [hwz]; exact (Below.refl _ _).drew
        have HBm := Lib.hid (HB.out.trans (hbz.mono HB.out.size))
        have HXm := Lib.hid (below_at' hbz HX.out)
        have HRm := Lib.hid (below_at' hbz HR.out)
        clear hbz HB HX HR
        have HB := HBm
        have HX := HXm
        have HR := HRm
        clear HBm HXm HRm
        have hS : d1.heap[X]? = some (.cells #[.int .u64 (p0 : Int), .int .u64 (p1 : Int), .int .u64 (p2 : Int), .int .u64 (p3 : Int)] 24 (0, 0)) := HX.out
        refine wp_region_till (fun w' => w'.heap[X]? = some (.cells #[.int .u64 (p0 : Int), .int .u64 (p1 : Int), .int .u64 (p2 : Int), .int .u64 (p3 : Int)] 24 (0, 0))) 10 10 (by kernel_rfl) rfl ?_
        rw [← hwz]
        clear hwz
        refine till_take 0 (some 21) rfl rfl (by kernel_rfl) (by kernel_rfl) (by kernel_rfl) (by kernel_rfl) (by kernel_rfl) (by kernel_rfl) (fun _ _ _ h => h) (.inl ⟨by rfl, fun w' _ => (by go_simp; rfl)⟩) hS ?_
        go_frame
        refine till_take 1 (some 22) rfl rfl (by kernel_rfl) (by kernel_rfl) (by kernel_rfl) (by kernel_rfl) (by kernel_rfl) (by kernel_rfl) (fun _ _ _ h => h) (.inl ⟨by rfl, fun w' _ => (by go_simp; rfl)⟩) hS ?_
        go_frame
        refine till_take 2 (some 23) rfl rfl (by kernel_rfl) (by kernel_rfl) (by kernel_rfl) (by kernel_rfl) (by kernel_rfl) (by kernel_rfl) (fun _ _ _ h => h) (.inl ⟨by rfl, fun w' _ => (by go_simp; rfl)⟩) hS ?_
        go_frame
        refine till_take 3 (some 24) rfl rfl (by kernel_rfl) (by kernel_rfl) (by kernel_rfl) (by kernel_rfl) (by kernel_rfl) (by kernel_rfl) (fun _ _ _ h => h) (.inl ⟨by rfl, fun w' _ => (by go_simp; rfl)⟩) hS ?_
        go_frame
        refine till_take 4 (some 25) rfl rfl (by kernel_rfl) (by kernel_rfl) (by kernel_rfl) (by kernel_rfl) (by kernel_rfl) (by kernel_rfl) (fun _ _ _ h => h) (.inl ⟨by rfl, fun w' _ => (by go_simp; rfl)⟩) hS ?_
        go_frame
        refine till_take 5 (some 26) rfl rfl (by kernel_rfl) (by kernel_rfl) (by kernel_rfl) (by kernel_rfl) (by kernel_rfl) (by kernel_rfl) (fun _ _ _ h => h) (.inl ⟨by rfl, fun w' _ => (by go_simp; rfl)⟩) hS ?_
        go_frame
        refine till_take 6 (some 27) rfl rfl (by kernel_rfl) (by kernel_rfl) (by kernel_rfl) (by kernel_rfl) (by kernel_rfl) (by kernel_rfl) (fun _ _ _ h => h) (.inl ⟨by rfl, fun w' hS' => (by have hc : w'.cell? ⟨X, 2, none⟩ = some (.int .u64 (p2 : Int)) := Lib.cell_of_heap (hS') 2; go_simp; rfl)⟩) hS ?_
        go_frame
        refine till_take 7 (some 28) rfl rfl (by kernel_rfl) (by kernel_rfl) (by kernel_rfl) (by kernel_rfl) (by kernel_rfl) (by kernel_rfl) (fun _ _ _ h => h) (.inl ⟨by rfl, fun w' _ => (by go_simp; rfl)⟩) hS ?_
        go_frame
        refine till_take 8 (some 29) rfl rfl (by kernel_rfl) (by kernel_rfl) (by kernel_rfl) (by kernel_rfl) (by kernel_rfl) (by kernel_rfl) (fun _ _ _ h => h) (.inl ⟨by rfl, fun w' _ => (by go_simp; rfl)⟩) hS ?_
        go_frame
        refine till_take 9 (some 9) rfl rfl (by kernel_rfl) (by kernel_rfl) (by kernel_rfl) (by kernel_rfl) (by kernel_rfl) (by kernel_rfl) (fun _ _ _ h => h) (.inl ⟨by rfl, fun w' _ => (by go_simp; rfl)⟩) hS ?_
        go_frame
        refine till_done (by kernel_rfl) ?_ _
        clear hS
        go_wp2_with fail
        obtain ⟨d2, hwz⟩ : ∃ wz, wz = d1.drew := ⟨_, rfl⟩
        have hbz : Below d1.heap.size d1 d2 := by rw [hwz]; exact (Below.refl _ _).drew
        have HBm := Lib.hid (HB.out.trans (hbz.mono HB.out.size))
        have HXm := Lib.hid (below_at' hbz HX.out)
        have HRm := Lib.hid (below_at' hbz HR.out)
        clear hbz HB HX HR
        have HB := HBm
        have HX := HXm
        have HR := HRm
        clear HBm HXm HRm
        have hS : True := trivial
        refine wp_region_till (fun w' => True) 15 15 (by kernel_rfl) rfl ?_
        rw [← hwz]
        clear hwz
        refine till_take 0 (some 30) rfl rfl (by kernel_rfl) (by kernel_rfl) (by kernel_rfl) (by kernel_rfl) (by kernel_rfl) (by kernel_rfl) (fun _ _ _ h => h) (.inl ⟨by rfl, fun w' _ => (by go_simp; rfl)⟩) hS ?_
        go_frame
        refine till_take 1 (some 31) rfl rfl (by kernel_rfl) (by kernel_rfl) (by kernel_rfl) (by kernel_rfl) (by kernel_rfl) (by kernel_rfl) (fun _ _ _ h => h) (.inl ⟨by rfl, fun w' _ => (by go_simp; rfl)⟩) hS ?_
        go_frame
        refine till_take 2 (some 32) rfl rfl (by kernel_rfl) (by kernel_rfl) (by kernel_rfl) (by kernel_rfl) (by kernel_rfl) (by kernel_rfl) (fun _ _ _ h => h) (.inl ⟨by rfl, fun w' _ => (by go_simp; rfl)⟩) hS ?_
        go_frame
        refine till_take 3 (some 33) rfl rfl (by kernel_rfl) (by kernel_rfl) (by kernel_rfl) (by kernel_rfl) (by kernel_rfl) (by kernel_rfl) (fun _ _ _ h => h) (.inl ⟨by rfl, fun w' _ => (by go_simp; rfl)⟩) hS ?_
        go_frame
        refine till_take 4 (some 34) rfl rfl (by kernel_rfl) (by kernel_rfl) (by kernel_rfl) (by kernel_rfl) (by kernel_rfl) (by kernel_rfl) (fun _ _ _ h => h) (.inl ⟨by rfl, fun w' _ => (by go_simp; rfl)⟩) hS ?_
        go_frame
        refine till_take 5 (some 35) rfl rfl (by kernel_rfl) (by kernel_rfl) (by kernel_rfl) (by kernel_rfl) (by kernel_rfl) (by kernel_rfl) (fun _ _ _ h => h) (.inl ⟨by rfl, fun w' _ => (by go_simp; rfl)⟩) hS ?_
        go_frame
        refine till_take 6 (some 36) rfl rfl (by kernel_rfl) (by kernel_rfl) (by kernel_rfl) (by kernel_rfl) (by kernel_rfl) (by kernel_rfl) (fun _ _ _ h => h) (.inl ⟨by rfl, fun w' _ => (by go_simp; rfl)⟩) hS ?_
        go_frame
        refine till_take 7 (some 37) rfl rfl (by kernel_rfl) (by kernel_rfl) (by kernel_rfl) (by kernel_rfl) (by kernel_rfl) (by kernel_rfl) (fun _ _ _ h => h) (.inl ⟨by rfl, fun w' _ => (by go_simp; rfl)⟩) hS ?_
        go_frame
        refine till_take 8 (some 38) rfl rfl (by kernel_rfl) (by kernel_rfl) (by kernel_rfl) (by kernel_rfl) (by kernel_rfl) (by kernel_rfl) (fun _ _ _ h => h) (.inl ⟨by rfl, fun w' _ => (by go_simp; rfl)⟩) hS ?_
        go_frame
        refine till_take 9 (some 39) rfl rfl (by kernel_rfl) (by kernel_rfl) (by kernel_rfl) (by kernel_rfl) (by kernel_rfl) (by kernel_rfl) (fun _ _ _ h => h) (.inl ⟨by rfl, fun w' _ => (by go_simp; rfl)⟩) hS ?_
        go_frame
        refine till_take 10 (some 40) rfl rfl (by kernel_rfl) (by kernel_rfl) (by kernel_rfl) (by kernel_rfl) (by kernel_rfl) (by kernel_rfl) (fun _ _ _ h => h) (.inl ⟨by rfl, fun w' _ => (by go_simp; rfl)⟩) hS ?_
        go_frame
        refine till_take 11 (some 41) rfl rfl (by kernel_rfl) (by kernel_rfl) (by kernel_rfl) (by kernel_rfl) (by kernel_rfl) (by kernel_rfl) (fun _ _ _ h => h) (.inl ⟨by rfl, fun w' _ => (by go_simp; rfl)⟩) hS ?_
        go_frame
        refine till_take 12 (some 42) rfl rfl (by kernel_rfl) (by kernel_rfl) (by kernel_rfl) (by kernel_rfl) (by kernel_rfl) (by kernel_rfl) (fun _ _ _ h => h) (.inl ⟨by rfl, fun w' _ => (by go_simp; rfl)⟩) hS ?_
        go_frame
        refine till_one 13 rfl (by kernel_rfl) fun K hK => ?_
        simp only [List.getElem_toArray, List.getElem_cons_succ, List.getElem_cons_zero]
        rw [if_pos (by rfl)]
        refine wp_store1_g 22 _ _ rfl X 2 (.int .u64 (q : Int)) rfl rfl rfl rfl 24 _ HX.out Try.sizeW1 (by simp) #[.int .u64 (p0 : Int), .int .u64 (p1 : Int), .int .u64 (q : Int), .int .u64 (p3 : Int)] rfl ?_
        intro d3 hxX kX zX
        clear zX
        have HBm := Lib.hid (HB.out.trans (kX.below (B := w.heap.size) (fun y hy e => by have := WX.out; omega) HB.out.size))
        have HRm := Lib.hid (kX.at HR.out (fun e => NXR.out e.symm))
        have HXm := Lib.hid hxX
        clear hxX kX HB HX HR
        have HB := HBm
        have HX := HXm
        have HR := HRm
        clear HBm HXm HRm
        have hS2 : True := trivial
        refine hK _ _ (fun _ _ => hS2) ?_
        clear hK hS
        have hS := hS2
        clear hS2
        refine till_take 14 (some 6) rfl rfl (by kernel_rfl) (by kernel_rfl) (by kernel_rfl) (by kernel_rfl) (by kernel_rfl) (by kernel_rfl) (fun _ _ _ h => h) (.inl ⟨by rfl, fun w' _ => (by go_simp; rfl)⟩) hS ?_
        go_frame
        refine till_done (by kernel_rfl) ?_ _
        clear hS
        clear f1 f2 f3 f4 e4 j3 e8 j1 f5 f6 f7 f8 f9 g1 g2 g3 hne hne2 hd0
        go_wp2_with fail
        go_roundw
        case rel => exact ⟨2, rl, _, by first | rfl | trivial, by first | rfl | trivial, by omega, HNX, HX, HR, HB⟩
        case measure => simp [intOf]
      · have hp : p3 < 18446744073709551616 := HS.out.d64 _ (by simp)
        have hst := small_step HS.out.lt HD.out.2 hp
        have hnx : ∀ q r', q < 18446744073709551616 → r * 18446744073709551616 + p3 = d * q + r' → r' < d → SmI la d 3 ([p0, p1, p2, p3].set 3 q) r' := fun q r' h1 h2 h3 => HS.out.next (by rw [HVA.out.2.2]; decide) ⟨by simp, rfl⟩ h1 h2 h3
        have hrd := HS.out.lt
        have hdm := HD.out.2
        have hd0 := HD.out.1
        obtain ⟨xh, hxh⟩ : ∃ q, q = p3 / 4294967296 := ⟨_, rfl⟩
        obtain ⟨xl, hxl⟩ : ∃ q, q = p3 % 4294967296 := ⟨_, rfl⟩
        rw [← hxh, ← hxl] at hst
        obtain ⟨hi, hhi⟩ : ∃ q, q = r * 4294967296 + xh := ⟨_, rfl⟩
        rw [← hhi] at hst
        obtain ⟨rh, hrh⟩ : ∃ q, q = hi % d := ⟨_, rfl⟩
        obtain ⟨qh, hqh⟩ : ∃ q, q = hi / d := ⟨_, rfl⟩
        rw [← hrh, ← hqh] at hst
        obtain ⟨low, hlow⟩ : ∃ q, q = rh * 4294967296 + xl := ⟨_, rfl⟩
        rw [← hlow] at hst
        obtain ⟨rl, hrl⟩ : ∃ q, q = low % d := ⟨_, rfl⟩
        obtain ⟨ql, hql⟩ : ∃ q, q = low / d := ⟨_, rfl⟩
        rw [← hrl, ← hql] at hst
        obtain ⟨q, hq⟩ : ∃ q, q = qh * 4294967296 + ql := ⟨_, rfl⟩
        rw [← hq] at hst
        have hrh2 : rh < d := by rw [hrh]; exact Nat.mod_lt _ hd0
        have hrl2 : rl < d := by rw [hrl]; exact Nat.mod_lt _ hd0
        have HNX : Hid (SmI la d 3 ([p0, p1, p2, p3].set 3 q) rl) := Lib.hid (hnx q rl (by omega) hst.2.2.2.2 hrl2)
        have f1 : IntKind.u64.wrap ((r : Int) * 4294967296) = ((r * 4294967296 : Nat) : Int) := by rw [wrap_high, Nat.mod_eq_of_lt (by omega)]
        have f2 : (p3 : Int) / 4294967296 = (xh : Int) := by omega
        have f3 : bits BinOp.or IntKind.u64 ((r * 4294967296 : Nat) : Int) (xh : Int) = (hi : Int) := by rw [or_high r xh (by omega) (by omega), hhi]
        have f4 : (hi : Int) % (d : Int) = (rh : Int) := by rw [hrh]; exact (Int.natCast_emod _ _).symm
        have e4 : (hi : Int).tmod (d : Int) = (rh : Int) := by rw [hrh]; rfl
        have j3 : (low : Int).tmod (d : Int) = (rl : Int) := by rw [hrl]; rfl
        have e8 : IntKind.u64.wrap (qh : Int) = (qh : Int) := by rw [IntKind.wrap_u64]; omega
        have j1 : IntKind.u64.wrap (ql : Int) = (ql : Int) := by rw [IntKind.wrap_u64]; omega
        have f5 : IntKind.u64.wrap ((rh : Int) * 4294967296) = ((rh * 4294967296 : Nat) : Int) := by rw [wrap_high, Nat.mod_eq_of_lt (by omega)]
        have f6 : bits BinOp.and IntKind.u64 (p3 : Int) 4294967295 = (xl : Int) := by rw [and_low p3 hp, hxl]
        have f7 : bits BinOp.or IntKind.u64 ((rh * 4294967296 : Nat) : Int) (xl : Int) = (low : Int) := by rw [or_high rh xl (by omega) (by omega), hlow]
        have f8 : (hi : Int) / (d : Int) = (qh : Int) := by rw [hqh]; exact (Int.natCast_ediv _ _).symm
        have f9 : IntKind.u64.wrap ((qh : Int) * 4294967296) = ((qh * 4294967296 : Nat) : Int) := by rw [wrap_high, Nat.mod_eq_of_lt (by omega)]
        have g1 : (low : Int) / (d : Int) = (ql : Int) := by rw [hql]; exact (Int.natCast_ediv _ _).symm
        have g2 : bits BinOp.or IntKind.u64 ((qh * 4294967296 : Nat) : Int) (ql : Int) = (q : Int) := by rw [or_high qh ql (by omega) (by omega), hq]
        have g3 : (low : Int) % (d : Int) = (rl : Int) := by rw [hrl]; exact (Int.natCast_emod _ _).symm
        obtain ⟨v1, hv1⟩ : ∃ v : Int, v = ((r * 4294967296 : Nat) : Int) := ⟨_, rfl⟩
        obtain ⟨v2, hv2⟩ : ∃ v : Int, v = ((rh * 4294967296 : Nat) : Int) := ⟨_, rfl⟩
        obtain ⟨v3, hv3⟩ : ∃ v : Int, v = ((qh * 4294967296 : Nat) : Int) := ⟨_, rfl⟩
        rw [← hv1] at f1 f3
        rw [← hv2] at f5 f7
        rw [← hv3] at f9 g2
        have hne : ((d : Int) == 0) = false := beq_eq_false_iff_ne.2 (by omega)
        have hne2 : ¬ d = 0 := by omega
        have hxx : Hid (wr.heap[X]? = some (.cells #[.int .u64 (p0 : Int), .int .u64 (p1 : Int), .int .u64 (p2 : Int), .int .u64 (p3 : Int)] 24 (0, 0))) := HX
        have c0 : wr.cell? ⟨X, 3, none⟩ = some (.int .u64 (p3 : Int)) := Lib.cell_of_heap hxx.out 3
        clear hst hnx hxh hxl hhi hrh hqh hlow hrl hql hq hv1 hv2 hv3 HS HX hp hrd hdm hrh2 hrl2
        have HX := hxx
        clear hxx
        go_wp2_with fail
        clear c0
        obtain ⟨d1, hwz⟩ : ∃ wz, wz = wr.drew := ⟨_, rfl⟩
        have hbz : Below wr.heap.size wr d1 := by rw [hwz]; exact (Below.refl _ _).drew
        have HBm := Lib.hid (HB.out.trans (hbz.mono HB.out.size))
        have HXm := Lib.hid (below_at' hbz HX.out)
        have HRm := Lib.hid (below_at' hbz HR.out)
        clear hbz HB HX HR
        have HB := HBm
        have HX := HXm
        have HR := HRm
        clear HBm HXm HRm
        have hS : d1.heap[X]? = some (.cells #[.int .u64 (p0 : Int), .int .u64 (p1 : Int), .int .u64 (p2 : Int), .int .u64 (p3 : Int)] 24 (0, 0)) := HX.out
        refine wp_region_till (fun w' => w'.heap[X]? = some (.cells #[.int .u64 (p0 : Int), .int .u64 (p1 : Int), .int .u64 (p2 : Int), .int .u64 (p3 : Int)] 24 (0, 0))) 10 10 (by kernel_rfl) rfl ?_
        rw [← hwz]
        clear hwz
        refine till_take 0 (some 21) rfl rfl (by kernel_rfl) (by kernel_rfl) (by kernel_rfl) (by kernel_rfl) (by kernel_rfl) (by kernel_rfl) (fun _ _ _ h => h) (.inl ⟨by rfl, fun w' _ => (by go_simp; rfl)⟩) hS ?_
        go_frame
        refine till_take 1 (some 22) rfl rfl (by kernel_rfl) (by kernel_rfl) (by kernel_rfl) (by kernel_rfl) (by kernel_rfl) (by kernel_rfl) (fun _ _ _ h => h) (.inl ⟨by rfl, fun w' _ => (by go_simp; rfl)⟩) hS ?_
        go_frame
        refine till_take 2 (some 23) rfl rfl (by kernel_rfl) (by kernel_rfl) (by kernel_rfl) (by kernel_rfl) (by kernel_rfl) (by kernel_rfl) (fun _ _ _ h => h) (.inl ⟨by rfl, fun w' _ => (by go_simp; rfl)⟩) hS ?_
        go_frame
        refine till_take 3 (some 24) rfl rfl (by kernel_rfl) (by kernel_rfl) (by kernel_rfl) (by kernel_rfl) (by kernel_rfl) (by kernel_rfl) (fun _ _ _ h => h) (.inl ⟨by rfl, fun w' _ => (by go_simp; rfl)⟩) hS ?_
        go_frame
        refine till_take 4 (some 25) rfl rfl (by kernel_rfl) (by kernel_rfl) (by kernel_rfl) (by kernel_rfl) (by kernel_rfl) (by kernel_rfl) (fun _ _ _ h => h) (.inl ⟨by rfl, fun w' _ => (by go_simp; rfl)⟩) hS ?_
        go_frame
        refine till_take 5 (some 26) rfl rfl (by kernel_rfl) (by kernel_rfl) (by kernel_rfl) (by kernel_rfl) (by kernel_rfl) (by kernel_rfl) (fun _ _ _ h => h) (.inl ⟨by rfl, fun w' _ => (by go_simp; rfl)⟩) hS ?_
        go_frame
        refine till_take 6 (some 27) rfl rfl (by kernel_rfl) (by kernel_rfl) (by kernel_rfl) (by kernel_rfl) (by kernel_rfl) (by kernel_rfl) (fun _ _ _ h => h) (.inl ⟨by rfl, fun w' hS' => (by have hc : w'.cell? ⟨X, 3, none⟩ = some (.int .u64 (p3 : Int)) := Lib.cell_of_heap (hS') 3; go_simp; rfl)⟩) hS ?_
        go_frame
        refine till_take 7 (some 28) rfl rfl (by kernel_rfl) (by kernel_rfl) (by kernel_rfl) (by kernel_rfl) (by kernel_rfl) (by kernel_rfl) (fun _ _ _ h => h) (.inl ⟨by rfl, fun w' _ => (by go_simp; rfl)⟩) hS ?_
        go_frame
        refine till_take 8 (some 29) rfl rfl (by kernel_rfl) (by kernel_rfl) (by kernel_rfl) (by kernel_rfl) (by kernel_rfl) (by kernel_rfl) (fun _ _ _ h => h) (.inl ⟨by rfl, fun w' _ => (by go_simp; rfl)⟩) hS ?_
        go_frame
        refine till_take 9 (some 9) rfl rfl (by kernel_rfl) (by kernel_rfl) (by kernel_rfl) (by kernel_rfl) (by kernel_rfl) (by kernel_rfl) (fun _ _ _ h => h) (.inl ⟨by rfl, fun w' _ => (by go_simp; rfl)⟩) hS ?_
        go_frame
        refine till_done (by kernel_rfl) ?_ _
        clear hS
        go_wp2_with fail
        obtain ⟨d2, hwz⟩ : ∃ wz, wz = d1.drew := ⟨_, rfl⟩
        have hbz : Below d1.heap.size d1 d2 := by rw [hwz]; exact (Below.refl _ _).drew
        have HBm := Lib.hid (HB.out.trans (hbz.mono HB.out.size))
        have HXm := Lib.hid (below_at' hbz HX.out)
        have HRm := Lib.hid (below_at' hbz HR.out)
        clear hbz HB HX HR
        have HB := HBm
        have HX := HXm
        have HR := HRm
        clear HBm HXm HRm
        have hS : True := trivial
        refine wp_region_till (fun w' => True) 15 15 (by kernel_rfl) rfl ?_
        rw [← hwz]
        clear hwz
        refine till_take 0 (some 30) rfl rfl (by kernel_rfl) (by kernel_rfl) (by kernel_rfl) (by kernel_rfl) (by kernel_rfl) (by kernel_rfl) (fun _ _ _ h => h) (.inl ⟨by rfl, fun w' _ => (by go_simp; rfl)⟩) hS ?_
        go_frame
        refine till_take 1 (some 31) rfl rfl (by kernel_rfl) (by kernel_rfl) (by kernel_rfl) (by kernel_rfl) (by kernel_rfl) (by kernel_rfl) (fun _ _ _ h => h) (.inl ⟨by rfl, fun w' _ => (by go_simp; rfl)⟩) hS ?_
        go_frame
        refine till_take 2 (some 32) rfl rfl (by kernel_rfl) (by kernel_rfl) (by kernel_rfl) (by kernel_rfl) (by kernel_rfl) (by kernel_rfl) (fun _ _ _ h => h) (.inl ⟨by rfl, fun w' _ => (by go_simp; rfl)⟩) hS ?_
        go_frame
        refine till_take 3 (some 33) rfl rfl (by kernel_rfl) (by kernel_rfl) (by kernel_rfl) (by kernel_rfl) (by kernel_rfl) (by kernel_rfl) (fun _ _ _ h => h) (.inl ⟨by rfl, fun w' _ => (by go_simp; rfl)⟩) hS ?_
        go_frame
        refine till_take 4 (some 34) rfl rfl (by kernel_rfl) (by kernel_rfl) (by kernel_rfl) (by kernel_rfl) (by kernel_rfl) (by kernel_rfl) (fun _ _ _ h => h) (.inl ⟨by rfl, fun w' _ => (by go_simp; rfl)⟩) hS ?_
        go_frame
        refine till_take 5 (some 35) rfl rfl (by kernel_rfl) (by kernel_rfl) (by kernel_rfl) (by kernel_rfl) (by kernel_rfl) (by kernel_rfl) (fun _ _ _ h => h) (.inl ⟨by rfl, fun w' _ => (by go_simp; rfl)⟩) hS ?_
        go_frame
        refine till_take 6 (some 36) rfl rfl (by kernel_rfl) (by kernel_rfl) (by kernel_rfl) (by kernel_rfl) (by kernel_rfl) (by kernel_rfl) (fun _ _ _ h => h) (.inl ⟨by rfl, fun w' _ => (by go_simp; rfl)⟩) hS ?_
        go_frame
        refine till_take 7 (some 37) rfl rfl (by kernel_rfl) (by kernel_rfl) (by kernel_rfl) (by kernel_rfl) (by kernel_rfl) (by kernel_rfl) (fun _ _ _ h => h) (.inl ⟨by rfl, fun w' _ => (by go_simp; rfl)⟩) hS ?_
        go_frame
        refine till_take 8 (some 38) rfl rfl (by kernel_rfl) (by kernel_rfl) (by kernel_rfl) (by kernel_rfl) (by kernel_rfl) (by kernel_rfl) (fun _ _ _ h => h) (.inl ⟨by rfl, fun w' _ => (by go_simp; rfl)⟩) hS ?_
        go_frame
        refine till_take 9 (some 39) rfl rfl (by kernel_rfl) (by kernel_rfl) (by kernel_rfl) (by kernel_rfl) (by kernel_rfl) (by kernel_rfl) (fun _ _ _ h => h) (.inl ⟨by rfl, fun w' _ => (by go_simp; rfl)⟩) hS ?_
        go_frame
        refine till_take 10 (some 40) rfl rfl (by kernel_rfl) (by kernel_rfl) (by kernel_rfl) (by kernel_rfl) (by kernel_rfl) (by kernel_rfl) (fun _ _ _ h => h) (.inl ⟨by rfl, fun w' _ => (by go_simp; rfl)⟩) hS ?_
        go_frame
        refine till_take 11 (some 41) rfl rfl (by kernel_rfl) (by kernel_rfl) (by kernel_rfl) (by kernel_rfl) (by kernel_rfl) (by kernel_rfl) (fun _ _ _ h => h) (.inl ⟨by rfl, fun w' _ => (by go_simp; rfl)⟩) hS ?_
        go_frame
        refine till_take 12 (some 42) rfl rfl (by kernel_rfl) (by kernel_rfl) (by kernel_rfl) (by kernel_rfl) (by kernel_rfl) (by kernel_rfl) (fun _ _ _ h => h) (.inl ⟨by rfl, fun w' _ => (by go_simp; rfl)⟩) hS ?_
        go_frame
        refine till_one 13 rfl (by kernel_rfl) fun K hK => ?_
        simp only [List.getElem_toArray, List.getElem_cons_succ, List.getElem_cons_zero]
        rw [if_pos (by rfl)]
        refine wp_store1_g 22 _ _ rfl X 3 (.int .u64 (q : Int)) rfl rfl rfl rfl 24 _ HX.out Try.sizeW1 (by simp) #[.int .u64 (p0 : Int), .int .u64 (p1 : Int), .int .u64 (p2 : Int), .int .u64 (q : Int)] rfl ?_
        intro d3 hxX kX zX
        clear zX
        have HBm := Lib.hid (HB.out.trans (kX.below (B := w.heap.size) (fun y hy e => by have := WX.out; omega) HB.out.size))
        have HRm := Lib.hid (kX.at HR.out (fun e => NXR.out e.symm))
        have HXm := Lib.hid hxX
        clear hxX kX HB HX HR
        have HB := HBm
        have HX := HXm
        have HR := HRm
        clear HBm HXm HRm
        have hS2 : True := trivial
        refine hK _ _ (fun _ _ => hS2) ?_
        clear hK hS
        have hS := hS2
        clear hS2
        refine till_take 14 (some 6) rfl rfl (by kernel_rfl) (by kernel_rfl) (by kernel_rfl) (by kernel_rfl) (by kernel_rfl) (by kernel_rfl) (fun _ _ _ h => h) (.inl ⟨by rfl, fun w' _ => (by go_simp; rfl)⟩) hS ?_
        go_frame
        refine till_done (by kernel_rfl) ?_ _
        clear hS
        clear f1 f2 f3 f4 e4 j3 e8 j1 f5 f6 f7 f8 f9 g1 g2 g3 hne hne2 hd0
        go_wp2_with fail
        go_roundw
        case rel => exact ⟨3, rl, _, by first | rfl | trivial, by first | rfl | trivial, by omega, HNX, HX, HR, HB⟩
        case measure => simp [intOf]
end Go.Proofs.Yteaigmoldlbjdaa
