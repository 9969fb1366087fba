/- Products of two numbers in two numbers (code). No condition. -/
import Derived.Test.YteaigmoldlbjdaaMulA
import Derived.Test.YteaigmoldlbjdaaMulQ
namespace Go.Proofs.Yteaigmoldlbjdaa
open Go.RowKit

def rowW (o : List Nat) : Array Value := (o.map fun (d : Nat) => Value.int .u64 (d : Int)).toArray
theorem rowW_size (o : List Nat) : (rowW o).size = o.length := by unfold rowW; simp
theorem rowW_at {o : List Nat} {k : Nat} (hk : k < o.length) : (rowW o)[k]? = some (.int .u64 (o[k] : Int)) := by unfold rowW; simp [hk]
theorem rowW_set (o : List Nat) (k d : Nat) : (rowW o).setIfInBounds k (.int .u64 (d : Int)) = rowW (o.set k d) := by
  unfold rowW
  rw [List.setIfInBounds_toArray, List.map_set]
theorem wig_set {l : List Nat} {k d i : Nat} (h : k ≠ i) : wig (l.set k d) i = wig l i := by
  unfold wig
  rw [List.getD_eq_getElem?_getD, List.getD_eq_getElem?_getD, List.getElem?_set_ne h]
theorem Try.zeroW8 (w : World) : (zeroValue 145).run Try.prog w = .ok (.agg #[.int .u64 0, .int .u64 0, .int .u64 0, .int .u64 0, .int .u64 0, .int .u64 0, .int .u64 0, .int .u64 0]) w := by kernel_rfl
theorem Try.sizeW8 : (Try.prog.info? 145).map (·.size) = some 8 := by kernel_rfl
theorem Try.zeroWide (w : World) : (zeroValue 100).run Try.prog w = .ok (.agg #[.int .u64 0, .int .u64 0, .int .u64 0, .int .u64 0, .int .u64 0, .int .u64 0, .int .u64 0, .int .u64 0]) w := by kernel_rfl
theorem Try.sizeWide : (Try.prog.info? 100).map (·.size) = some 8 := by kernel_rfl
theorem Try.sizeW1 : (Try.prog.info? 22).map (·.size) = some 1 := by kernel_rfl
theorem Try.arrU (q off cap : Nat) (w : World) : (Instr.arrayAt 24 (.slice (some ⟨q, off, none⟩) 4 cap)).run Try.prog w = .ok (.pointer (some ⟨q, off, none⟩)) w := by kernel_rfl
theorem one_u64x8 (a b c d e f g h : Int) : (#[Value.int .u64 a, .int .u64 b, .int .u64 c, .int .u64 d, .int .u64 e, .int .u64 f, .int .u64 g, .int .u64 h].all (·.oneCell')) = true := by simp [Value.oneCell']
theorem rowW_zero : rowW (List.replicate 8 0) = #[.int .u64 0, .int .u64 0, .int .u64 0, .int .u64 0, .int .u64 0, .int .u64 0, .int .u64 0, .int .u64 0] := by kernel_rfl
/-- Behind the inner loop the carry is laid. -/
theorem WordsI.lay {a b : List Nat} {i : Nat} {o0 o : List Nat} {x c : Nat} (h : WordsI o0 b x i 4 o c) (ho : WordsO a b i o0) (hi : i < a.length) (hx : x = a[i]) (hb : b.length = 4) (hk : i + 4 < o.length) (hz : wig o (i + 4) = 0) : WordsO a b (i + 1) (o.set (i + 4) c) := by
  have e := h.eq
  rw [List.take_of_length_le (Nat.le_of_eq hb), ho.eq] at e
  have s := wv_set (l := o) (k := i + 4) (d := c) hk
  have hz2 : o[i + 4] = 0 := by rw [← hz]; unfold wig; rw [wgetD_at hk]
  rw [hz2, Nat.mul_zero, Nat.add_zero] at s
  refine ⟨by rw [List.length_set, h.len, ho.len], h.d64.set _ h.c64, ?_⟩
  rw [s, e, wv_take_succ hi, Nat.add_mul, hx, Nat.mul_assoc]
/-- A number of words as four words. -/
theorem UIs.of_words {a b c d : Nat} (ha : a < 18446744073709551616) (hb : b < 18446744073709551616) (hc : c < 18446744073709551616) (hd : d < 18446744073709551616) : UIs (a : Int) b c d (wv [a, b, c, d]) := by
  unfold UIs wv wv wv wv wv
  omega
/-- What Mul says: the product in two numbers. -/
def MulRet (w : World) (N : Nat) (e : Ending) (w' : World) : Prop := ∃ h0 h1 h2 h3 l0 l1 l2 l3 : Int, UIs h0 h1 h2 h3 (N / uMax) ∧ UIs l0 l1 l2 l3 (N % uMax) ∧ e = .returned (.agg #[.int .u64 h0, .int .u64 h1, .int .u64 h2, .int .u64 h3, .int .u64 l0, .int .u64 l1, .int .u64 l2, .int .u64 l3]) ∧ Below w.heap.size w w'

set_option maxHeartbeats 16000000 in
set_option maxRecDepth 100000 in
theorem mul_any {a b c d a' b' c' d' : Int} {n m : Nat} (h : UIs a b c d n) (h' : UIs a' b' c' d' m) (w : World) :
    Calls Try.prog 70 #[.agg #[.int .u64 a, .int .u64 b, .int .u64 c, .int .u64 d], .agg #[.int .u64 a', .int .u64 b', .int .u64 c', .int .u64 d']] w (MulRet w (n * m)) := by
  obtain ⟨A0, A1, A2, A3, rfl, rfl, rfl, rfl, ha0, ha1, ha2, ha3, hn⟩ := h.nats
  obtain ⟨B0, B1, B2, B3, rfl, rfl, rfl, rfl, hb0, hb1, hb2, hb3, hm⟩ := h'.nats
  obtain ⟨la, hla⟩ : ∃ l, l = [A0, A1, A2, A3] := ⟨_, rfl⟩
  obtain ⟨lb, hlb⟩ : ∃ l, l = [B0, B1, B2, B3] := ⟨_, rfl⟩
  have HVA : Hid (wv la = n ∧ D64 la ∧ la.length = 4) := Lib.hid (by
    rw [hla]
    refine ⟨by unfold wv wv wv wv wv; omega, fun x hx => ?_, rfl⟩
    simp only [List.mem_cons, List.not_mem_nil, or_false] at hx
    rcases hx with rfl | rfl | rfl | rfl <;> assumption)
  have HVB : Hid (wv lb = m ∧ D64 lb ∧ lb.length = 4) := Lib.hid (by
    rw [hlb]
    refine ⟨by unfold wv wv wv wv wv; omega, fun x hx => ?_, rfl⟩
    simp only [List.mem_cons, List.not_mem_nil, or_false] at hx
    rcases hx with rfl | rfl | rfl | rfl <;> assumption)
  have HIA : Hid (∀ i, i < 4 → (#[Value.int .u64 (A0 : Int), .int .u64 (A1 : Int), .int .u64 (A2 : Int), .int .u64 (A3 : Int)])[i]? = some (.int .u64 (wig la i : Nat))) := Lib.hid (by
    intro i hi
    rw [hla]
    rcases (show i = 0 ∨ i = 1 ∨ i = 2 ∨ i = 3 by omega) with rfl | rfl | rfl | rfl <;> rfl)
  have HIB : Hid (∀ i, i < 4 → (#[Value.int .u64 (B0 : Int), .int .u64 (B1 : Int), .int .u64 (B2 : Int), .int .u64 (B3 : Int)])[i]? = some (.int .u64 (wig lb i : Nat))) := Lib.hid (by
    intro i hi
    rw [hlb]
    rcases (show i = 0 ∨ i = 1 ∨ i = 2 ∨ i = 3 by omega) with rfl | rfl | rfl | rfl <;> rfl)
  clear h h' ha0 ha1 ha2 ha3 hb0 hb1 hb2 hb3 hn hm hla hlb
  have HB0 : Hid (Below w.heap.size w w) := Lib.hid (Below.refl _ _)
  go_enter Try.func70, Try.ntmps70
  go_wp2_with (refine wpList_alloc_g rfl _ rfl _ _ Try.zeroWide rfl ?_)
  obtain ⟨w1, hw1⟩ : ∃ wq, wq = (w.alloc (.cells #[.int .u64 (A0 : Int), .int .u64 (A1 : Int), .int .u64 (A2 : Int), .int .u64 (A3 : Int)] 24)).alloc (.cells #[.int .u64 (B0 : Int), .int .u64 (B1 : Int), .int .u64 (B2 : Int), .int .u64 (B3 : Int)] 24) := ⟨_, rfl⟩
  obtain ⟨AA, hAA⟩ : ∃ x, x = w.heap.size := ⟨_, rfl⟩
  obtain ⟨BB, hBB⟩ : ∃ x, x = w.heap.size + 1 := ⟨_, rfl⟩
  rw [← hw1, ← hBB, ← hAA]
  have hbx := box2 w _ _ _ _ w1 hw1
  rw [← hBB, ← hAA] at hbx
  have HAA := Lib.hid hbx.1; have HBB := Lib.hid hbx.2.1
  have HB : Hid (Below w.heap.size w w1) := Lib.hid (by rw [← hAA]; exact hbx.2.2.1)
  clear hbx hw1 hAA hBB HB0
  intro R w2 hR'
  have WR : Hid (w.heap.size ≤ R) := Lib.hid (by rw [hR'.out.eq]; exact HB.out.size)
  have HRz := Lib.hid hR'.out.cells; have hb := hR'.out.below
  have NRB : Hid (BB ≠ R) := Lib.hid (by have := hR'.out.eq; have := heap_lt HBB.out; omega)
  clear hR'
  have HBm := Lib.hid (HB.out.trans (hb.mono HB.out.size))
  have HAAm := Lib.hid (below_at' hb HAA.out)
  have HBBm := Lib.hid (below_at' hb HBB.out)
  clear hb HB HAA HBB
  have HB := HBm
  have HAA := HAAm
  have HBB := HBBm
  clear HBm HAAm HBBm
  have HR := HRz
  clear HRz
  go_wp2_with (refine wpList_alloc_g rfl _ rfl _ _ Try.zeroW8 rfl ?_)
  intro O a1 hO
  have WO : Hid (w.heap.size ≤ O) := Lib.hid (by rw [hO.out.eq]; exact (HB.out).size)
  have NAAO : Hid (AA ≠ O) := Lib.hid (by have := hO.out.eq; have := heap_lt HAA.out; omega)
  have NBBO : Hid (BB ≠ O) := Lib.hid (by have := hO.out.eq; have := heap_lt HBB.out; omega)
  have NRO : Hid (R ≠ O) := Lib.hid (by have := hO.out.eq; have := heap_lt HR.out; omega)
  have HOz := Lib.hid hO.out.cells; have hbO := hO.out.below
  clear hO
  have HBm := Lib.hid (HB.out.trans (hbO.mono HB.out.size))
  have HAAm := Lib.hid (below_at' hbO HAA.out)
  have HBBm := Lib.hid (below_at' hbO HBB.out)
  have HRm := Lib.hid (below_at' hbO HR.out)
  clear hbO HB HAA HBB HR
  have HB := HBm
  have HAA := HAAm
  have HBB := HBBm
  have HR := HRm
  clear HBm HAAm HBBm HRm
  have HO := HOz
  clear HOz
  go_wp2_with (refine wpList_load_row rfl 24 _ rfl AA rfl 24 _ _ _ HAA.out Try.underlying24 rfl Try.sizeU ?_)
  clear HAA
  go_loopw [15] (fun vi wr => ∃ (i : Nat) (o : List Nat), vi = .int .i64 i ∧ i ≤ 4 ∧ Hid (WordsO la lb i o) ∧ Hid (wr.heap[O]? = some (.cells (rowW o) 145 (0, 0))) ∧ Hid (wr.heap[BB]? = some (.cells #[.int .u64 (B0 : Int), .int .u64 (B1 : Int), .int .u64 (B2 : Int), .int .u64 (B3 : Int)] 24 (0, 0))) ∧ Hid (wr.heap[R]? = some (.cells #[.int .u64 0, .int .u64 0, .int .u64 0, .int .u64 0, .int .u64 0, .int .u64 0, .int .u64 0, .int .u64 0] 100 (0, 0))) ∧ Hid (Below w.heap.size w wr)) (fun vi _ => 4 - (intOf vi).toNat)
  case atStart => exact ⟨0, List.replicate 8 0, rfl, by omega, Lib.hid (WordsO.zero la lb (by rw [HVA.out.2.2, HVB.out.2.2])), Lib.hid (by rw [rowW_zero]; exact HO.out), HBB, HR, HB⟩
  case round =>
    clear HO HBB HR HB
    obtain ⟨i, o0, rfl, hi4, HW, HO, HBB, HR, HB⟩ := hrel
    by_cases hlt : i < 4
    · have HLT := Lib.hid hlt
      have hix : ∀ w, (Instr.index 24 (.agg #[.int .u64 (A0 : Int), .int .u64 (A1 : Int), .int .u64 (A2 : Int), .int .u64 (A3 : Int)]) (.int .i64 (i : Int))).run Try.prog w = .ok (.int .u64 ((wig la i : Nat) : Int)) w := fun w => run_index1 w Try.underlying24 Try.underlying22 Try.sizeW1 _ i hlt _ (HIA.out i hlt)
      have HX : Hid (wig la i < 18446744073709551616 ∧ ∃ h : i < la.length, wig la i = la[i]) := Lib.hid ⟨wgetD_lt HVA.out.2.1 i, by rw [HVA.out.2.2]; exact hlt, by unfold wig; rw [wgetD_at]⟩
      obtain ⟨x, hx⟩ : ∃ x, x = wig la i := ⟨_, rfl⟩
      rw [← hx] at hix HX
      clear hx
      go_wp2_with (refine wpList_load_row rfl 24 _ rfl BB rfl 24 _ _ _ HBB.out Try.underlying24 rfl Try.sizeU ?_)
      clear hix
      have HOL : Hid (o0.length = 8) := Lib.hid (by rw [HW.out.len, HVA.out.2.2, HVB.out.2.2])
      have HN0 : Hid (∀ k, i + 4 ≤ k → wig o0 k = 0) := Lib.hid (by
        intro k hk
        unfold wig
        by_cases h8 : k < o0.length
        · rw [wgetD_at h8]; exact HW.out.nought HVA.out.2.1 HVB.out.2.1 (by rw [HVA.out.2.2]; omega) h8 (by rw [HVB.out.2.2]; omega)
        · exact wgetD_zero (by omega))
      go_loopw [20, 8] (fun vj vc wq => ∃ (j c : Nat) (o : List Nat), vj = .int .i64 j ∧ vc = .int .u64 c ∧ j ≤ 4 ∧ Hid (WordsI o0 lb x i j o c) ∧ Hid (∀ k, i + 4 ≤ k → wig o k = 0) ∧ Hid (wq.heap[O]? = some (.cells (rowW o) 145 (0, 0))) ∧ Hid (wq.heap[BB]? = some (.cells #[.int .u64 (B0 : Int), .int .u64 (B1 : Int), .int .u64 (B2 : Int), .int .u64 (B3 : Int)] 24 (0, 0))) ∧ Hid (wq.heap[R]? = some (.cells #[.int .u64 0, .int .u64 0, .int .u64 0, .int .u64 0, .int .u64 0, .int .u64 0, .int .u64 0, .int .u64 0] 100 (0, 0))) ∧ Hid (Below w.heap.size w wq)) (fun vj _ _ => 4 - (intOf vj).toNat)
      case atStart => exact ⟨0, 0, o0, rfl, rfl, by omega, Lib.hid (WordsI.zero x i HW.out.d64), HN0, HO, HBB, HR, HB⟩
      case round =>
        clear HN0 HO HBB HR HB
        obtain ⟨j, c, o, rfl, rfl, hj4, HI, HN0, HO, HBB, HR, HB⟩ := hrel
        have HL8 : Hid (o.length = 8) := Lib.hid (by rw [HI.out.len]; exact HOL.out)
        by_cases hjl : j < 4
        · have HJL := Lib.hid hjl
          have hjx : ∀ w, (Instr.index 24 (.agg #[.int .u64 (B0 : Int), .int .u64 (B1 : Int), .int .u64 (B2 : Int), .int .u64 (B3 : Int)]) (.int .i64 (j : Int))).run Try.prog w = .ok (.int .u64 ((wig lb j : Nat) : Int)) w := fun w => run_index1 w Try.underlying24 Try.underlying22 Try.sizeW1 _ j hjl _ (HIB.out j hjl)
          have HYB : Hid (wig lb j < 18446744073709551616) := Lib.hid (wgetD_lt HVB.out.2.1 j)
          obtain ⟨y, hy⟩ : ∃ y, y = wig lb j := ⟨_, rfl⟩
          rw [← hy] at hjx HYB
          have HYY := Lib.hid hy
          clear hy
          go_wp2_with fail
          clear hjx
          obtain ⟨p, hp⟩ : ∃ p, p = x * y := ⟨_, rfl⟩
          obtain ⟨H, hH⟩ : ∃ q, q = p / 18446744073709551616 := ⟨_, rfl⟩
          obtain ⟨L, hL⟩ : ∃ q, q = p % 18446744073709551616 := ⟨_, rfl⟩
          have HPL : Hid (x * y = p ∧ p = H * 18446744073709551616 + L ∧ L < 18446744073709551616) := Lib.hid ⟨hp.symm, by omega, by omega⟩
          refine (product_any (H := H) (L := L) HX.out.1 HYB.out HPL.out.2.2 (by rw [HPL.out.1]; exact HPL.out.2.1) _).mono ?_
          clear hp hH hL
          rintro e _ ⟨rfl, rfl⟩
          have hk8 : i + j < 8 := by omega
          have hkl : i + j < o.length := by rw [HL8.out]; exact hk8
          obtain ⟨z, hz⟩ : ∃ z, z = o[i + j] := ⟨_, rfl⟩
          have HZ : Hid (z < 18446744073709551616) := Lib.hid (by rw [hz]; exact HI.out.d64.at hkl)
          have c0 : wr.cell? ⟨O, i + j, none⟩ = some (.int .u64 (z : Int)) := by rw [Lib.cell_of_heap HO.out (i + j), rowW_at hkl, hz]
          have HZZ : Hid (∃ h : i + j < o.length, o[i + j] = z) := Lib.hid ⟨hkl, hz.symm⟩
          have HK := Lib.hid hk8
          clear hz hkl
          go_wp2_with fail
          clear c0
          obtain ⟨s1, hs1⟩ : ∃ q, q = (L + z) % 18446744073709551616 := ⟨_, rfl⟩
          obtain ⟨k1, hk1⟩ : ∃ q, q = (L + z) / 18446744073709551616 := ⟨_, rfl⟩
          have HS1 : Hid (s1 + 18446744073709551616 * k1 = L + z + 0 ∧ s1 < 18446744073709551616) := Lib.hid (by omega)
          clear hs1 hk1
          refine (carry_any (c := 0) (s := s1) (k := k1) HPL.out.2.2 HZ.out (by omega) HS1.out.2 HS1.out.1 _).mono ?_
          rintro e _ ⟨rfl, rfl⟩
          obtain ⟨s2, hs2⟩ : ∃ q, q = (s1 + c) % 18446744073709551616 := ⟨_, rfl⟩
          obtain ⟨k2, hk2⟩ : ∃ q, q = (s1 + c) / 18446744073709551616 := ⟨_, rfl⟩
          have HC64 := Lib.hid HI.out.c64
          have HS2 : Hid (s2 + 18446744073709551616 * k2 = s1 + c + 0 ∧ s2 < 18446744073709551616) := Lib.hid (by omega)
          clear hs2 hk2
          have hnx := HI.out.next HZZ.out.1 (y := z + c + x * y) (by rw [HZZ.out.2, HYY.out]) HX.out.1 HVB.out.2.1
          have HMOD : Hid ((z + c + x * y) % 18446744073709551616 = s2 ∧ (z + c + x * y) / 18446744073709551616 = H + k1 + k2 ∧ H + k1 + k2 < 18446744073709551616 ∧ H + k1 < 18446744073709551616) := Lib.hid (by
            have h1 := HPL.out; have h2 := HS1.out; have h3 := HS2.out; have h4 := hnx.1
            rw [h1.1] at h4 ⊢
            omega)
          rw [HMOD.out.1, HMOD.out.2.1] at hnx
          obtain ⟨H1, hH1⟩ : ∃ q, q = H + k1 := ⟨_, rfl⟩
          obtain ⟨c2, hc2⟩ : ∃ q, q = H + k1 + k2 := ⟨_, rfl⟩
          rw [← hc2] at hnx
          have w1' : IntKind.u64.wrap ((H : Int) + (k1 : Int)) = (H1 : Int) := by have := HMOD.out; rw [IntKind.wrap_u64]; omega
          have w2' : IntKind.u64.wrap ((H1 : Int) + (k2 : Int)) = (c2 : Int) := by have := HMOD.out; rw [IntKind.wrap_u64]; omega
          have HNX := Lib.hid hnx.2
          clear hnx hH1 hc2
          go_wp2_with fail
          refine (carry_any (c := 0) (s := s2) (k := k2) HS1.out.2 HC64.out (by omega) HS2.out.2 HS2.out.1 _).mono ?_
          rintro e _ ⟨rfl, rfl⟩
          go_wp2_with (refine wpList_store1_g rfl 22 _ _ rfl O (i + j) (.int .u64 (s2 : Int)) rfl rfl rfl rfl 145 _ HO.out Try.sizeW1 (by rw [rowW_size, HL8.out]; exact HK.out) (rowW (o.set (i + j) s2)) (rowW_set o (i + j) s2) ?_)
          intro wn hxO kO zO
          clear zO w1'
          have HBm := Lib.hid (HB.out.trans (kO.below (B := w.heap.size) (fun y hy e => by have := WO.out; omega) HB.out.size))
          have HBBm := Lib.hid (kO.at HBB.out NBBO.out)
          have HRm := Lib.hid (kO.at HR.out NRO.out)
          have HOm := Lib.hid hxO
          clear hxO kO HB HBB HR HO
          have HB := HBm
          have HBB := HBBm
          have HR := HRm
          have HO := HOm
          clear HBm HBBm HRm HOm
          go_wp2_with fail
          clear w2'
          go_roundw
          case rel => exact ⟨j + 1, c2, _, by go_num, rfl, HJL.out, HNX, Lib.hid (fun q hq => by rw [wig_set (by have := HK.out; have := HJL.out; omega)]; exact HN0.out q hq), HO, HBB, HR, HB⟩
          case measure => have := HJL.out; simp only [intOf]; omega
        · obtain rfl : j = 4 := by omega
          obtain ⟨k, hk⟩ : ∃ k, k = i + 4 := ⟨_, rfl⟩
          have hk8 : k < 8 := by omega
          have hij : (i : Int) + 4 = (k : Int) := by omega
          have HNX : Hid (WordsO la lb (i + 1) (o.set k c)) := Lib.hid (by
            rw [hk]
            exact HI.out.lay HW.out HX.out.2.1 HX.out.2.2 HVB.out.2.2 (by rw [HL8.out]; omega) (HN0.out _ (Nat.le_refl _)))
          have HK : Hid (k < 8) := Lib.hid hk8
          clear hk
          go_wp2_with (refine wpList_store1_g rfl 22 _ _ rfl O k (.int .u64 (c : Int)) rfl rfl rfl rfl 145 _ HO.out Try.sizeW1 (by rw [rowW_size, HL8.out]; exact HK.out) (rowW (o.set k c)) (rowW_set o k c) ?_)
          intro wn hxO kO zO
          clear zO hij
          have HBm := Lib.hid (HB.out.trans (kO.below (B := w.heap.size) (fun y hy e => by have := WO.out; omega) HB.out.size))
          have HBBm := Lib.hid (kO.at HBB.out NBBO.out)
          have HRm := Lib.hid (kO.at HR.out NRO.out)
          have HOm := Lib.hid hxO
          clear hxO kO HB HBB HR HO
          have HB := HBm
          have HBB := HBBm
          have HR := HRm
          have HO := HOm
          clear HBm HBBm HRm HOm
          go_wp2_with fail
          go_roundw
          case rel => exact ⟨i + 1, _, by go_num, HLT.out, HNX, HO, HBB, HR, HB⟩
          case measure => have := HLT.out; simp only [intOf]; omega
    · obtain rfl : i = 4 := by omega
      have hv := HW.out.done (by rw [HVA.out.2.2]; omega)
      rw [HVA.out.1, HVB.out.1] at hv
      have hl := HW.out.len
      rw [HVA.out.2.2, HVB.out.2.2] at hl
      have hd := HW.out.d64
      match o0, hl with
      | [p0, p1, p2, p3, p4, p5, p6, p7], _ =>
        have HD : Hid (p0 < 18446744073709551616 ∧ p1 < 18446744073709551616 ∧ p2 < 18446744073709551616 ∧ p3 < 18446744073709551616 ∧ p4 < 18446744073709551616 ∧ p5 < 18446744073709551616 ∧ p6 < 18446744073709551616 ∧ p7 < 18446744073709551616) := Lib.hid (by
          refine ⟨hd _ (by simp), hd _ (by simp), hd _ (by simp), hd _ (by simp), hd _ (by simp), hd _ (by simp), hd _ (by simp), hd _ (by simp)⟩)
        have HV : Hid (wv [p0, p1, p2, p3] + uMax * wv [p4, p5, p6, p7] = n * m ∧ wv [p0, p1, p2, p3] < uMax) := Lib.hid (by
          have hdd := HD.out
          rw [← hv]
          unfold uMax
          unfold wv wv wv wv wv wv wv wv wv
          omega)
        have HOm : Hid (wr.heap[O]? = some (.cells #[.int .u64 (p0 : Int), .int .u64 (p1 : Int), .int .u64 (p2 : Int), .int .u64 (p3 : Int), .int .u64 (p4 : Int), .int .u64 (p5 : Int), .int .u64 (p6 : Int), .int .u64 (p7 : Int)] 145 (0, 0))) := HO
        clear HO hv hd HBB
        have HO := HOm
        clear HOm hlt
        have ha1 := Try.arrU O 4 4 
        have ha2 := Try.arrU O 0 8
        have ha3 := Try.arrU O 0 4
        go_wp2_with fail
        obtain ⟨f1, hwz⟩ : ∃ wz, wz = wr.drew := ⟨_, rfl⟩
        have hbz : Below wr.heap.size wr f1 := by rw [hwz]; exact (Below.refl _ _).drew
        have HBm := Lib.hid (HB.out.trans (hbz.mono HB.out.size))
        have HRm := Lib.hid (below_at' hbz HR.out)
        have HOm := Lib.hid (below_at' hbz HO.out)
        clear hbz HB HR HO
        have HB := HBm
        have HR := HRm
        have HO := HOm
        clear HBm HRm HOm
        have hS : f1.heap[O]? = some (.cells #[.int .u64 (p0 : Int), .int .u64 (p1 : Int), .int .u64 (p2 : Int), .int .u64 (p3 : Int), .int .u64 (p4 : Int), .int .u64 (p5 : Int), .int .u64 (p6 : Int), .int .u64 (p7 : Int)] 145 (0, 0)) := HO.out
        refine wp_region_till (fun w' => w'.heap[O]? = some (.cells #[.int .u64 (p0 : Int), .int .u64 (p1 : Int), .int .u64 (p2 : Int), .int .u64 (p3 : Int), .int .u64 (p4 : Int), .int .u64 (p5 : Int), .int .u64 (p6 : Int), .int .u64 (p7 : Int)] 145 (0, 0))) 7 8 (by kernel_rfl) rfl ?_
        rw [← hwz]
        clear hwz
        refine till_take 0 (some 62) rfl rfl (by kernel_rfl) (by kernel_rfl) (by kernel_rfl) (by kernel_rfl) (by kernel_rfl) (by kernel_rfl) (fun _ _ _ h => h) (.inl ⟨by rfl, fun w' _ => (by go_simp; rfl)⟩) hS ?_
        go_frame
        refine till_take 1 (some 63) rfl rfl (by kernel_rfl) (by kernel_rfl) (by kernel_rfl) (by kernel_rfl) (by kernel_rfl) (by kernel_rfl) (fun _ _ _ h => h) (.inl ⟨by rfl, fun w' _ => (by go_simp; rfl)⟩) hS ?_
        go_frame
        refine till_take 2 (some 64) rfl rfl (by kernel_rfl) (by kernel_rfl) (by kernel_rfl) (by kernel_rfl) (by kernel_rfl) (by kernel_rfl) (fun _ _ _ h => h) (yields_load (by rfl) 24 _ rfl (.pointer (some ⟨O, 4, none⟩)) rfl (.agg #[.int .u64 (p4 : Int), .int .u64 (p5 : Int), .int .u64 (p6 : Int), .int .u64 (p7 : Int)]) (fun w' hS' => run_loadAt_mid w' O 4 24 [.int .u64 (p4 : Int), .int .u64 (p5 : Int), .int .u64 (p6 : Int), .int .u64 (p7 : Int)] _ (range_of_heap (hS') 4 _ rfl) Try.underlying24 rfl Try.sizeU)) hS ?_
        go_frame
        refine till_take 3 (some 65) rfl rfl (by kernel_rfl) (by kernel_rfl) (by kernel_rfl) (by kernel_rfl) (by kernel_rfl) (by kernel_rfl) (fun _ _ _ h => h) (.inl ⟨by rfl, fun w' _ => (by go_simp; rfl)⟩) hS ?_
        go_frame
        refine till_take 4 (some 66) rfl rfl (by kernel_rfl) (by kernel_rfl) (by kernel_rfl) (by kernel_rfl) (by kernel_rfl) (by kernel_rfl) (fun _ _ _ h => h) (.inl ⟨by rfl, fun w' _ => (by go_simp; rfl)⟩) hS ?_
        go_frame
        refine till_take 5 (some 67) rfl rfl (by kernel_rfl) (by kernel_rfl) (by kernel_rfl) (by kernel_rfl) (by kernel_rfl) (by kernel_rfl) (fun _ _ _ h => h) (yields_load (by rfl) 24 _ rfl (.pointer (some ⟨O, 0, none⟩)) rfl (.agg #[.int .u64 (p0 : Int), .int .u64 (p1 : Int), .int .u64 (p2 : Int), .int .u64 (p3 : Int)]) (fun w' hS' => run_loadAt_mid w' O 0 24 [.int .u64 (p0 : Int), .int .u64 (p1 : Int), .int .u64 (p2 : Int), .int .u64 (p3 : Int)] _ (range_of_heap (hS') 0 _ rfl) Try.underlying24 rfl Try.sizeU)) hS ?_
        go_frame
        refine till_take 6 (some 68) rfl rfl (by kernel_rfl) (by kernel_rfl) (by kernel_rfl) (by kernel_rfl) (by kernel_rfl) (by kernel_rfl) (fun _ _ _ h => h) (.inl ⟨by rfl, fun w' _ => (by go_simp; rfl)⟩) hS ?_
        go_frame
        refine till_one 7 rfl (by kernel_rfl) fun K hK => ?_
        simp only [List.getElem_toArray, List.getElem_cons_succ, List.getElem_cons_zero]
        rw [if_pos (by rfl)]
        refine wp_store_row_g (t := 100) (old := #[.int .u64 0, .int .u64 0, .int .u64 0, .int .u64 0, .int .u64 0, .int .u64 0, .int .u64 0, .int .u64 0]) 100 _ _ rfl R #[.int .u64 (p4 : Int), .int .u64 (p5 : Int), .int .u64 (p6 : Int), .int .u64 (p7 : Int), .int .u64 (p0 : Int), .int .u64 (p1 : Int), .int .u64 (p2 : Int), .int .u64 (p3 : Int)] rfl rfl HR.out Try.sizeWide rfl (one_u64x8 _ _ _ _ _ _ _ _) ?_
        intro f2 hxR kR zR
        clear zR
        have HBm := Lib.hid (HB.out.trans (kR.below (B := w.heap.size) (fun y hy e => by have := WR.out; omega) HB.out.size))
        have HOm := Lib.hid (kR.at HO.out (fun e => NRO.out e.symm))
        have HRm := Lib.hid hxR
        clear hxR kR HB HR HO
        have HB := HBm
        have HR := HRm
        have HO := HOm
        clear HBm HRm HOm
        refine hK _ _ (fun h => absurd rfl h) ?_
        clear hK
        refine till_done (by kernel_rfl) ?_ _
        clear hS
        go_wp2_with fail
        exact bodyPost_ret (results_cell_row rfl _ _ _ _ _ _ _ rfl HR.out Try.underlying100 rfl Try.sizeWide) rfl ⟨_, _, _, _, _, _, _, _, by
          have h1 := UIs.of_words HD.out.2.2.2.2.1 HD.out.2.2.2.2.2.1 HD.out.2.2.2.2.2.2.1 HD.out.2.2.2.2.2.2.2
          rw [← HV.out.1, Nat.add_mul_div_left _ _ (by decide), Nat.div_eq_of_lt HV.out.2, Nat.zero_add]; exact h1, by
          have h1 := UIs.of_words HD.out.1 HD.out.2.1 HD.out.2.2.1 HD.out.2.2.2.1
          rw [← HV.out.1, Nat.add_mul_mod_self_left, Nat.mod_eq_of_lt HV.out.2]; exact h1, rfl, HB.out⟩
end Go.Proofs.Yteaigmoldlbjdaa
