/- Roots: one as it stands (code). -/
import Derived.Test.YtohedljdkfmkdaaRootP
import Derived.Test.YtohedljdkfmkdaaDelF
import Derived.Test.YtohedljdkfmkdaaHsh
namespace Go.Proofs.Ytohedljdkfmkdaa
open Go.RowKit

/-! ### cells -/
def rvC (r : RV) : Array Value := c8 r.h ++ #[.int .i64 r.st, .int .i64 r.at_]
theorem rvC_size {r : RV} (h : r.h.length = 32) : (rvC r).size = 34 := by unfold rvC; simp [c8_size, h]
theorem rvC_st {r : RV} (h : r.h.length = 32) : (rvC r)[32]? = some (.int .i64 r.st) := by
  unfold rvC; rw [Array.getElem?_append_right (by rw [c8_size, h]; omega), c8_size, h]; rfl
theorem rvC_at {r : RV} (h : r.h.length = 32) : (rvC r)[33]? = some (.int .i64 r.at_) := by
  unfold rvC; rw [Array.getElem?_append_right (by rw [c8_size, h]; omega), c8_size, h]; rfl
theorem rvC_h {r : RV} {w : World} {g : Nat} {T : TypeId} {fr : Nat × Nat} (hg : w.heap[g]? = some (.cells (rvC r) T fr)) : w.rangeAt g 0 (r.h.map byteV) := by
  refine range_of_heap hg 0 _ ?_
  unfold rvC c8
  simp
theorem rvC_one (r : RV) : (rvC r).all (·.oneCell') = true := by
  unfold rvC c8
  rw [Array.all_append, Bool.and_eq_true]
  refine ⟨Array.all_eq_true_iff_forall_mem.2 fun v hv => ?_, by simp [Value.oneCell']⟩
  obtain ⟨c, _, rfl⟩ := List.mem_map.1 (by simpa using hv)
  rfl
theorem c8_one (l : List UInt8) : (c8 l).all (·.oneCell') = true := by
  refine Array.all_eq_true_iff_forall_mem.2 fun v hv => ?_
  obtain ⟨c, _, rfl⟩ := List.mem_map.1 (by simpa [c8] using hv)
  rfl
theorem z32_len : z32.length = 32 := by kernel_rfl
theorem zeroR34 : (#[.int .u8 0, .int .u8 0, .int .u8 0, .int .u8 0, .int .u8 0, .int .u8 0, .int .u8 0, .int .u8 0, .int .u8 0, .int .u8 0, .int .u8 0, .int .u8 0, .int .u8 0, .int .u8 0, .int .u8 0, .int .u8 0, .int .u8 0, .int .u8 0, .int .u8 0, .int .u8 0, .int .u8 0, .int .u8 0, .int .u8 0, .int .u8 0, .int .u8 0, .int .u8 0, .int .u8 0, .int .u8 0, .int .u8 0, .int .u8 0, .int .u8 0, .int .u8 0, .int .i64 0, .int .i64 0] : Array Value) = rvC RV.none := by kernel_rfl
theorem zeroH32 : (#[.int .u8 0, .int .u8 0, .int .u8 0, .int .u8 0, .int .u8 0, .int .u8 0, .int .u8 0, .int .u8 0, .int .u8 0, .int .u8 0, .int .u8 0, .int .u8 0, .int .u8 0, .int .u8 0, .int .u8 0, .int .u8 0, .int .u8 0, .int .u8 0, .int .u8 0, .int .u8 0, .int .u8 0, .int .u8 0, .int .u8 0, .int .u8 0, .int .u8 0, .int .u8 0, .int .u8 0, .int .u8 0, .int .u8 0, .int .u8 0, .int .u8 0, .int .u8 0] : Array Value) = c8 z32 := by kernel_rfl
theorem Try.zeroRoot (w : World) : (zeroValue 155).run Try.prog w = .ok (.agg (rvC RV.none)) w := by kernel_rfl
theorem Try.zeroHsh (w : World) : (zeroValue 83).run Try.prog w = .ok (.agg (c8 z32)) w := by kernel_rfl
theorem Try.sizeRoot' : (Try.prog.info? 155).map (·.size) = some 34 := by kernel_rfl
theorem Try.sizeRoot {r : RV} (h : r.h.length = 32) : (Try.prog.info? 155).map (·.size) = some (rvC r).size := by rw [rvC_size h]; exact Try.sizeRoot'
theorem Try.sizeHsh' : (Try.prog.info? 83).map (·.size) = some 32 := by kernel_rfl
theorem Try.sizeHsh {l : Txt} (h : l.length = 32) : (Try.prog.info? 83).map (·.size) = some (c8 l).size := by rw [c8_size, h]; exact Try.sizeHsh'
theorem Try.sizeHshL {l : Txt} (h : l.length = 32) : (Try.prog.info? 83).map (·.size) = some (l.map byteV).length := by rw [List.length_map, h]; exact Try.sizeHsh'
theorem Try.sizeU8 : (Try.prog.info? 5).map (·.size) = some 1 := by kernel_rfl

/-! ### copy of a string into a row of the call's own -/
theorem run_copy_str {P : Program} (w : World) (dT sT ty elem : TypeId) (g o dLen dCap : Nat) (l : Txt) (cur : Array Value) (t : TypeId)
    (hu : P.underlying dT = some (.slice elem)) (hs : (P.info? elem).map (·.size) = some 1)
    (hg : w.heap[g]? = some (.cells cur t (0, 0))) (hn : l.length = dLen) (hfit : o + l.length ≤ cur.size) :
    (Builtin.copy_ #[dT, sT] ty #[.slice (some ⟨g, o, none⟩) dLen dCap, .string (bs l)]).run P w =
      .ok (goInt l.length) (w.setRow g (cur.toList.take o ++ l.map byteV ++ cur.toList.drop (o + l.length)).toArray) := by
  have hst := run_storeCells_at P g o t (l.map byteV) 0 cur w hg (by simpa using hfit) (by intro v hv; obtain ⟨c, _, rfl⟩ := List.mem_map.1 hv; rfl)
  have he : ((bs l).extract 0 l.length).data.map (fun b => Value.int .u8 b.toNat) = (l.map byteV).toArray := by
    rw [bs_extract]
    simp [bs]
    exact fun _ _ => rfl
  have hfc : (Builtin.firstCells 1 l.length (.string (bs l))).run P w = .ok (l.map byteV).toArray w := by
    simp only [Builtin.firstCells, he]
    rfl
  cases hq : P.info? elem with
  | none => simp [hq] at hs
  | some i =>
    have hi : i.size = 1 := by simpa [hq] using hs
    rw [← hn]
    simp [Builtin.copy_, run_underlying hu, Builtin.lenOf, sizeOf, typeInfo, hq, hi, bs_size, hfc, hst]
theorem wpList_copy_str {P : Program} {w : World} {ops : Array Oper} {rest : List Oper} {o : Oper} {a : Act} {Q : Exit → Act → World → Prop} (hgd : o.guard = none) (d s : Operand) (dT sT : TypeId)
    (ho : o.op = .call { callee := .builtin .copy, args := #[d, s], argTypes := #[dT, sT] }) (elem : TypeId) (hu : P.underlying dT = some (.slice elem)) (hsz : (P.info? elem).map (·.size) = some 1)
    (g off dLen dCap : Nat) (l : Txt) (hd : a.eval d = .slice (some ⟨g, off, none⟩) dLen dCap) (hs : a.eval s = .string (bs l))
    (cur : Array Value) (t : TypeId) (hg : w.heap[g]? = some (.cells cur t (0, 0))) (hn : l.length = dLen) (hfit : off + l.length ≤ cur.size)
    (new : Array Value) (hnew : (cur.toList.take off ++ l.map byteV ++ cur.toList.drop (off + l.length)).toArray = new)
    (h : ∀ w', w'.heap[g]? = some (.cells new t (0, 0)) → Keep (· = g) w w' → w'.heap.size = w.heap.size → wpList P ops Q rest (a.put o.dst (goInt l.length)) w') : wpList P ops Q (o :: rest) a w := by
  refine wpList_plain hgd fun K hK => ?_
  have hrun := run_copy_str (P := P) w dT sT o.type elem g off dLen dCap l cur t hu hsz hg hn hfit
  rw [hnew] at hrun
  unfold Oper.wp
  simp [execOp, ho, resolve, invoke, builtin, hd, hs, hrun, Result.andThen]
  exact hK _ _ (h _ (setRow_heap _ _ _ _ _ _ hg) (Keep.setRow (S := (· = g)) (Keep.refl _ _) (.inl rfl) _) (setRow_size _ _ _))

theorem set_st {v : Txt} {a : Int} (h : v.length = 32) : (rvC ⟨v, 0, 0, false⟩).setIfInBounds 32 (.int .i64 a) = rvC ⟨v, a, 0, false⟩ := by
  unfold rvC
  rw [Array.setIfInBounds_append_right (by rw [c8_size, h]; omega), c8_size, h]; rfl
theorem set_at {v : Txt} {a b : Int} (h : v.length = 32) : (rvC ⟨v, a, 0, false⟩).setIfInBounds 33 (.int .i64 b) = rvC ⟨v, a, b, true⟩ := by
  unfold rvC
  rw [Array.setIfInBounds_append_right (by rw [c8_size, h]; omega), c8_size, h]; rfl
theorem Try.sizeInt : (Try.prog.info? 3).map (·.size) = some 1 := by kernel_rfl
theorem copy_new {v : Txt} (h : v.length = 32) : ((rvC RV.none).toList.take 0 ++ v.map byteV ++ (rvC RV.none).toList.drop (0 + v.length)).toArray = rvC ⟨v, 0, 0, false⟩ := by
  have e : (rvC RV.none).toList.drop (0 + v.length) = [.int .i64 0, .int .i64 0] := by rw [h]; kernel_rfl
  rw [e]
  simp [rvC, c8]
theorem keep_cell {S : Nat → Prop} {a b : World} (h : Keep S a b) {k o : Nat} {v : Value} (hv : a.cell? ⟨k, o, none⟩ = some v) (hn : ¬ S k) : b.cell? ⟨k, o, none⟩ = some v := by
  have hk : k < a.heap.size := block_lt_of_cell hv
  rw [← hv]
  unfold World.cell?
  simp only [h.block k hk hn]

theorem blocks_any (n : Int) (w : World) : Calls Try.prog 94 #[.int .i64 n] w fun e w' => e = .returned (.bool (goodB n)) ∧ w = w' := by
  by_cases h1 : 0 ≤ n
  · by_cases h2 : n ≤ 1099511627776
    · have e : goodB n = true := goodB_yes.2 ⟨h1, h2⟩
      rw [e]
      clear e
      go_enter Try.func94, Try.ntmps94
      go_wp2
      go_ret
      exact ⟨rfl, rfl⟩
    · have e : goodB n = false := goodB_no.2 (.inr (by omega))
      rw [e]
      clear e
      go_enter Try.func94, Try.ntmps94
      go_wp2
      go_ret
      exact ⟨rfl, rfl⟩
  · have e : goodB n = false := goodB_no.2 (.inl (by omega))
    rw [e]
    clear e
    go_enter Try.func94, Try.ntmps94
    go_wp2
    go_ret
    exact ⟨rfl, rfl⟩
/-- What a root's two values tell. -/
theorem mkR_no {l : List Int} {v : Txt} (h : ¬ (l.length = 2 ∧ v.length = 32)) : mkR l v = RV.none := by unfold mkR; rw [if_neg h]
theorem mkR_yes {a b : Int} {v : Txt} (h : v.length = 32) : mkR [a, b] v = ⟨v, a, b, true⟩ := by unfold mkR; rw [if_pos ⟨rfl, h⟩]; rfl
theorem two_of {l : List Int} (h : l.length = 2) : ∃ a b, l = [a, b] := by
  match l, h with
  | [a, b], _ => exact ⟨a, b, rfl⟩

set_option maxHeartbeats 4000000 in
set_option maxRecDepth 100000 in
theorem of_any {w : World} {x : Option Addr} {m : Bool} {f : Txt → Option Txt} (h : Look w x m f) (hf : FitF f) {i : Int} (hi : -9223372036854775808 ≤ i ∧ i < 9223372036854775808) :
    Calls Try.prog 93 #[.pointer x, .int .i64 i] w (Ret w (.tuple #[.agg (rvC (rootF f i)), .bool (rootF f i).ok])) := by
  have H := Lib.hid h; have HF := Lib.hid hf; have HI := Lib.hid hi
  clear h hf hi
  go_enter Try.func93, Try.ntmps93
  go_wp2_with (refine wpList_alloc_g rfl _ rfl _ _ Try.zeroRoot rfl ?_)
  intro R w1 h1
  have HR1 := Lib.hid h1.out.cells; have HB1 := Lib.hid h1.out.below; have HRW : Hid (w.heap.size ≤ R) := Lib.hid (Nat.le_of_eq h1.out.eq.symm)
  clear h1
  go_wp2_with fail
  have hb := below_new w1 (.cells #[.int .i64 i] 3)
  refine (key_any 37 [i] _ _ (by simp) (I64s.one HI.out) (lit1 w1 i)).mono ?_
  rintro e w2 ⟨rfl, hb2⟩
  have HB2 := Lib.hid (HB1.out.trans ((hb.trans (hb2.mono hb.size)).mono HB1.out.size))
  have HR2 := Lib.hid (below_at' (hb.trans (hb2.mono hb.size)) HR1.out)
  clear hb hb2 HB1 HR1
  go_wp2_with fail
  refine (row_any (H.out.later HB2.out) HF.out (keyF 37 [i])).mono ?_
  rintro e w3 ⟨v, rfl, ho, hb3⟩
  have HRT : Hid (rootF f i = mkR (rowF (valF f (keyF 37 [i]))) (valF f (keyF 38 [i]))) := Lib.hid rfl
  obtain ⟨l, hll⟩ : ∃ l, l = rowF (valF f (keyF 37 [i])) := ⟨_, rfl⟩
  rw [← hll] at ho HRT
  have HO := Lib.hid (RowRet.rd ho)
  have HB3 := Lib.hid (HB2.out.trans (hb3.mono HB2.out.size)); have HR3 := Lib.hid (below_at' hb3 HR2.out)
  clear ho hll hb3 HB2 HR2
  obtain ⟨ad, cap, rfl, c1, c2⟩ := HO.out.shape
  obtain ⟨n, hn⟩ : ∃ n, n = l.length := ⟨_, rfl⟩
  rw [← hn] at c1 ⊢
  have HN := Lib.hid hn
  rw [← hn] at HO
  clear hn
  go_wp2_with fail
  have hb := below_new w3 (.cells #[.int .i64 i] 3)
  refine (key_any 38 [i] _ _ (by simp) (I64s.one HI.out) (lit1 w3 i)).mono ?_
  rintro e w4 ⟨rfl, hb2⟩
  have hb3 := hb.trans (hb2.mono hb.size)
  have HB4 := Lib.hid (HB3.out.trans (hb3.mono HB3.out.size)); have HR4 := Lib.hid (below_at' hb3 HR3.out); have HO4 := Lib.hid (HO.out.later hb3)
  clear hb hb2 hb3 HB3 HR3 HO
  go_wp2_with fail
  refine (lget_any (H.out.later HB4.out) (keyF 38 [i])).mono ?_
  rintro e w5 ⟨rfl, rfl⟩
  obtain ⟨b0, hb0⟩ : ∃ b, b = (f (keyF 38 [i])).isSome := ⟨_, rfl⟩
  rw [← hb0, show (f (keyF 38 [i])).getD [] = valF f (keyF 38 [i]) from rfl]
  obtain ⟨v, hv⟩ : ∃ v, v = valF f (keyF 38 [i]) := ⟨_, rfl⟩
  rw [← hv] at HRT ⊢
  clear hb0 hv
  go_wp2_with (refine wpList_alloc_g rfl _ rfl _ _ Try.zeroRoot rfl ?_)
  intro X w6 h6
  have HX6 := Lib.hid h6.out.cells; have HB6 := Lib.hid (HB4.out.trans (h6.out.below.mono HB4.out.size)); have HXW : Hid (w.heap.size ≤ X) := Lib.hid (by rw [h6.out.eq]; exact HB4.out.size)
  have HR6 := Lib.hid (below_at' h6.out.below HR4.out); have HB46 := Lib.hid h6.out.below; have HX4 : Hid (w4.heap.size ≤ X) := Lib.hid (Nat.le_of_eq h6.out.eq.symm)
  have HXR : Hid (X ≠ R) := Lib.hid (by have := heap_lt HR4.out; have := h6.out.eq; omega)
  clear h6 HB4 HR4
  have NO : ¬ (n = 2 ∧ v.length = 32) → Hid (rootF f i = RV.none) := fun h => Lib.hid (by rw [HRT.out]; exact mkR_no (by rw [← HN.out]; exact h))
  by_cases h2 : n = 2
  · by_cases h3 : v.length = 32
    · subst h2
      obtain ⟨a, b, rfl⟩ := two_of HN.out.symm
      obtain ⟨q, off, rfl, hq, t0⟩ := HO4.out.at 0 (by simp)
      obtain ⟨q', off', e', _, t1⟩ := HO4.out.at 1 (by simp)
      cases e'
      replace t0 : w6.cell? ⟨q, off, none⟩ = some (.int .i64 a) := (HB46.out.cell (p := ⟨q, off, none⟩) hq).trans t0
      replace t1 : w6.cell? ⟨q, off + 1, none⟩ = some (.int .i64 b) := (HB46.out.cell (p := ⟨q, off + 1, none⟩) hq).trans t1
      have HT0 := Lib.hid t0; have HT1 := Lib.hid t1
      have h3' : (((bs v).size : Int) != 32) = false := by rw [bs_size, h3]; rfl
      have H3 := Lib.hid h3
      have HQX : Hid (q ≠ X) := Lib.hid (by have := HX4.out; omega)
      have HY : Hid (rootF f i = ⟨v, a, b, true⟩) := Lib.hid (by rw [HRT.out]; exact mkR_yes H3.out)
      clear t0 t1 h3 NO hq HO4
      go_wp2_with (refine wpList_copy_str rfl _ _ 159 9 rfl 5 Try.underlying159 Try.sizeU8 X 0 32 32 v rfl rfl _ _ HX6.out H3.out (by rw [rvC_size z32_len, H3.out]; decide) (rvC ⟨v, 0, 0, false⟩) (copy_new H3.out) ?_)
      intro w7 hx7 k67 z67
      have HX7 := Lib.hid hx7; have HB7 := Lib.hid (HB6.out.trans (k67.below (B := w.heap.size) (fun y hy e => by have := HXW.out; omega) HB6.out.size)); have HR7 := Lib.hid (k67.at HR6.out (fun e => HXR.out e.symm))
      have hS : w7.drew.cell? ⟨q, off, none⟩ = some (.int .i64 a) ∧ w7.drew.cell? ⟨q, off + 1, none⟩ = some (.int .i64 b) := by
        refine ⟨?_, ?_⟩
        · exact keep_cell k67 HT0.out (fun e => HQX.out e)
        · exact keep_cell k67 HT1.out (fun e => HQX.out e)
      have HX7d : Hid (w7.drew.heap[X]? = some (.cells (rvC ⟨v, 0, 0, false⟩) 155 (0, 0))) := HX7; have HB7d := Lib.hid HB7.out.drew; have HR7d : Hid (w7.drew.heap[R]? = _) := HR7
      clear hx7 k67 z67 h3' HX6 HB6 HR6 HX7 HB7 HR7
      go_wp2_with fail
      refine wp_region_till (fun w' => w'.cell? ⟨q, off, none⟩ = some (.int .i64 a) ∧ w'.cell? ⟨q, off + 1, none⟩ = some (.int .i64 b)) 10 10 (by kernel_rfl) rfl ?_
      refine till_take 0 (some 36) rfl rfl (by kernel_rfl) (by kernel_rfl) (by kernel_rfl) (by kernel_rfl) (by kernel_rfl) (by kernel_rfl) (fun _ _ _ h => h) (.inl ⟨by rfl, fun w' _ => (by go_simp; rfl)⟩) hS ?_
      go_frame
      refine till_take 1 (some 37) rfl rfl (by kernel_rfl) (by kernel_rfl) (by kernel_rfl) (by kernel_rfl) (by kernel_rfl) (by kernel_rfl) (fun _ _ _ h => h) (.inl ⟨by rfl, fun w' _ => (by go_simp; rfl)⟩) hS ?_
      go_frame
      refine till_take 2 (some 38) rfl rfl (by kernel_rfl) (by kernel_rfl) (by kernel_rfl) (by kernel_rfl) (by kernel_rfl) (by kernel_rfl) (fun _ _ _ h => h) (.inl ⟨by rfl, fun w' hS' => (by obtain ⟨hc1, hc2⟩ := hS'; go_simp; rfl)⟩) hS ?_
      go_frame
      refine till_take 3 (some 39) rfl rfl (by kernel_rfl) (by kernel_rfl) (by kernel_rfl) (by kernel_rfl) (by kernel_rfl) (by kernel_rfl) (fun _ _ _ h => h) (.inl ⟨by rfl, fun w' _ => (by go_simp; rfl)⟩) hS ?_
      go_frame
      refine till_take 4 (some 40) rfl rfl (by kernel_rfl) (by kernel_rfl) (by kernel_rfl) (by kernel_rfl) (by kernel_rfl) (by kernel_rfl) (fun _ _ _ h => h) (.inl ⟨by rfl, fun w' _ => (by go_simp; rfl)⟩) hS ?_
      go_frame
      refine till_take 5 (some 41) rfl rfl (by kernel_rfl) (by kernel_rfl) (by kernel_rfl) (by kernel_rfl) (by kernel_rfl) (by kernel_rfl) (fun _ _ _ h => h) (.inl ⟨by rfl, fun w' hS' => (by obtain ⟨hc1, hc2⟩ := hS'; go_simp; rfl)⟩) hS ?_
      go_frame
      refine till_take 6 (some 42) rfl rfl (by kernel_rfl) (by kernel_rfl) (by kernel_rfl) (by kernel_rfl) (by kernel_rfl) (by kernel_rfl) (fun _ _ _ h => h) (.inl ⟨by rfl, fun w' _ => (by go_simp; rfl)⟩) hS ?_
      go_frame
      refine till_one 7 rfl (by kernel_rfl) fun K hK => ?_
      simp only [List.getElem_toArray, List.getElem_cons_succ, List.getElem_cons_zero]
      rw [if_pos (by rfl)]
      refine wp_store1_g 3 _ _ rfl X 32 _ rfl rfl rfl rfl 155 _ HX7d.out Try.sizeInt (by rw [rvC_size (r := ⟨v, 0, 0, false⟩) H3.out]; decide) (rvC ⟨v, a, 0, false⟩) (set_st H3.out) ?_
      intro w8 hx kx zx
      have HX8 := Lib.hid hx; have HB8 := Lib.hid (HB7d.out.trans (kx.below (B := w.heap.size) (fun y hy e => by have := HXW.out; omega) HB7d.out.size)); have HR8 := Lib.hid (kx.at HR7d.out (fun e => HXR.out e.symm))
      have hS1 : w8.cell? ⟨q, off, none⟩ = some (.int .i64 a) ∧ w8.cell? ⟨q, off + 1, none⟩ = some (.int .i64 b) := ⟨keep_cell kx hS.1 (fun e => HQX.out e), keep_cell kx hS.2 (fun e => HQX.out e)⟩
      refine hK _ _ (fun _ _ => hS1) ?_
      clear hK hS hx kx zx
      have hS := hS1
      clear hS1
      refine till_take 8 (some 43) rfl rfl (by kernel_rfl) (by kernel_rfl) (by kernel_rfl) (by kernel_rfl) (by kernel_rfl) (by kernel_rfl) (fun _ _ _ h => h) (.inl ⟨by rfl, fun w' _ => (by go_simp; rfl)⟩) hS ?_
      go_frame
      refine till_one 9 rfl (by kernel_rfl) fun K hK => ?_
      simp only [List.getElem_toArray, List.getElem_cons_succ, List.getElem_cons_zero]
      rw [if_pos (by rfl)]
      refine wp_store1_g 3 _ _ rfl X 33 _ rfl rfl rfl rfl 155 _ HX8.out Try.sizeInt (by rw [rvC_size (r := ⟨v, a, 0, false⟩) H3.out]; decide) (rvC ⟨v, a, b, true⟩) (set_at H3.out) ?_
      intro w9 hx kx zx
      have HX9 := Lib.hid hx; have HB9 := Lib.hid (HB8.out.trans (kx.below (B := w.heap.size) (fun y hy e => by have := HXW.out; omega) HB8.out.size)); have HR9 := Lib.hid (kx.at HR8.out (fun e => HXR.out e.symm))
      have hS1 : w9.cell? ⟨q, off, none⟩ = some (.int .i64 a) ∧ w9.cell? ⟨q, off + 1, none⟩ = some (.int .i64 b) := ⟨keep_cell kx hS.1 (fun e => HQX.out e), keep_cell kx hS.2 (fun e => HQX.out e)⟩
      refine hK _ _ (fun _ _ => hS1) ?_
      clear hK hS hx kx zx
      have hS := hS1
      clear hS1
      refine till_done (by kernel_rfl) ?_ _
      go_wp2_with (first | (refine wpList_load_row rfl 155 _ rfl X rfl 155 _ _ _ HX9.out Try.underlying155 rfl (Try.sizeRoot (r := ⟨v, a, b, true⟩) H3.out) ?_) | (refine wpList_store_row_g (t := 155) (old := rvC RV.none) rfl 155 _ _ rfl R (rvC ⟨v, a, b, true⟩) rfl rfl HR9.out (Try.sizeRoot (r := ⟨v, a, b, true⟩) H3.out) (by rw [rvC_size (r := ⟨v, a, b, true⟩) H3.out, rvC_size (r := RV.none) z32_len]) (rvC_one _) ?_))
      intro wa hxa k9a z9a
      have HXA := Lib.hid hxa; have HBA := Lib.hid (HB9.out.trans (k9a.below (B := w.heap.size) (fun y hy e => by have := HRW.out; omega) HB9.out.size))
      clear hxa k9a z9a
      go_wp2_with fail
      exact bodyPost_ret (res_row_val rfl _ _ R _ _ _ _ rfl HXA.out Try.underlying155 rfl (Try.sizeRoot (r := ⟨v, a, b, true⟩) H3.out) (.bool true) rfl) rfl ⟨by rw [HY.out], HBA.out⟩
    · have h3' : (((bs v).size : Int) != 32) = true := by rw [bs_size, bne_iff_ne]; omega
      have HN0 := NO (fun h => h3 h.2)
      subst h2
      clear h3 NO
      go_wp2_with (refine wpList_store_row_g (t := 155) (old := rvC RV.none) rfl 155 _ _ rfl R (rvC RV.none) rfl (congrArg Value.agg zeroR34) HR6.out (Try.sizeRoot z32_len) rfl (rvC_one _) ?_)
      intro w7 hx7 k67 z67
      have HX7 := Lib.hid hx7; have HB7 := Lib.hid (HB6.out.trans (k67.below (B := w.heap.size) (fun y hy e => by have := HRW.out; omega) HB6.out.size))
      clear hx7 k67 z67
      go_wp2_with fail
      exact bodyPost_ret (res_row_val rfl _ _ R _ _ _ _ rfl HX7.out Try.underlying155 rfl (Try.sizeRoot z32_len) (.bool false) rfl) rfl ⟨by rw [HN0.out]; rfl, HB7.out⟩
  · have h3' : ((n : Int) != 2) = true := by rw [bne_iff_ne]; omega
    have HN0 := NO (fun h => h2 h.1)
    clear h2 NO
    go_wp2_with (refine wpList_store_row_g (t := 155) (old := rvC RV.none) rfl 155 _ _ rfl R (rvC RV.none) rfl (congrArg Value.agg zeroR34) HR6.out (Try.sizeRoot z32_len) rfl (rvC_one _) ?_)
    intro w7 hx7 k67 z67
    have HX7 := Lib.hid hx7; have HB7 := Lib.hid (HB6.out.trans (k67.below (B := w.heap.size) (fun y hy e => by have := HRW.out; omega) HB6.out.size))
    clear hx7 k67 z67
    go_wp2_with fail
    exact bodyPost_ret (res_row_val rfl _ _ R _ _ _ _ rfl HX7.out Try.underlying155 rfl (Try.sizeRoot z32_len) (.bool false) rfl) rfl ⟨by rw [HN0.out]; rfl, HB7.out⟩
end Go.Proofs.Ytohedljdkfmkdaa
