/- Cells and banks of a store that no call made: code. No condition. -/
import Derived.Test.YteaigmoldlbjdaaBnkC
import Derived.Test.YteaigmoldlbjdaaLawI
namespace Go.Proofs.Yteaigmoldlbjdaa
open Go.RowKit

def f0 : Txt → Option Txt := fun _ => none
theorem f0_fit : FitF f0 := fun _ => Nat.zero_le _
theorem amtV_f0 (k : Txt) : amtV f0 k = 0 := rfl
/-- A store that no call made, and the world behind another. -/
def NLiv (w0 w : World) (x : Option Addr) : Prop := NotMade w x ∧ Below w0.heap.size w0 w
theorem NLiv.start {w : World} {x : Option Addr} (h : NotMade w x) : NLiv w w x := ⟨h, Below.refl _ _⟩
theorem NLiv.later {w0 w w' : World} {x : Option Addr} (h : NLiv w0 w x) (hb : Below w.heap.size w w') : NLiv w0 w' x := ⟨h.1.later hb, h.2.trans (hb.mono h.2.size)⟩
theorem NLiv.call {P : Program} {f : FuncId} {args : Array Value} {w0 w : World} {x : Option Addr} {v : Value} (L : NLiv w0 w x) (h : NotMade w x → Calls P f args w (Ret w v)) :
    Calls P f args w fun e w' => e = .returned v ∧ NLiv w0 w' x ∧ Below w.heap.size w w' := (h L.1).mono fun _ _ ⟨e1, hb⟩ => ⟨e1, L.later hb, hb⟩
theorem NLiv.ret {w0 w : World} {x : Option Addr} {v : Value} (h : NLiv w0 w x) : Ret w0 v (.returned v) w := ⟨rfl, h.2⟩
theorem ret_of {P : Program} {f : FuncId} {args : Array Value} {w : World} {v : Value} (h : Calls P f args w fun e w' => e = .returned v ∧ w = w') : Calls P f args w (Ret w v) := h.mono fun _ _ ⟨e1, e2⟩ => ⟨e1, e2 ▸ Below.refl _ _⟩

set_option maxHeartbeats 1000000 in
theorem put_not {w : World} {x : Option Addr} (h : NotMade w x) (k v : Txt) :
    Calls Try.prog 109 #[.pointer x, .string (bs k), .string (bs v)] w (Ret w (.tuple #[])) := by
  have L := Lib.hid (NLiv.start h)
  clear h
  by_cases hv : v = []
  · subst hv
    have j1 : (bs ([] : Txt)).toList = [] := toList_bs _
    have j2 : (bs ([] : Txt)).toList.isEmpty = true := by rw [toList_bs]; rfl
    go_enter Try.func109, Try.ntmps109
    go_wp2_with fail
    refine (L.out.call fun h => ret_of (sdel_not h k)).mono ?_
    rintro e w1 ⟨rfl, L1, _⟩
    have L1 := Lib.hid L1
    go_wp2_with fail
    go_end0
    exact L1.out.ret
  · have j1 : (bs v).toList ≠ [] := by rw [toList_bs]; exact hv
    have j2 : (bs v).toList.isEmpty = false := by rw [toList_bs]; cases v <;> simp_all
    have j3 : ((bs v).toList == []) = false := by rw [toList_bs]; cases v <;> simp_all
    clear hv
    go_enter Try.func109, Try.ntmps109
    go_wp2_with fail
    refine (L.out.call fun h => ret_of (sset_not h k v)).mono ?_
    rintro e w1 ⟨rfl, L1, _⟩
    have L1 := Lib.hid L1
    go_wp2_with fail
    go_end0
    exact L1.out.ret

set_option maxHeartbeats 4000000 in
set_option maxRecDepth 100000 in
theorem csetAmount_not {w : World} {x : Option Addr} (h : NotMade w x) (k : Txt) {a b c d : Int} {n : Nat} (hu : UIs a b c d n) :
    Calls Try.prog 84 #[.pointer x, .string (bs k), .agg #[.int .u64 a, .int .u64 b, .int .u64 c, .int .u64 d]] w (Ret w (.tuple #[])) := by
  have L := Lib.hid (NLiv.start h); have HU := Lib.hid hu
  have q := Try.eqUn hu UIs.zero
  clear h hu
  by_cases h0 : n = 0
  · rw [decide_eq_true h0] at q
    clear h0
    go_enter Try.func84, Try.ntmps84
    go_wp2_with (refine wpList_load_row rfl 24 _ rfl w.heap.size rfl 24 _ _ _ (heap_alloc_new w _) Try.underlying24 rfl Try.sizeU ?_)
    have L1 := Lib.hid (L.out.later (below_new w (.cells #[.int .u64 a, .int .u64 b, .int .u64 c, .int .u64 d] 24)))
    refine (L1.out.call fun h => put_not h k []).mono ?_
    rintro e w1 ⟨rfl, L2, _⟩
    have L2 := Lib.hid L2
    go_wp2_with fail
    go_end0
    exact L2.out.ret
  · rw [decide_eq_false h0] at q
    clear h0
    go_enter Try.func84, Try.ntmps84
    go_wp2_with (refine wpList_load_row rfl 24 _ rfl w.heap.size rfl 24 _ _ _ (heap_alloc_new w _) Try.underlying24 rfl Try.sizeU ?_)
    have L1 := Lib.hid (L.out.later (below_new w (.cells #[.int .u64 a, .int .u64 b, .int .u64 c, .int .u64 d] 24)))
    refine (amt_any HU.out _).mono ?_
    rintro e w1 ⟨rfl, hb⟩
    have L2 := Lib.hid (L1.out.later hb)
    clear hb L1 L
    go_wp2_with fail
    refine (L2.out.call fun h => put_not h k (amtB n)).mono ?_
    rintro e w1 ⟨rfl, L3, _⟩
    have L3 := Lib.hid L3
    go_wp2_with fail
    go_end0
    exact L3.out.ret

set_option maxHeartbeats 4000000 in
set_option maxRecDepth 100000 in
theorem cadd_turn_not {w : World} {x : Option Addr} (h : NotMade w x) (k : Txt) {a' b' c' d' : Int} {m : Nat} (hu : UIs a' b' c' d' m) {B : Nat} (hB : w.heap[B]? = some (.cells #[.int .u64 a', .int .u64 b', .int .u64 c', .int .u64 d'] 24 (0, 0))) :
    Calls Try.prog 80 #[.pointer x, .string (bs k), .func (.func 81) #[] #[.pointer (some ⟨B, 0, none⟩)]] w (Ret w (.int .i64 (addE (f0) k m))) := by
  have L := Lib.hid (NLiv.start h); have HU2 := Lib.hid hu; have HB0 := Lib.hid hB
  have ham := camount_any (f := f0) (Look.of_not h) f0_fit k
  obtain ⟨n, hn⟩ : ∃ n, n = amtV (f0) k := ⟨_, rfl⟩
  rw [← hn] at ham
  have HE : Hid (addE (f0) k m = if n + m < uHalf then 0 else 6) := Lib.hid (by rw [hn]; rfl)
  clear h hu hB hn
  go_enter Try.func80, Try.ntmps80
  go_wp2_with fail
  refine ham.mono ?_
  clear ham
  rintro e w1 ⟨a, b, c, d, hu1, rfl, hb⟩
  have HU1 := Lib.hid hu1; have L1 := Lib.hid (L.out.later hb); have HQ1 := Lib.hid (below_at' hb HB0.out)
  clear hu1 hb L HB0
  go_wp2_with fail
  refine (cadd_clo HU1.out HU2.out HQ1.out).mono ?_
  by_cases hc : n + m < uHalf
  · rw [if_pos hc, if_pos hc]
    have HEV : Hid (addE (f0) k m = 0) := Lib.hid (by rw [HE.out, if_pos hc])
    clear hc
    rintro e w2 ⟨sa, sb, sc, sd, hu2, rfl, hb⟩
    have HSU := Lib.hid hu2; have L2 := Lib.hid (L1.out.later hb)
    clear hu2 hb L1 HQ1
    go_wp2_with (refine wpList_alloc_g rfl _ rfl _ _ Try.zeroUz rfl ?_)
    intro O w3 h3
    go_wp2_with (refine wpList_store_row_g (t := 24) (old := u0) rfl 24 _ _ rfl O #[.int .u64 sa, .int .u64 sb, .int .u64 sc, .int .u64 sd] rfl rfl h3.out.cells Try.sizeU rfl (one_u64 _ _ _ _) ?_)
    intro w4 hx4 k4 _
    have hb24 : Below w2.heap.size w2 w4 := h3.out.below.trans (k4.below (B := w2.heap.size) (fun x hx e => by have := h3.out.eq; omega) h3.out.below.size)
    have L4 := Lib.hid (L2.out.later hb24); have HO4 := Lib.hid hx4
    clear h3 hx4 k4 hb24 L2
    go_wp2_with (refine wpList_load_row rfl 24 _ rfl O rfl 24 _ _ _ HO4.out Try.underlying24 rfl Try.sizeU ?_)
    refine (L4.out.call fun h => csetAmount_not h k HSU.out).mono ?_
    rintro e w5 ⟨rfl, L5, _⟩
    have L5 := Lib.hid L5
    go_wp2_with fail
    go_ret
    rw [HEV.out]; exact L5.out.ret
  · rw [if_neg hc, if_neg hc]
    have HEV : Hid (addE (f0) k m = 6) := Lib.hid (by rw [HE.out, if_neg hc])
    clear hc
    rintro e w2 ⟨sa, sb, sc, sd, hu2, rfl, hb⟩
    have L2 := Lib.hid (L1.out.later hb)
    clear hu2 hb L1 HQ1
    go_wp2_with (refine wpList_alloc_g rfl _ rfl _ _ Try.zeroUz rfl ?_)
    intro O w3 h3
    go_wp2_with (refine wpList_store_row_g (t := 24) (old := u0) rfl 24 _ _ rfl O #[.int .u64 sa, .int .u64 sb, .int .u64 sc, .int .u64 sd] rfl rfl h3.out.cells Try.sizeU rfl (one_u64 _ _ _ _) ?_)
    intro w4 hx4 k4 _
    have hb24 : Below w2.heap.size w2 w4 := h3.out.below.trans (k4.below (B := w2.heap.size) (fun x hx e => by have := h3.out.eq; omega) h3.out.below.size)
    have L4 := Lib.hid (L2.out.later hb24)
    clear h3 hx4 k4 hb24 L2
    go_wp2_with fail
    go_ret
    rw [HEV.out]; exact L4.out.ret

set_option maxHeartbeats 4000000 in
set_option maxRecDepth 100000 in
theorem cadd_not {w : World} {x : Option Addr} (h : NotMade w x) (k : Txt) {a b c d : Int} {m : Nat} (hu : UIs a b c d m) :
    Calls Try.prog 52 #[.pointer x, .string (bs k), .agg #[.int .u64 a, .int .u64 b, .int .u64 c, .int .u64 d]] w (Ret w (.int .i64 (addE (f0) k m))) := by
  have L := Lib.hid (NLiv.start h); have HU := Lib.hid hu
  clear h hu
  go_enter Try.func52, Try.ntmps52
  go_wp2_with fail
  have L1 := Lib.hid (L.out.later (below_new w (.cells #[.int .u64 a, .int .u64 b, .int .u64 c, .int .u64 d] 24)))
  refine (L1.out.call fun h => cadd_turn_not h k HU.out (heap_alloc_new w _)).mono ?_
  rintro e w2 ⟨rfl, L2, _⟩
  have L2 := Lib.hid L2
  go_wp2_with fail
  go_ret
  exact L2.out.ret

theorem addE_f0 {k : Txt} {m : Nat} (h : m < uHalf) : addE f0 k m = 0 := by unfold addE; rw [amtV_f0, if_pos (by omega)]
set_option maxHeartbeats 4000000 in
set_option maxRecDepth 100000 in
theorem mint1_not {w : World} {x : Option Addr} (h : NotMade w x) {t n : Int} (ht : I64 t) (hn : I64 n) {a b c d : Int} {m : Nat} (hu : UIs a b c d m) (hm : m < uHalf) {BS BT BA : Nat} (hBS : w.heap[BS]? = some (.cells #[.pointer x] 35 (0, 0))) (hBT : w.heap[BT]? = some (.cells #[.int .i64 t] 3 (0, 0))) (hBA : w.heap[BA]? = some (.cells #[.int .u64 a, .int .u64 b, .int .u64 c, .int .u64 d] 24 (0, 0))) :
    Calls Try.prog 51 #[.pointer (some ⟨BS, 0, none⟩), .pointer (some ⟨BT, 0, none⟩), .pointer (some ⟨BA, 0, none⟩)] w (Ret w (.int .i64 0)) := by
  have L := Lib.hid (NLiv.start h); have HTN := Lib.hid (And.intro ht hn); have HU := Lib.hid hu; have HE := Lib.hid (addE_f0 (k := kSup t) hm)
  have HBS := Lib.hid hBS
  have HBT := Lib.hid hBT
  have HBA := Lib.hid hBA
  clear h ht hn hu hm hBS hBT hBA
  go_enter Try.func51, Try.ntmps51
  go_wp2_with fail
  obtain ⟨a1, hwz⟩ : ∃ wz, wz = w.drew := ⟨_, rfl⟩
  have hbz : Below w.heap.size w a1 := by rw [hwz]; exact (Below.refl _ _).drew
  have Lm := Lib.hid (L.out.later hbz)
  have HBSm := Lib.hid (below_at' hbz HBS.out)
  have HBTm := Lib.hid (below_at' hbz HBT.out)
  have HBAm := Lib.hid (below_at' hbz HBA.out)
  clear hbz L HBS HBT HBA
  have L := Lm
  have HBS := HBSm
  have HBT := HBTm
  have HBA := HBAm
  clear Lm HBSm HBTm HBAm
  have hS : a1.heap[BS]? = some (.cells #[.pointer x] 35 (0, 0)) ∧ a1.heap[BT]? = some (.cells #[.int .i64 t] 3 (0, 0)) ∧ a1.heap[BA]? = some (.cells #[.int .u64 a, .int .u64 b, .int .u64 c, .int .u64 d] 24 (0, 0)) := ⟨HBS.out, HBT.out, HBA.out⟩
  refine wp_region_till (fun w' => w'.heap[BS]? = some (.cells #[.pointer x] 35 (0, 0)) ∧ w'.heap[BT]? = some (.cells #[.int .i64 t] 3 (0, 0)) ∧ w'.heap[BA]? = some (.cells #[.int .u64 a, .int .u64 b, .int .u64 c, .int .u64 d] 24 (0, 0))) 6 6 (by kernel_rfl) rfl ?_
  rw [← hwz]
  clear hwz
  refine till_take 0 (some 4) rfl rfl (by kernel_rfl) (by kernel_rfl) (by kernel_rfl) (by kernel_rfl) (by kernel_rfl) (by kernel_rfl) (fun _ _ _ h => h) (.inl ⟨by rfl, fun w' hS' => (by have hc : w'.cell? ⟨BS, 0, none⟩ = some (.pointer x) := Lib.cell_of_heap (hS'.1) 0; go_simp; rfl)⟩) hS ?_
  go_frame
  refine till_take 1 (some 5) rfl rfl (by kernel_rfl) (by kernel_rfl) (by kernel_rfl) (by kernel_rfl) (by kernel_rfl) (by kernel_rfl) (fun _ _ _ h => h) (.inl ⟨by rfl, fun w' hS' => (by have hc : w'.cell? ⟨BT, 0, none⟩ = some (.int .i64 t) := Lib.cell_of_heap (hS'.2.1) 0; go_simp; rfl)⟩) hS ?_
  go_frame
  refine till_take 3 (some 7) rfl rfl (by kernel_rfl) (by kernel_rfl) (by kernel_rfl) (by kernel_rfl) (by kernel_rfl) (by kernel_rfl) (fun _ _ _ h => h) (yields_load (by rfl) 24 _ rfl (.pointer (some ⟨BA, 0, none⟩)) rfl (.agg #[.int .u64 a, .int .u64 b, .int .u64 c, .int .u64 d]) (fun w' hS' => load_heap (hS'.2.2) Try.underlying24 rfl Try.sizeU)) hS ?_
  go_frame
  refine till_one 2 rfl (by kernel_rfl) fun K hK => ?_
  simp only [List.getElem_toArray, List.getElem_cons_succ, List.getElem_cons_zero]
  rw [if_pos (by rfl)]
  go_simp
  refine (bSup_any HTN.out.1 _).mono ?_
  rintro e a2 ⟨rfl, hb⟩
  have Lm := Lib.hid (L.out.later hb)
  have HBSm := Lib.hid (below_at' hb HBS.out)
  have HBTm := Lib.hid (below_at' hb HBT.out)
  have HBAm := Lib.hid (below_at' hb HBA.out)
  clear hb L HBS HBT HBA
  have L := Lm
  have HBS := HBSm
  have HBT := HBTm
  have HBA := HBAm
  clear Lm HBSm HBTm HBAm
  have hS2 : a2.heap[BS]? = some (.cells #[.pointer x] 35 (0, 0)) ∧ a2.heap[BT]? = some (.cells #[.int .i64 t] 3 (0, 0)) ∧ a2.heap[BA]? = some (.cells #[.int .u64 a, .int .u64 b, .int .u64 c, .int .u64 d] 24 (0, 0)) := ⟨HBS.out, HBT.out, HBA.out⟩
  refine hK _ _ (fun _ _ => hS2) ?_
  clear hK hS
  have hS := hS2
  clear hS2
  refine till_one 4 rfl (by kernel_rfl) fun K hK => ?_
  simp only [List.getElem_toArray, List.getElem_cons_succ, List.getElem_cons_zero]
  rw [if_pos (by rfl)]
  go_simp
  refine (cadd_not L.out.1 (kSup t) HU.out).mono ?_
  rw [HE.out]
  rintro e a3 ⟨rfl, hb⟩
  have Lm := Lib.hid (L.out.later hb)
  have HBSm := Lib.hid (below_at' hb HBS.out)
  have HBTm := Lib.hid (below_at' hb HBT.out)
  have HBAm := Lib.hid (below_at' hb HBA.out)
  clear hb L HBS HBT HBA
  have L := Lm
  have HBS := HBSm
  have HBT := HBTm
  have HBA := HBAm
  clear Lm HBSm HBTm HBAm
  have hS2 : a3.heap[BS]? = some (.cells #[.pointer x] 35 (0, 0)) ∧ a3.heap[BT]? = some (.cells #[.int .i64 t] 3 (0, 0)) ∧ a3.heap[BA]? = some (.cells #[.int .u64 a, .int .u64 b, .int .u64 c, .int .u64 d] 24 (0, 0)) := ⟨HBS.out, HBT.out, HBA.out⟩
  refine hK _ _ (fun _ _ => hS2) ?_
  clear hK hS
  have hS := hS2
  clear hS2
  refine till_take 5 (some 3) rfl rfl (by kernel_rfl) (by kernel_rfl) (by kernel_rfl) (by kernel_rfl) (by kernel_rfl) (by kernel_rfl) (fun _ _ _ h => h) (.inl ⟨by rfl, fun w' _ => (by go_simp; rfl)⟩) hS ?_
  go_frame
  refine till_done (by kernel_rfl) ?_ _
  clear hS
  go_wp2_with fail
  go_ret
  exact L.out.ret
set_option maxHeartbeats 4000000 in
set_option maxRecDepth 100000 in
theorem mint2_not {w : World} {x : Option Addr} (h : NotMade w x) {t n : Int} (ht : I64 t) (hn : I64 n) {a b c d : Int} {m : Nat} (hu : UIs a b c d m) (hm : m < uHalf) {BS BT BN BA : Nat} (hBS : w.heap[BS]? = some (.cells #[.pointer x] 35 (0, 0))) (hBT : w.heap[BT]? = some (.cells #[.int .i64 t] 3 (0, 0))) (hBN : w.heap[BN]? = some (.cells #[.int .i64 n] 3 (0, 0))) (hBA : w.heap[BA]? = some (.cells #[.int .u64 a, .int .u64 b, .int .u64 c, .int .u64 d] 24 (0, 0))) :
    Calls Try.prog 53 #[.pointer (some ⟨BS, 0, none⟩), .pointer (some ⟨BT, 0, none⟩), .pointer (some ⟨BN, 0, none⟩), .pointer (some ⟨BA, 0, none⟩)] w (Ret w (.int .i64 0)) := by
  have L := Lib.hid (NLiv.start h); have HTN := Lib.hid (And.intro ht hn); have HU := Lib.hid hu; have HE := Lib.hid (addE_f0 (k := kAcc t n) hm)
  have HBS := Lib.hid hBS
  have HBT := Lib.hid hBT
  have HBN := Lib.hid hBN
  have HBA := Lib.hid hBA
  clear h ht hn hu hm hBS hBT hBN hBA
  go_enter Try.func53, Try.ntmps53
  go_wp2_with fail
  obtain ⟨a1, hwz⟩ : ∃ wz, wz = w.drew := ⟨_, rfl⟩
  have hbz : Below w.heap.size w a1 := by rw [hwz]; exact (Below.refl _ _).drew
  have Lm := Lib.hid (L.out.later hbz)
  have HBSm := Lib.hid (below_at' hbz HBS.out)
  have HBTm := Lib.hid (below_at' hbz HBT.out)
  have HBNm := Lib.hid (below_at' hbz HBN.out)
  have HBAm := Lib.hid (below_at' hbz HBA.out)
  clear hbz L HBS HBT HBN HBA
  have L := Lm
  have HBS := HBSm
  have HBT := HBTm
  have HBN := HBNm
  have HBA := HBAm
  clear Lm HBSm HBTm HBNm HBAm
  have hS : a1.heap[BS]? = some (.cells #[.pointer x] 35 (0, 0)) ∧ a1.heap[BT]? = some (.cells #[.int .i64 t] 3 (0, 0)) ∧ a1.heap[BN]? = some (.cells #[.int .i64 n] 3 (0, 0)) ∧ a1.heap[BA]? = some (.cells #[.int .u64 a, .int .u64 b, .int .u64 c, .int .u64 d] 24 (0, 0)) := ⟨HBS.out, HBT.out, HBN.out, HBA.out⟩
  refine wp_region_till (fun w' => w'.heap[BS]? = some (.cells #[.pointer x] 35 (0, 0)) ∧ w'.heap[BT]? = some (.cells #[.int .i64 t] 3 (0, 0)) ∧ w'.heap[BN]? = some (.cells #[.int .i64 n] 3 (0, 0)) ∧ w'.heap[BA]? = some (.cells #[.int .u64 a, .int .u64 b, .int .u64 c, .int .u64 d] 24 (0, 0))) 7 7 (by kernel_rfl) rfl ?_
  rw [← hwz]
  clear hwz
  refine till_take 0 (some 5) rfl rfl (by kernel_rfl) (by kernel_rfl) (by kernel_rfl) (by kernel_rfl) (by kernel_rfl) (by kernel_rfl) (fun _ _ _ h => h) (.inl ⟨by rfl, fun w' hS' => (by have hc : w'.cell? ⟨BS, 0, none⟩ = some (.pointer x) := Lib.cell_of_heap (hS'.1) 0; go_simp; rfl)⟩) hS ?_
  go_frame
  refine till_take 1 (some 6) rfl rfl (by kernel_rfl) (by kernel_rfl) (by kernel_rfl) (by kernel_rfl) (by kernel_rfl) (by kernel_rfl) (fun _ _ _ h => h) (.inl ⟨by rfl, fun w' hS' => (by have hc : w'.cell? ⟨BT, 0, none⟩ = some (.int .i64 t) := Lib.cell_of_heap (hS'.2.1) 0; go_simp; rfl)⟩) hS ?_
  go_frame
  refine till_take 2 (some 7) rfl rfl (by kernel_rfl) (by kernel_rfl) (by kernel_rfl) (by kernel_rfl) (by kernel_rfl) (by kernel_rfl) (fun _ _ _ h => h) (.inl ⟨by rfl, fun w' hS' => (by have hc : w'.cell? ⟨BN, 0, none⟩ = some (.int .i64 n) := Lib.cell_of_heap (hS'.2.2.1) 0; go_simp; rfl)⟩) hS ?_
  go_frame
  refine till_take 4 (some 9) rfl rfl (by kernel_rfl) (by kernel_rfl) (by kernel_rfl) (by kernel_rfl) (by kernel_rfl) (by kernel_rfl) (fun _ _ _ h => h) (yields_load (by rfl) 24 _ rfl (.pointer (some ⟨BA, 0, none⟩)) rfl (.agg #[.int .u64 a, .int .u64 b, .int .u64 c, .int .u64 d]) (fun w' hS' => load_heap (hS'.2.2.2) Try.underlying24 rfl Try.sizeU)) hS ?_
  go_frame
  refine till_one 3 rfl (by kernel_rfl) fun K hK => ?_
  simp only [List.getElem_toArray, List.getElem_cons_succ, List.getElem_cons_zero]
  rw [if_pos (by rfl)]
  go_simp
  refine (bAcc_any HTN.out.1 HTN.out.2 _).mono ?_
  rintro e a2 ⟨rfl, hb⟩
  have Lm := Lib.hid (L.out.later hb)
  have HBSm := Lib.hid (below_at' hb HBS.out)
  have HBTm := Lib.hid (below_at' hb HBT.out)
  have HBNm := Lib.hid (below_at' hb HBN.out)
  have HBAm := Lib.hid (below_at' hb HBA.out)
  clear hb L HBS HBT HBN HBA
  have L := Lm
  have HBS := HBSm
  have HBT := HBTm
  have HBN := HBNm
  have HBA := HBAm
  clear Lm HBSm HBTm HBNm HBAm
  have hS2 : a2.heap[BS]? = some (.cells #[.pointer x] 35 (0, 0)) ∧ a2.heap[BT]? = some (.cells #[.int .i64 t] 3 (0, 0)) ∧ a2.heap[BN]? = some (.cells #[.int .i64 n] 3 (0, 0)) ∧ a2.heap[BA]? = some (.cells #[.int .u64 a, .int .u64 b, .int .u64 c, .int .u64 d] 24 (0, 0)) := ⟨HBS.out, HBT.out, HBN.out, HBA.out⟩
  refine hK _ _ (fun _ _ => hS2) ?_
  clear hK hS
  have hS := hS2
  clear hS2
  refine till_one 5 rfl (by kernel_rfl) fun K hK => ?_
  simp only [List.getElem_toArray, List.getElem_cons_succ, List.getElem_cons_zero]
  rw [if_pos (by rfl)]
  go_simp
  refine (cadd_not L.out.1 (kAcc t n) HU.out).mono ?_
  rw [HE.out]
  rintro e a3 ⟨rfl, hb⟩
  have Lm := Lib.hid (L.out.later hb)
  have HBSm := Lib.hid (below_at' hb HBS.out)
  have HBTm := Lib.hid (below_at' hb HBT.out)
  have HBNm := Lib.hid (below_at' hb HBN.out)
  have HBAm := Lib.hid (below_at' hb HBA.out)
  clear hb L HBS HBT HBN HBA
  have L := Lm
  have HBS := HBSm
  have HBT := HBTm
  have HBN := HBNm
  have HBA := HBAm
  clear Lm HBSm HBTm HBNm HBAm
  have hS2 : a3.heap[BS]? = some (.cells #[.pointer x] 35 (0, 0)) ∧ a3.heap[BT]? = some (.cells #[.int .i64 t] 3 (0, 0)) ∧ a3.heap[BN]? = some (.cells #[.int .i64 n] 3 (0, 0)) ∧ a3.heap[BA]? = some (.cells #[.int .u64 a, .int .u64 b, .int .u64 c, .int .u64 d] 24 (0, 0)) := ⟨HBS.out, HBT.out, HBN.out, HBA.out⟩
  refine hK _ _ (fun _ _ => hS2) ?_
  clear hK hS
  have hS := hS2
  clear hS2
  refine till_take 6 (some 4) rfl rfl (by kernel_rfl) (by kernel_rfl) (by kernel_rfl) (by kernel_rfl) (by kernel_rfl) (by kernel_rfl) (fun _ _ _ h => h) (.inl ⟨by rfl, fun w' _ => (by go_simp; rfl)⟩) hS ?_
  go_frame
  refine till_done (by kernel_rfl) ?_ _
  clear hS
  go_wp2_with fail
  go_ret
  exact L.out.ret

set_option maxHeartbeats 8000000 in
set_option maxRecDepth 100000 in
theorem ball_not {w : World} {x : Option Addr} (h : NotMade w x) {t n : Int} (ht : I64 t) (hn : I64 n) {a b c d : Int} {m : Nat} (hu : UIs a b c d m) (hm : m < uHalf) {BS BT BN BA L0 : Nat} (hX : w.heap[BS]? = some (.cells #[.pointer x] 35 (0, 0)) ∧ w.heap[BT]? = some (.cells #[.int .i64 t] 3 (0, 0)) ∧ w.heap[BN]? = some (.cells #[.int .i64 n] 3 (0, 0)) ∧ w.heap[BA]? = some (.cells #[.int .u64 a, .int .u64 b, .int .u64 c, .int .u64 d] 24 (0, 0)) ∧ w.heap[L0]? = some (.cells #[.func (.func 51) #[] #[.pointer (some ⟨BS, 0, none⟩), .pointer (some ⟨BT, 0, none⟩), .pointer (some ⟨BA, 0, none⟩)], .func (.func 53) #[] #[.pointer (some ⟨BS, 0, none⟩), .pointer (some ⟨BT, 0, none⟩), .pointer (some ⟨BN, 0, none⟩), .pointer (some ⟨BA, 0, none⟩)]] 83 (0, 0))) :
    Calls Try.prog 50 #[.pointer x, .slice (some ⟨L0, 0, none⟩) 2 2] w (Ret w (.int .i64 0)) := by
  have L := Lib.hid (NLiv.start h); have HT := Lib.hid ht; have HN := Lib.hid hn; have HU := Lib.hid hu; have HM := Lib.hid hm; have HX := Lib.hid hX
  have hmk := smark_not h
  clear h ht hn hu hm hX
  go_enter Try.func50, Try.ntmps50
  go_wp2_with fail
  refine hmk.mono ?_
  rintro e _ ⟨rfl, rfl⟩
  clear hmk
  go_wp2_with fail
  go_loopw [13] (fun vi wr => ∃ i : Nat, vi = .int .i64 i ∧ i ≤ 2 ∧ Hid (NLiv w wr x) ∧ Hid (wr.heap[BS]? = some (.cells #[.pointer x] 35 (0, 0)) ∧ wr.heap[BT]? = some (.cells #[.int .i64 t] 3 (0, 0)) ∧ wr.heap[BN]? = some (.cells #[.int .i64 n] 3 (0, 0)) ∧ wr.heap[BA]? = some (.cells #[.int .u64 a, .int .u64 b, .int .u64 c, .int .u64 d] 24 (0, 0)) ∧ wr.heap[L0]? = some (.cells #[.func (.func 51) #[] #[.pointer (some ⟨BS, 0, none⟩), .pointer (some ⟨BT, 0, none⟩), .pointer (some ⟨BA, 0, none⟩)], .func (.func 53) #[] #[.pointer (some ⟨BS, 0, none⟩), .pointer (some ⟨BT, 0, none⟩), .pointer (some ⟨BN, 0, none⟩), .pointer (some ⟨BA, 0, none⟩)]] 83 (0, 0)))) (fun vi _ => 2 - (intOf vi).toNat)
  case atStart => exact ⟨0, rfl, by omega, L, HX⟩
  case round =>
    clear L HX
    obtain ⟨i, rfl, hi, L, HX⟩ := hrel
    rcases (show i = 0 ∨ i = 1 ∨ i = 2 by omega) with rfl | rfl | rfl
    · have c0 : wr.cell? ⟨L0, 0, none⟩ = some (.func (.func 51) #[] #[.pointer (some ⟨BS, 0, none⟩), .pointer (some ⟨BT, 0, none⟩), .pointer (some ⟨BA, 0, none⟩)]) := Lib.cell_of_heap HX.out.2.2.2.2 0
      go_wp2_with fail
      clear c0
      refine (L.out.call fun hs => mint1_not hs HT.out HN.out HU.out HM.out HX.out.1 HX.out.2.1 HX.out.2.2.2.1).mono ?_
      rintro e w2 ⟨rfl, l2, hb⟩
      have L2 := Lib.hid l2
      have HX2 : Hid (w2.heap[BS]? = some (.cells #[.pointer x] 35 (0, 0)) ∧ w2.heap[BT]? = some (.cells #[.int .i64 t] 3 (0, 0)) ∧ w2.heap[BN]? = some (.cells #[.int .i64 n] 3 (0, 0)) ∧ w2.heap[BA]? = some (.cells #[.int .u64 a, .int .u64 b, .int .u64 c, .int .u64 d] 24 (0, 0)) ∧ w2.heap[L0]? = some (.cells #[.func (.func 51) #[] #[.pointer (some ⟨BS, 0, none⟩), .pointer (some ⟨BT, 0, none⟩), .pointer (some ⟨BA, 0, none⟩)], .func (.func 53) #[] #[.pointer (some ⟨BS, 0, none⟩), .pointer (some ⟨BT, 0, none⟩), .pointer (some ⟨BN, 0, none⟩), .pointer (some ⟨BA, 0, none⟩)]] 83 (0, 0))) := Lib.hid ⟨below_at' hb HX.out.1, below_at' hb HX.out.2.1, below_at' hb HX.out.2.2.1, below_at' hb HX.out.2.2.2.1, below_at' hb HX.out.2.2.2.2⟩
      clear l2 hb L HX
      go_wp2_with fail
      go_roundw
      case rel => exact ⟨1, by go_num, by omega, L2, HX2⟩
      case measure => simp [intOf]
    · have c0 : wr.cell? ⟨L0, 1, none⟩ = some (.func (.func 53) #[] #[.pointer (some ⟨BS, 0, none⟩), .pointer (some ⟨BT, 0, none⟩), .pointer (some ⟨BN, 0, none⟩), .pointer (some ⟨BA, 0, none⟩)]) := Lib.cell_of_heap HX.out.2.2.2.2 1
      go_wp2_with fail
      clear c0
      refine (L.out.call fun hs => mint2_not hs HT.out HN.out HU.out HM.out HX.out.1 HX.out.2.1 HX.out.2.2.1 HX.out.2.2.2.1).mono ?_
      rintro e w2 ⟨rfl, l2, hb⟩
      have L2 := Lib.hid l2
      have HX2 : Hid (w2.heap[BS]? = some (.cells #[.pointer x] 35 (0, 0)) ∧ w2.heap[BT]? = some (.cells #[.int .i64 t] 3 (0, 0)) ∧ w2.heap[BN]? = some (.cells #[.int .i64 n] 3 (0, 0)) ∧ w2.heap[BA]? = some (.cells #[.int .u64 a, .int .u64 b, .int .u64 c, .int .u64 d] 24 (0, 0)) ∧ w2.heap[L0]? = some (.cells #[.func (.func 51) #[] #[.pointer (some ⟨BS, 0, none⟩), .pointer (some ⟨BT, 0, none⟩), .pointer (some ⟨BA, 0, none⟩)], .func (.func 53) #[] #[.pointer (some ⟨BS, 0, none⟩), .pointer (some ⟨BT, 0, none⟩), .pointer (some ⟨BN, 0, none⟩), .pointer (some ⟨BA, 0, none⟩)]] 83 (0, 0))) := Lib.hid ⟨below_at' hb HX.out.1, below_at' hb HX.out.2.1, below_at' hb HX.out.2.2.1, below_at' hb HX.out.2.2.2.1, below_at' hb HX.out.2.2.2.2⟩
      clear l2 hb L HX
      go_wp2_with fail
      go_roundw
      case rel => exact ⟨2, by go_num, by omega, L2, HX2⟩
      case measure => simp [intOf]
    · go_wp2_with fail
      go_ret
      exact L.out.ret

set_option maxHeartbeats 8000000 in
set_option maxRecDepth 100000 in
theorem mint_not {w : World} {x : Option Addr} (h : NotMade w x) {t n : Int} (ht : I64 t) (hn : I64 n) {a b c d : Int} {m : Nat} (hu : UIs a b c d m) :
    Calls Try.prog 16 #[.pointer x, .int .i64 t, .int .i64 n, .agg #[.int .u64 a, .int .u64 b, .int .u64 c, .int .u64 d]] w (fun e w' => ∃ v, Ret w v e w') := by
  have L := Lib.hid (NLiv.start h); have HT := Lib.hid ht; have HN := Lib.hid hn; have HU := Lib.hid hu
  obtain ⟨gq, hgq⟩ : ∃ q, q = goodB t n := ⟨_, rfl⟩
  have HG := Lib.hid hgq
  clear h ht hn hu hgq
  go_enter Try.func16, Try.ntmps16
  go_upto_region 1 with fail
  obtain ⟨w1, hw1⟩ : ∃ w1, w1 = (((w.alloc (.cells #[.pointer x] 35)).alloc (.cells #[.int .i64 t] 3)).alloc (.cells #[.int .i64 n] 3)).alloc (.cells #[.int .u64 a, .int .u64 b, .int .u64 c, .int .u64 d] 24) := ⟨_, rfl⟩
  obtain ⟨BS, hBS⟩ : ∃ x, x = w.heap.size := ⟨_, rfl⟩
  obtain ⟨BT, hBT⟩ : ∃ x, x = w.heap.size + 1 := ⟨_, rfl⟩
  obtain ⟨BN, hBN⟩ : ∃ x, x = w.heap.size + 1 + 1 := ⟨_, rfl⟩
  obtain ⟨BA, hBA⟩ : ∃ x, x = w.heap.size + 1 + 1 + 1 := ⟨_, rfl⟩
  rw [← hw1, ← hBA, ← hBN, ← hBT, ← hBS]
  have hbx := box_four w _ _ _ _ _ _ _ _ w1 hw1
  rw [← hBA, ← hBN, ← hBT, ← hBS] at hbx
  have hb1 : Below w.heap.size w w1 := by rw [← hBS]; exact hbx.2.2.2.2
  have HBS := Lib.hid hbx.1; have HBT := Lib.hid hbx.2.1; have HBN := Lib.hid hbx.2.2.1; have HBA := Lib.hid hbx.2.2.2.1
  have Lm := Lib.hid (L.out.later hb1)
  clear hbx hw1 hBS hBT hBN hBA hb1 L
  have L := Lm
  clear Lm
  have c0 : w1.cell? ⟨BT, 0, none⟩ = some (.int .i64 t) := Lib.cell_of_heap HBT.out 0
  have c1 : w1.cell? ⟨BN, 0, none⟩ = some (.int .i64 n) := Lib.cell_of_heap HBN.out 0
  go_wp2_with fail
  clear c0 c1
  refine (bgood_any t n _).mono ?_
  rw [← HG.out]
  rintro e _ ⟨rfl, rfl⟩
  cases gq with
  | false =>
    go_wp2_with fail
    go_ret
    exact ⟨_, L.out.ret⟩
  | true =>
    have cBA0 : w1.cell? ⟨BA, 0, none⟩ = some (.int .u64 a) := Lib.cell_of_heap HBA.out 0
    have cBA1 : w1.cell? ⟨BA, 1, none⟩ = some (.int .u64 b) := Lib.cell_of_heap HBA.out 1
    have cBA2 : w1.cell? ⟨BA, 2, none⟩ = some (.int .u64 c) := Lib.cell_of_heap HBA.out 2
    have cBA3 : w1.cell? ⟨BA, 3, none⟩ = some (.int .u64 d) := Lib.cell_of_heap HBA.out 3
    go_wp2_with fail
    clear cBA0 cBA1 cBA2 cBA3
    refine (wamount_any HU.out _).mono ?_
    obtain ⟨q, hq⟩ : ∃ q, q = decide (m < uHalf) := ⟨_, rfl⟩
    rw [← hq]
    have HQ := Lib.hid hq
    clear hq
    rintro e w2 ⟨rfl, hb⟩
    have Lm := Lib.hid (L.out.later hb)
    have HBSm := Lib.hid (below_at' hb HBS.out)
    have HBTm := Lib.hid (below_at' hb HBT.out)
    have HBNm := Lib.hid (below_at' hb HBN.out)
    have HBAm := Lib.hid (below_at' hb HBA.out)
    clear hb L HBS HBT HBN HBA
    have L := Lm
    have HBS := HBSm
    have HBT := HBTm
    have HBN := HBNm
    have HBA := HBAm
    clear Lm HBSm HBTm HBNm HBAm
    cases q with
    | false =>
      go_wp2_with fail
      go_ret
      exact ⟨_, L.out.ret⟩
    | true =>
      have HM : Hid (m < uHalf) := Lib.hid (of_decide_eq_true HQ.out.symm)
      have c0 : w2.cell? ⟨BS, 0, none⟩ = some (.pointer x) := Lib.cell_of_heap HBS.out 0
      go_wp2_with fail
      clear c0
      obtain ⟨w3, hw3⟩ : ∃ w3, w3 = w2.alloc (.cells #[.func (.func 51) #[] #[.pointer (some ⟨BS, 0, none⟩), .pointer (some ⟨BT, 0, none⟩), .pointer (some ⟨BA, 0, none⟩)], .func (.func 53) #[] #[.pointer (some ⟨BS, 0, none⟩), .pointer (some ⟨BT, 0, none⟩), .pointer (some ⟨BN, 0, none⟩), .pointer (some ⟨BA, 0, none⟩)]] 83) := ⟨_, rfl⟩
      obtain ⟨L0, hL0⟩ : ∃ x, x = w2.heap.size := ⟨_, rfl⟩
      rw [← hw3, ← hL0]
      have HL0 : Hid (w3.heap[L0]? = some (.cells #[.func (.func 51) #[] #[.pointer (some ⟨BS, 0, none⟩), .pointer (some ⟨BT, 0, none⟩), .pointer (some ⟨BA, 0, none⟩)], .func (.func 53) #[] #[.pointer (some ⟨BS, 0, none⟩), .pointer (some ⟨BT, 0, none⟩), .pointer (some ⟨BN, 0, none⟩), .pointer (some ⟨BA, 0, none⟩)]] 83 (0, 0))) := Lib.hid (by rw [hw3, hL0]; exact heap_alloc_new _ _)
      have hb3 : Below w2.heap.size w2 w3 := by rw [hw3]; exact below_new _ _
      clear hw3 hL0
      have Lm := Lib.hid (L.out.later hb3)
      have HBSm := Lib.hid (below_at' hb3 HBS.out)
      have HBTm := Lib.hid (below_at' hb3 HBT.out)
      have HBNm := Lib.hid (below_at' hb3 HBN.out)
      have HBAm := Lib.hid (below_at' hb3 HBA.out)
      clear hb3 L HBS HBT HBN HBA
      have L := Lm
      have HBS := HBSm
      have HBT := HBTm
      have HBN := HBNm
      have HBA := HBAm
      clear Lm HBSm HBTm HBNm HBAm
      refine (L.out.call fun hs => ball_not hs HT.out HN.out HU.out HM.out ⟨HBS.out, HBT.out, HBN.out, HBA.out, HL0.out⟩).mono ?_
      rintro e w4 ⟨rfl, o, _⟩
      have L4 := Lib.hid o
      clear o L
      go_wp2_with fail
      go_ret
      exact ⟨_, L4.out.ret⟩
end Go.Proofs.Yteaigmoldlbjdaa
