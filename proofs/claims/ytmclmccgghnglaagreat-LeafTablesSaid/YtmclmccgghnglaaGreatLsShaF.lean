/- sha.State: its block, and what block does to it. -/
import Derived.Test.YtmclmccgghnglaaGreatLsShaC
import Derived.Test.YtmclmccgghnglaaGreatLs3
import Derived.Test.YtmclmccgghnglaaGreatLsKeep
import Derived.Outline
namespace Go.Proofs.YtmclmccgghnglaaGreat
open Go.RowKit

/-- The cells of a State. -/
def stC (m : Bool) (h : List UInt32) (wt : List UInt8) (n : Int) : Array Value := (.bool m :: (h.map w32V ++ (wt.map byteV ++ [.int .i64 n]))).toArray
theorem stC_size (m : Bool) (h : List UInt32) (wt : List UInt8) (n : Int) (h1 : h.length = 8) (h2 : wt.length = 64) : (stC m h wt n).size = 74 := by simp [stC, h1, h2]
theorem stC_m (m : Bool) (h : List UInt32) (wt : List UInt8) (n : Int) : (stC m h wt n)[0]? = some (.bool m) := by simp [stC]
theorem stC_h (m : Bool) (h : List UInt32) (wt : List UInt8) (n : Int) (h1 : h.length = 8) (i : Nat) (hi : i < 8) : (stC m h wt n)[1 + i]? = some (.int .u32 ((gW h i).toNat : Int)) := by
  simp only [stC, List.getElem?_toArray]
  rw [Nat.add_comm 1 i, List.getElem?_cons_succ, List.getElem?_append_left (by simp; omega), List.getElem?_map, List.getElem?_eq_getElem (by omega)]
  simp [w32V, gW, List.getD, List.getElem?_eq_getElem (show i < h.length by omega)]
theorem stC_n (m : Bool) (h : List UInt32) (wt : List UInt8) (n : Int) (h1 : h.length = 8) (h2 : wt.length = 64) : (stC m h wt n)[73]? = some (.int .i64 n) := by
  simp only [stC, List.getElem?_toArray]
  rw [show 73 = (8 + 64) + 1 by omega, List.getElem?_cons_succ, List.getElem?_append_right (by simp; omega), List.getElem?_append_right (by simp; omega)]
  simp [h1, h2]
theorem stC_set_h (m : Bool) (h : List UInt32) (wt : List UInt8) (n : Int) (h1 : h.length = 8) (i : Nat) (hi : i < 8) (x : UInt32) : (stC m h wt n).setIfInBounds (1 + i) (.int .u32 (x.toNat : Int)) = stC m (h.set i x) wt n := by
  apply Array.ext'
  simp only [stC, Array.toList_setIfInBounds]
  rw [Nat.add_comm 1 i, List.set_cons_succ, List.set_append_left _ _ (by simp; omega), List.map_set]
  rfl
theorem stC_set_n (m : Bool) (h : List UInt32) (wt : List UInt8) (n k : Int) (h1 : h.length = 8) (h2 : wt.length = 64) : (stC m h wt n).setIfInBounds 73 (.int .i64 k) = stC m h wt k := by
  apply Array.ext'
  simp only [stC, Array.toList_setIfInBounds]
  rw [show 73 = (8 + 64) + 1 by omega, List.set_cons_succ, List.set_append_right _ _ (by simp; omega), List.set_append_right _ _ (by simp; omega)]
  simp [h1, h2]
theorem stC_row_h (m : Bool) (h : List UInt32) (wt : List UInt8) (n : Int) (h1 : h.length = 8) : ((stC m h wt n).toList.drop 1).take 8 = h.map w32V := by
  simp only [stC]
  rw [List.drop_succ_cons, List.drop_zero, List.take_append_of_le_length (by simp; omega), List.take_of_length_le (by simp; omega)]
theorem stC_row_w (m : Bool) (h : List UInt32) (wt : List UInt8) (n : Int) (h1 : h.length = 8) (h2 : wt.length = 64) : ((stC m h wt n).toList.drop 9).take 64 = wt.map byteV := by
  simp only [stC]
  rw [show 9 = 8 + 1 by omega, List.drop_succ_cons, List.drop_append_of_le_length (by simp; omega), List.drop_of_length_le (by simp; omega), List.nil_append, List.take_append_of_le_length (by simp; omega), List.take_of_length_le (by simp; omega)]

/-- A State at block g. -/
def St (w : World) (g : Nat) (m : Bool) (h : List UInt32) (wt : List UInt8) (n : Int) : Prop := w.heap[g]? = some (.cells (stC m h wt n) 385 (0, 0)) ∧ h.length = 8 ∧ wt.length = 64

/-- The sums of the first k words, and the others as they are. -/
def addTo (h v : List UInt32) (k : Nat) : List UInt32 := (List.range 8).map fun j => if j < k then gW h j + gW v j else gW h j
theorem addTo_length (h v : List UInt32) (k : Nat) : (addTo h v k).length = 8 := by simp [addTo]
theorem addTo_at (h v : List UInt32) (k : Nat) (hk : k < 8) : gW (addTo h v k) k = gW h k := by
  simp [addTo, gW, List.getD, List.getElem?_range hk]
theorem addTo_set (h v : List UInt32) (k : Nat) : (addTo h v k).set k (gW h k + gW v k) = addTo h v (k + 1) := by
  apply List.ext_getElem (by simp [addTo])
  intro i h1 h2
  rw [List.getElem_set]
  simp only [addTo, List.getElem_map, List.getElem_range]
  by_cases e : k = i
  · subst e; simp
  · rw [if_neg e]
    by_cases h3 : i < k
    · rw [if_pos h3, if_pos (by omega)]
    · rw [if_neg h3, if_neg (by omega)]
theorem addTo_zero (h v : List UInt32) (h8 : h.length = 8) : addTo h v 0 = h := by
  apply List.ext_getElem (by simp [addTo, h8])
  intro i h1 h2
  simp [addTo, gW, List.getD, List.getElem?_eq_getElem h2]
theorem addTo_full (u v : V8) : addTo u.list v.list 8 = (addV u v).list := rfl
theorem one_w8 (l : List UInt32) : (l.map w32V).toArray.all (·.oneCell') = true := by
  rw [← Array.all_toList]; simp [w32V, Value.oneCell']

theorem Tryz.sizeB : (Tryz.prog.info? 383).map (·.size) = some 64 := by kernel_rfl
theorem Tryz.sizeBl (b : List UInt8) (h : b.length = 64) : (Tryz.prog.info? 383).map (·.size) = some (c8 b).size := by rw [c8_size, h]; exact Tryz.sizeB

/-- The eight words, cell by cell. -/
def cV (v : V8) : Array Value := #[.int .u32 v.a.toNat, .int .u32 v.b.toNat, .int .u32 v.c.toNat, .int .u32 v.d.toNat, .int .u32 v.e.toNat, .int .u32 v.f.toNat, .int .u32 v.g.toNat, .int .u32 v.h.toNat]
theorem cV_eq (v : V8) : cV v = (v.list.map w32V).toArray := rfl
theorem Tryz.sizeV (v : V8) : (Tryz.prog.info? 248).map (·.size) = some (cV v).size := by show _ = some 8; exact Tryz.sizeH
theorem Tryz.sizeVl (v : V8) : (Tryz.prog.info? 248).map (·.size) = some (v.list.map w32V).length := by show _ = some 8; exact Tryz.sizeH
theorem one_v (v : V8) : (cV v).all (·.oneCell') = true := by rw [cV_eq]; exact one_w8 _

theorem u32_notx_t (x : UInt32) : bits BinOp.xor IntKind.u32 IntKind.u32.max (x.toNat : Int) = ((~~~x).toNat : Int) := by
  have e : IntKind.u32.max = (((4294967295 : UInt32).toNat : Nat) : Int) := by rfl
  rw [e, u32_xor_t]
  congr 2
theorem ch_t (e f g : UInt32) : bits BinOp.xor IntKind.u32 (bits BinOp.and IntKind.u32 (e.toNat : Int) (f.toNat : Int)) (bits BinOp.and IntKind.u32 (bits BinOp.xor IntKind.u32 IntKind.u32.max (e.toNat : Int)) (g.toNat : Int)) = ((chF e f g).toNat : Int) := by
  rw [u32_notx_t, u32_and_t, u32_and_t, u32_xor_t]; rfl
theorem maj_t (a b c : UInt32) : bits BinOp.xor IntKind.u32 (bits BinOp.xor IntKind.u32 (bits BinOp.and IntKind.u32 (a.toNat : Int) (b.toNat : Int)) (bits BinOp.and IntKind.u32 (a.toNat : Int) (c.toNat : Int))) (bits BinOp.and IntKind.u32 (b.toNat : Int) (c.toNat : Int)) = ((majF a b c).toNat : Int) := by
  rw [u32_and_t, u32_and_t, u32_and_t, u32_xor_t, u32_xor_t]; rfl
theorem add6_t (z a b c d e : UInt32) : ((z.toNat : Int) + ((a.toNat : Int) + b.toNat + c.toNat + d.toNat + e.toNat)) % 4294967296 = ((z + (a + b + c + d + e)).toNat : Int) := by
  simp only [UInt32.toNat_add]; omega
theorem add7_t (a b c d e f g : UInt32) : ((a.toNat : Int) + b.toNat + c.toNat + d.toNat + e.toNat + f.toNat + g.toNat) % 4294967296 = ((a + b + c + d + e + f + g).toNat : Int) := by
  simp only [UInt32.toNat_add]; omega
theorem step_row (R : V8) (kk ww : UInt32) : ((#[.int .u32 R.a.toNat, .int .u32 R.a.toNat, .int .u32 R.b.toNat, .int .u32 R.c.toNat, .int .u32 R.d.toNat, .int .u32 R.e.toNat, .int .u32 R.f.toNat, .int .u32 R.g.toNat] : Array Value).setIfInBounds 4
      (.int .u32 (((R.d.toNat : Int) + ((R.h.toNat : Int) + (grtF R.e 6 11 25).toNat + (chF R.e R.f R.g).toNat + kk.toNat + ww.toNat)) % 4294967296))).setIfInBounds 0
      (.int .u32 (((R.h.toNat : Int) + (grtF R.e 6 11 25).toNat + (chF R.e R.f R.g).toNat + kk.toNat + ww.toNat + (grtF R.a 2 13 22).toNat + (majF R.a R.b R.c).toNat) % 4294967296)) = cV (stepV kk ww R) := by
  rw [add6_t, add7_t]; rfl
set_option maxRecDepth 100000 in
set_option maxHeartbeats 1000000 in
theorem block_any (w : World) (g : Nat) (m : Bool) (V : V8) (wt : List UInt8) (n : Int) (b : List UInt8) (hb : b.length = 64) (hs : St w g m V.list wt n) :
    Calls Tryz.prog 352 #[.pointer (some ⟨g, 0, none⟩), .agg (c8 b)] w fun e w' => e = .returned (.tuple #[]) ∧ St w' g m (compress V b).list wt n ∧ Keep (· = g) w w' := by
  have HB := Lib.hid hb; clear hb
  have HS := Lib.hid hs; clear hs
  go_enter Tryz.func352, Tryz.ntmps352
  go_wp2_with (first | (refine wpList_load_row rfl _ _ rfl _ rfl _ (c8 b) _ _ (heap_alloc_new _ _) Tryz.underlying383 rfl (Tryz.sizeBl b HB.out) ?_))
  refine (schedule_any b HB.out _).mono ?_
  rintro e w1 ⟨rfl, hb1⟩
  go_wp2_with fail
  refine (constants_any _).mono ?_
  rintro e w2 ⟨rfl, hb2⟩
  go_wp2_with ((refine wpList_store_row_g (t := 250) (old := cW 64 []) rfl 250 (.tmp 4) (.tmp 14) rfl w2.heap.size (cW 64 (schedTo b 64)) rfl rfl ((heap_alloc2_old _ _ _).trans (by kernel_rfl)) (Tryz.sizeS b 64 (Nat.le_refl _)) (by rw [cW_size _ _ (by simp), cW_size_s b 64 (Nat.le_refl _)]) (one_w _ _) ?_))
  intro w3 h3 k3 z3
  have h4 : w3.heap[w2.heap.size + 1]? = some (.cells (cW 64 []) 250 (0, 0)) := k3.at ((heap_alloc2_new _ _ _).trans (by kernel_rfl)) (by simp)
  replace k3 : Below w2.heap.size w2 w3 := ((((Below.refl _ _).alloc (Nat.le_refl _) _).alloc (by simp) _).trans (k3.below (B := w2.heap.size) (by intro k hk e; omega) (by simp; omega)))
  replace z3 : w3.heap.size = w2.heap.size + 2 := z3.trans (by simp)
  have Z3 := Lib.hid z3; clear z3
  go_wp2_with ((refine wpList_store_row_g (t := 250) (old := cW 64 []) rfl 250 (.tmp 5) (.tmp 15) rfl (w2.heap.size + 1) (cW 64 conK) rfl rfl h4 (Tryz.sizeCon) (by kernel_rfl) (one_w _ _) ?_))
  intro w4 h5 k4 z4
  have h6 : w4.heap[w2.heap.size]? = some (.cells (cW 64 (schedTo b 64)) 250 (0, 0)) := k4.at h3 (by omega)
  have hb0 : Below w.heap.size w w4 := (boxed1 hb1).1.trans ((hb2.mono ((boxed1 hb1).1.size)).trans ((k3.mono (Nat.le_trans (boxed1 hb1).1.size hb2.size)).trans (k4.below (B := w.heap.size) (by intro k hk e; have := (boxed1 hb1).1.size; have := hb2.size; omega) (by have := (boxed1 hb1).1.size; have := hb2.size; have := Z3.out; omega))))
  have hB1 : w.heap.size ≤ w2.heap.size := Nat.le_trans (boxed1 hb1).1.size hb2.size
  replace z4 : w4.heap.size = w2.heap.size + 2 := by rw [z4, Z3.out]
  have HS4 : Hid (St w4 g m V.list wt n) := Lib.hid ⟨(hb0.block g (heap_lt HS.out.1)).trans HS.out.1, HS.out.2⟩
  have hg : g < w.heap.size := heap_lt HS.out.1
  have Z4 := Lib.hid z4
  clear z4 k4 h4 Z3 k3 h3 hb1 hb2
  go_wp2_with (first
    | (refine wpList_load_mid rfl _ _ rfl g 1 rfl (V.list.map w32V) _ (range_of_heap HS4.out.1 1 _ (stC_row_h _ _ _ _ rfl)) Tryz.underlying248 rfl (Tryz.sizeVl V) ?_)
    | (refine wpList_store_row_g (t := 248) (old := cW 8 []) rfl 248 (.tmp 6) (.tmp 19) rfl w4.heap.size (cV V) rfl rfl ((heap_alloc_new _ _).trans (by kernel_rfl)) (Tryz.sizeV V) (by kernel_rfl) (one_v V) ?_))
  intro w5 h7 k7 z7
  have h8 : w5.heap[w2.heap.size]? = some (.cells (cW 64 (schedTo b 64)) 250 (0, 0)) := k7.at ((Below.heap_alloc _ _ _ (heap_lt h6)).trans h6) (by have := heap_lt h6; omega)
  have h9 : w5.heap[w2.heap.size + 1]? = some (.cells (cW 64 conK) 250 (0, 0)) := k7.at ((Below.heap_alloc _ _ _ (heap_lt h5)).trans h5) (by have := heap_lt h5; omega)
  have hb5 : Below w.heap.size w w5 := (hb0.alloc (by have := heap_lt h6; omega) _).trans (k7.below (B := w.heap.size) (by intro k hk e; have := heap_lt h6; omega) (by have := heap_lt h6; simp; omega))
  have hBD : w2.heap.size + 1 < w4.heap.size := heap_lt h5
  have hD : w4.heap.size < w5.heap.size := heap_lt h7
  clear h5 h6 hb0 HS4 z7 k7 Z4
  generalize w2.heap.size = B at *
  generalize w4.heap.size = D at *
  go_wp2_with fail
  go_loopw [7, 8, 9, 10, 20] (fun _ _ _ _ i wr => ∃ k : Nat, k ≤ 64 ∧ i = .int .i64 k ∧ wr.heap[D]? = some (.cells (cV (roundsTo (schedTo b 64) V k)) 248 (0, 0)) ∧ wr.heap[B]? = some (.cells (cW 64 (schedTo b 64)) 250 (0, 0)) ∧ wr.heap[B + 1]? = some (.cells (cW 64 conK) 250 (0, 0)) ∧ Below w.heap.size w wr) (fun _ _ _ _ i _ => 64 - (intOf i).toNat)
  case atStart => exact ⟨0, by omega, rfl, h7, h8, h9, hb5⟩
  case round =>
    clear h7 h8 h9 hb5
    obtain ⟨k, hk, rfl, h7, h8, h9, hb5⟩ := hrel
    by_cases hlt : k < 64
    · generalize hR : roundsTo (schedTo b 64) V k = R at *
      have HR := Lib.hid hR; clear hR
      have d0 := Lib.cell_of_heap h7 0
      have d1 := Lib.cell_of_heap h7 1
      have d2 := Lib.cell_of_heap h7 2
      have d3 := Lib.cell_of_heap h7 3
      have d4 := Lib.cell_of_heap h7 4
      have d5 := Lib.cell_of_heap h7 5
      have d6 := Lib.cell_of_heap h7 6
      have d7 := Lib.cell_of_heap h7 7
      simp only [cV, List.getElem?_toArray, List.getElem?_cons_zero, List.getElem?_cons_succ] at d0 d1 d2 d3 d4 d5 d6 d7
      have kw := Lib.cell_of_heap h8 k
      have kk := Lib.cell_of_heap h9 k
      rw [cW_at _ _ _ (by rw [schedTo_length]; omega)] at kw
      rw [cW_at _ _ _ (show k < conK.length from hlt)] at kk
      have H7 := Lib.hid h7; have H8 := Lib.hid h8; have H9 := Lib.hid h9; have HB5 := Lib.hid hb5
      clear h7 h8 h9 hb5
      have j0 : (k : Int) < 64 := by omega
      have hu : IntKind.u32.signed = false := rfl
      have hch := ch_t R.e R.f R.g
      have hmj := maj_t R.a R.b R.c
      go_wp2_with fail
      go_quiet ((go_at_call 370; (with_reducible exact Calls.quiet_of (great_any R.e 6 11 25 _ (by omega) (by omega) (by omega) (by omega) (by omega) (by omega)))))
      go_wp2_with fail
      refine still_tail_w 2 (by kernel_rfl) (by kernel_rfl) fun w6 hw6 => ?_
      simp only [List.take_succ_cons, List.take_zero, List.drop_succ_cons, List.drop_zero]
      have g7 : w6.heap[D]? = some (.cells (cV R) 248 (0, 0)) := by rw [hw6]; exact H7.out
      have g8 : Keep (fun _ => False) wr w6 := by rw [hw6]; exact ((Keep.refl _ _).drewN _).drew
      clear hw6
      have G7 := Lib.hid g7; have G8 := Lib.hid g8; clear g7 g8
      repeat still_step
      refine wpStill_nil ?_
      refine wpList_copy_g rfl _ _ _ _ rfl 247 (by kernel_rfl) (by kernel_rfl) D 1 7 7 ⟨D, 0, none⟩ 7 8 rfl rfl (cV R) 248 G7.out [.int .u32 R.a.toNat, .int .u32 R.b.toNat, .int .u32 R.c.toNat, .int .u32 R.d.toNat, .int .u32 R.e.toNat, .int .u32 R.f.toNat, .int .u32 R.g.toNat] rfl ?c1 (by show 1 + 7 ≤ 8; omega) ?c2 #[.int .u32 R.a.toNat, .int .u32 R.a.toNat, .int .u32 R.b.toNat, .int .u32 R.c.toNat, .int .u32 R.d.toNat, .int .u32 R.e.toNat, .int .u32 R.f.toNat, .int .u32 R.g.toNat] rfl 7 rfl ?_
      case c1 =>
        intro j v hj
        rw [Addr.add_mid, Nat.zero_add, Lib.cell_of_heap G7.out]
        have hj7 : j < 7 := (List.getElem?_eq_some_iff.1 hj).1
        rw [← hj]
        match j, hj7 with
        | 0, _ => rfl
        | 1, _ => rfl
        | 2, _ => rfl
        | 3, _ => rfl
        | 4, _ => rfl
        | 5, _ => rfl
        | 6, _ => rfl
      case c2 => intro v hv; simp only [List.mem_cons, List.not_mem_nil, or_false] at hv; rcases hv with rfl | rfl | rfl | rfl | rfl | rfl | rfl <;> rfl
      intro w7 r7 r8 r9
      have q0 := Lib.cell_of_heap r7 0
      have q1 := Lib.cell_of_heap r7 1
      have q4 := Lib.cell_of_heap r7 4
      simp only [List.getElem?_toArray, List.getElem?_cons_zero, List.getElem?_cons_succ] at q0 q1 q4
      have f0 : w7.frozen? ⟨D, 0, none⟩ = false := Lib.frozen_of_heap r7 0
      have f4 : w7.frozen? ⟨D, 4, none⟩ = false := Lib.frozen_of_heap r7 4
      have hb7 : Below w.heap.size w w7 := HB5.out.trans ((G8.out.below (B := w.heap.size) (by intro k hk e; exact e) HB5.out.size).trans (r8.below (by intro k hk e; omega) (Nat.le_trans HB5.out.size G8.out.size)))
      have hc7 : w7.heap[B]? = some (.cells (cW 64 (schedTo b 64)) 250 (0, 0)) := r8.at (G8.out.at H8.out (fun e => e)) (by omega)
      have hd7 : w7.heap[B + 1]? = some (.cells (cW 64 conK) 250 (0, 0)) := r8.at (G8.out.at H9.out (fun e => e)) (by omega)
      have R7 := Lib.hid r7; have HB7 := Lib.hid hb7; have HC7 := Lib.hid hc7; have HD7 := Lib.hid hd7
      clear r7 r8 r9 hb7 hc7 hd7 G7 G8 H7 H8 H9 HB5
      go_wp2_with fail
      refine (great_any R.a 2 13 22 _ (by omega) (by omega) (by omega) (by omega) (by omega) (by omega)).mono ?_
      rintro e w8 ⟨rfl, nq8, rfl⟩
      go_wp2_with fail
      refine ⟨?rel, ?measure⟩
      case rel =>
        refine ⟨k + 1, by omega, by go_num, ?_, ?_, ?_, ?_⟩
        · refine (heap_setCell_same _ _ _ _ _ _ (show (((w7.setCell ⟨D, 4, none⟩ _).drewN nq8).heap[D]? = _) from heap_setCell_same _ _ _ _ _ _ R7.out)).trans (congrArg (fun x => some (Obj.cells x _ _)) ?_)
          rw [step_row, roundsTo, HR.out]; rfl
        · exact (heap_setCell_other _ _ _ _ (by simp; omega)).trans ((heap_setCell_other _ _ _ _ (by simp; omega)).trans HC7.out)
        · exact (heap_setCell_other _ _ _ _ (by simp; omega)).trans ((heap_setCell_other _ _ _ _ (by simp; omega)).trans HD7.out)
        · exact (below_drewN (HB7.out.setCell (p := ⟨D, 4, none⟩) (by simp; omega) _) _).setCell (p := ⟨D, 0, none⟩) (by simp; omega) _
      case measure => simp [intOf]; omega
    · obtain rfl : k = 64 := by omega
      generalize hR : roundsTo (schedTo b 64) V 64 = R at *
      have HR := Lib.hid hR; clear hR
      have H7 := Lib.hid h7; have HB5 := Lib.hid hb5
      clear h7 h8 h9 hb5
      go_wp2_with (first | (refine wpList_load_row rfl _ _ rfl D rfl _ (cV R) _ _ H7.out Tryz.underlying248 rfl (Tryz.sizeV R) ?_))
      have HS6 : Hid (St wr g m V.list wt n) := Lib.hid ⟨(HB5.out.block g hg).trans HS.out.1, HS.out.2⟩
      go_loopw [11, 12, 86] (fun _ _ i wq => ∃ k : Nat, k ≤ 8 ∧ i = .int .i64 k ∧ St wq g m (addTo V.list R.list k) wt n ∧ Keep (· = g) w wq) (fun _ _ i _ => 8 - (intOf i).toNat)
      case atStart => exact ⟨0, by omega, rfl, by rw [addTo_zero _ _ rfl]; exact HS6.out, Keep.of_below HB5.out⟩
      case round =>
        obtain ⟨k, hk, rfl, hst, hkp⟩ := hrel
        by_cases hlt : k < 8
        · have j0 : (k : Int) < 8 := by omega
          have hix : ∀ w, (Instr.index 248 (.agg (cV R)) (.int .i64 (k : Int))).run Tryz.prog w = .ok (.int .u32 ((gW R.list k).toNat : Int)) w := fun w =>
            run_index1 w Tryz.underlying248 Tryz.underlying247 (by kernel_rfl) (cV R) k hlt _ (by
              match k, hlt with
              | 0, _ => rfl
              | 1, _ => rfl
              | 2, _ => rfl
              | 3, _ => rfl
              | 4, _ => rfl
              | 5, _ => rfl
              | 6, _ => rfl
              | 7, _ => rfl)
          have HST := Lib.hid hst; have HKP := Lib.hid hkp; clear hst hkp
          go_wp2_with fail
          refine still_tail_w 11 (by kernel_rfl) (by kernel_rfl) fun w6 hw6 => ?_
          simp only [List.take_succ_cons, List.take_zero, List.drop_succ_cons, List.drop_zero]
          have g7 : St w6 g m (addTo V.list R.list k) wt n := by rw [hw6]; exact HST.out
          have g8 : Keep (· = g) w w6 := by rw [hw6]; exact HKP.out.drew
          clear hw6
          have G7 := Lib.hid g7; have G8 := Lib.hid g8; clear g7 g8
          have q := Lib.cell_of_heap G7.out.1 (1 + k)
          rw [stC_h _ _ _ _ (addTo_length _ _ _) k hlt, addTo_at _ _ _ hlt] at q
          have f : w6.frozen? ⟨g, 1 + k, none⟩ = false := Lib.frozen_of_heap G7.out.1 _
          repeat still_step
          refine wpStill_nil ?_
          go_wp2_with fail
          go_roundw
          case rel =>
            refine ⟨k + 1, by omega, by go_num, ⟨(heap_setCell_same _ _ _ _ _ _ G7.out.1).trans (congrArg (fun x => some (Obj.cells x _ _)) ?_), addTo_length _ _ _, HS.out.2.2⟩, G8.out.setCell (p := ⟨g, 1 + k, none⟩) (.inl rfl) _⟩
            rw [u32_add_t', stC_set_h _ _ _ _ (addTo_length _ _ _) k hlt, addTo_set]
          case measure => simp [intOf]; omega
        · obtain rfl : k = 8 := by omega
          have HST := Lib.hid hst; have HKP := Lib.hid hkp; clear hst hkp
          go_wp2_with fail
          go_end0
          refine ⟨rfl, ?_, HKP.out⟩
          have := HST.out
          rwa [addTo_full, ← HR.out] at this
end Go.Proofs.YtmclmccgghnglaaGreat
