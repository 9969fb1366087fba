/- sha.turn, small, great and the reference's turn: their contracts. sha.schedule. -/
import Derived.Test.YtmclmccgghnglaaGreatLsBase
import Derived.Test.YtmclmccgghnglaaGreatLs1
import Derived.Deep.QuietTactic
import Derived.BigQuiet
import Derived.WalkSmall
import Derived.StillTailTactics
import Derived.LoopTactic
namespace Go.Proofs.YtmclmccgghnglaaGreat
section
open Go.RowKit

theorem t32 (x : UInt32) : x.toNat < 4294967296 := x.toNat_lt
theorem u32_xor_t (x y : UInt32) : bits BinOp.xor IntKind.u32 (x.toNat : Int) (y.toNat : Int) = ((x ^^^ y).toNat : Int) := by
  rw [u32_xor_nat _ _ (t32 x) (t32 y), UInt32.toNat_xor]
theorem u32_and_t (x y : UInt32) : bits BinOp.and IntKind.u32 (x.toNat : Int) (y.toNat : Int) = ((x &&& y).toNat : Int) := by
  rw [u32_and_nat _ _ (t32 x) (t32 y), UInt32.toNat_and]
theorem u32_or_t (x y : UInt32) : bits BinOp.or IntKind.u32 (x.toNat : Int) (y.toNat : Int) = ((x ||| y).toNat : Int) := by
  rw [u32_or_nat _ _ (t32 x) (t32 y), UInt32.toNat_or]
theorem u32_add_t (x y : UInt32) : IntKind.u32.wrap ((x.toNat : Int) + (y.toNat : Int)) = ((x + y).toNat : Int) := by
  rw [IntKind.wrap_u32', UInt32.toNat_add]; omega
theorem shr_t (x : UInt32) (n : Nat) (hn : n < 32) : (x.toNat : Int) / 2 ^ n = ((shr32 x n).toNat : Int) := by
  unfold shr32
  rw [UInt32.toNat_shiftRight]
  have : (UInt32.ofNat n).toNat % 32 = n := by rw [UInt32.toNat_ofNat']; omega
  rw [this, Nat.shiftRight_eq_div_pow]
  simp
theorem shl_t (x : UInt32) (n : Nat) (hn : n < 32) : IntKind.u32.wrap ((x.toNat : Int) * 2 ^ n) = ((x <<< UInt32.ofNat n).toNat : Int) := by
  rw [IntKind.wrap_u32', UInt32.toNat_shiftLeft]
  have : (UInt32.ofNat n).toNat % 32 = n := by rw [UInt32.toNat_ofNat']; omega
  rw [this, Nat.shiftLeft_eq]
  simp

theorem turn_val (x : UInt32) (n : Nat) (h1 : 1 ≤ n) (h2 : n ≤ 31) : bits BinOp.or IntKind.u32 ((x.toNat : Int) / 2 ^ n) ((x.toNat : Int) * 2 ^ (32 - n) % 4294967296) = ((rotr x n).toNat : Int) := by
  rw [shr_t x n (by omega), ← IntKind.wrap_u32', shl_t x (32 - n) (by omega), u32_or_t]; rfl
theorem ret_val {k : IntKind} {a b : Int} (h : a = b) : Ending.returned (.int k a) = .returned (.int k b) := by rw [h]

set_option maxHeartbeats 1000000 in
theorem turn_any (x : UInt32) (n : Nat) (w : World) (h1 : 1 ≤ n) (h2 : n ≤ 31) :
    Calls Tryz.prog 378 #[.int .u32 x.toNat, .int .i64 n] w fun e w' => e = .returned (.int .u32 (rotr x n).toNat) ∧ ∃ k, w' = w.drewN k := by
  have e1 : (32 - (n : Int)).toNat = 32 - n := by omega
  have e0 : (0 : Int) ≤ 32 - (n : Int) := by omega
  go_enter Tryz.func378, Tryz.ntmps378
  go_wp2
  go_quiet (fail)
  go_wp2
  go_ret
  exact ⟨ret_val (turn_val x n h1 h2), _, rfl⟩

set_option maxHeartbeats 1000000 in
theorem refTurn_any (x : UInt32) (n : Nat) (w : World) (h1 : 1 ≤ n) (h2 : n ≤ 31) :
    Calls Tryz.prog 198 #[.int .u32 x.toNat, .int .i64 n] w fun e w' => e = .returned (.int .u32 (rotr x n).toNat) ∧ w = w' := by
  have e1 : (32 - (n : Int)).toNat = 32 - n := by omega
  have e0 : (0 : Int) ≤ 32 - (n : Int) := by omega
  go_enter Tryz.func198, Tryz.ntmps198
  go_wp2
  go_ret
  exact ⟨ret_val (turn_val x n h1 h2), rfl⟩

theorem turn_int (x : UInt32) (n : Int) (w : World) (h1 : 1 ≤ n) (h2 : n ≤ 31) :
    Calls Tryz.prog 378 #[.int .u32 x.toNat, .int .i64 n] w fun e w' => e = .returned (.int .u32 (rotr x n.toNat).toNat) ∧ ∃ k, w' = w.drewN k := by
  obtain ⟨m, rfl⟩ := Int.eq_ofNat_of_zero_le (show 0 ≤ n by omega)
  exact turn_any x m w (by omega) (by omega)
set_option maxHeartbeats 1000000 in
theorem great_any (x : UInt32) (a b c : Int) (w : World) (h1 : 1 ≤ a) (h2 : a ≤ 31) (h3 : 1 ≤ b) (h4 : b ≤ 31) (h5 : 1 ≤ c) (h6 : c ≤ 31) :
    Calls Tryz.prog 370 #[.int .u32 x.toNat, .int .i64 a, .int .i64 b, .int .i64 c] w fun e w' => e = .returned (.int .u32 (grtF x a.toNat b.toNat c.toNat).toNat) ∧ ∃ k, w' = w.drewN k := by
  go_enter Tryz.func370, Tryz.ntmps370
  go_wp2_with fail
  refine (turn_int x a _ h1 h2).mono ?_
  rintro e w1 ⟨rfl, k1, rfl⟩
  go_wp2_with fail
  refine (turn_int x b _ h3 h4).mono ?_
  rintro e w1 ⟨rfl, k2, rfl⟩
  go_wp2_with fail
  refine (turn_int x c _ h5 h6).mono ?_
  rintro e w1 ⟨rfl, k3, rfl⟩
  go_wp2
  go_ret
  exact ⟨ret_val (by rw [u32_xor_t, u32_xor_t]; rfl), _, rfl⟩

set_option maxHeartbeats 1000000 in
theorem small_any (x : UInt32) (a b c : Int) (w : World) (h1 : 1 ≤ a) (h2 : a ≤ 31) (h3 : 1 ≤ b) (h4 : b ≤ 31) (h5 : 1 ≤ c) (h6 : c ≤ 31) :
    Calls Tryz.prog 377 #[.int .u32 x.toNat, .int .i64 a, .int .i64 b, .int .i64 c] w fun e w' => e = .returned (.int .u32 (smlF x a.toNat b.toNat c.toNat).toNat) ∧ ∃ k, w' = w.drewN k := by
  have hc : (0 : Int) ≤ c := by omega
  go_enter Tryz.func377, Tryz.ntmps377
  go_wp2_with fail
  go_quiet ((first | (go_at_call 378; (with_reducible exact Calls.quiet_of (turn_int x a _ h1 h2))) | (go_at_call 378; (with_reducible exact Calls.quiet_of (turn_int x b _ h3 h4)))))
  go_wp2
  go_ret
  exact ⟨ret_val (by rw [shr_t x c.toNat (by omega), u32_xor_t, u32_xor_t]; rfl), _, rfl⟩
end
section
open Go.RowKit

def c8 (l : List UInt8) : Array Value := (l.map byteV).toArray
def gB (l : List UInt8) (i : Nat) : UInt8 := l.getD i 0
def gW (l : List UInt32) (i : Nat) : UInt32 := l.getD i 0
def w32V (x : UInt32) : Value := .int .u32 x.toNat
/-- A row of n words, of which those of l stand and the rest are nought. -/
def cW (n : Nat) (l : List UInt32) : Array Value := (l.map w32V ++ List.replicate (n - l.length) (Value.int .u32 0)).toArray
theorem cW_size (n : Nat) (l : List UInt32) (h : l.length ≤ n) : (cW n l).size = n := by simp [cW]; omega
theorem cW_at (n : Nat) (l : List UInt32) (i : Nat) (h : i < l.length) : (cW n l)[i]? = some (.int .u32 ((gW l i).toNat : Int)) := by
  simp only [cW, gW, List.getElem?_toArray]
  rw [List.getElem?_append_left (by simpa using h), List.getElem?_map, List.getElem?_eq_getElem h]
  simp [w32V, List.getD, List.getElem?_eq_getElem h]
theorem cW_past (n : Nat) (l : List UInt32) (i : Nat) (h : l.length ≤ i) (hi : i < n) : (cW n l)[i]? = some (.int .u32 0) := by
  simp only [cW, List.getElem?_toArray]
  rw [List.getElem?_append_right (by simpa using h)]
  simp only [List.length_map]
  rw [List.getElem?_replicate, if_pos (by omega)]
theorem cW_set (n : Nat) (l : List UInt32) (x : UInt32) (h : l.length < n) : (cW n l).setIfInBounds l.length (.int .u32 x.toNat) = cW n (l ++ [x]) := by
  apply Array.ext'
  simp only [cW, Array.toList_setIfInBounds]
  rw [List.set_append_right _ _ (by simp), show n - l.length = (n - (l ++ [x]).length) + 1 by simp; omega, List.replicate_succ]
  simp [w32V]
theorem c8_at (l : List UInt8) (i : Nat) (h : i < l.length) : (c8 l)[i]? = some (.int .u8 ((gB l i).toNat : Int)) := by
  simp [c8, gB, List.getD, List.getElem?_eq_getElem h, byteV]
theorem c8_size (l : List UInt8) : (c8 l).size = l.length := by simp [c8]
theorem schedTo_length (b : List UInt8) (n : Nat) : (schedTo b n).length = n := by
  induction n with
  | zero => rfl
  | succ n ih => simp [schedTo, ih]

theorem Tryz.sizeW : (Tryz.prog.info? 250).map (·.size) = some 64 := by kernel_rfl
theorem one_w (l : List UInt32) (n : Nat) : (cW n l).all (·.oneCell') = true := by
  rw [cW, ← Array.all_toList]
  simp [List.all_append, w32V, Value.oneCell']

theorem heap3 (w : World) (a b c : Obj) : (((w.alloc a).alloc b).alloc c).heap[w.heap.size]? = some a ∧ (((w.alloc a).alloc b).alloc c).heap[w.heap.size + 1]? = some b ∧ (((w.alloc a).alloc b).alloc c).heap[w.heap.size + 1 + 1]? = some c := by
  refine ⟨?_, ?_, ?_⟩
  · simp only [World.alloc]; rw [Array.getElem?_push, if_neg (by simp; try omega), Array.getElem?_push, if_neg (by simp; try omega), Array.getElem?_push, if_pos rfl]
  · simp only [World.alloc]; rw [Array.getElem?_push, if_neg (by simp), Array.getElem?_push, if_pos (by simp)]
  · simp only [World.alloc]; rw [Array.getElem?_push, if_pos (by simp)]
theorem word_val (a b c d : UInt8) : bits BinOp.or IntKind.u32 (bits BinOp.or IntKind.u32 (bits BinOp.or IntKind.u32 (IntKind.u32.wrap (IntKind.u32.wrap (a.toNat : Int) * 2 ^ 24)) (IntKind.u32.wrap (IntKind.u32.wrap (b.toNat : Int) * 2 ^ 16))) (IntKind.u32.wrap (IntKind.u32.wrap (c.toNat : Int) * 2 ^ 8))) (IntKind.u32.wrap (d.toNat : Int)) = ((word32 a b c d).toNat : Int) := by
  have e : ∀ x : UInt8, IntKind.u32.wrap (x.toNat : Int) = (x.toUInt32.toNat : Int) := fun x => by
    rw [IntKind.wrap_u32', UInt8.toNat_toUInt32]; have := x.toNat_lt; omega
  rw [e, e, e, e, shl_t _ 24 (by omega), shl_t _ 16 (by omega), shl_t _ 8 (by omega), u32_or_t, u32_or_t, u32_or_t]
  rfl
/-- A drawn region of reads and quiet calls with a tail: in a world with a name. -/
theorem still_tail_w {P : Program} {id : Nat} {Q : Exit → Act → World → Prop} {a : Act} {w : World} {l : List Oper} (n : Nat) (hm : P.follows .mixedOrders = true) (hB : Region.lexTailB .any l.toArray n = true)
    (h : ∀ w2, w2 = w.drew → wpStill P l.toArray w2 (fun a' => wpList P l.toArray Q (l.drop n) a' w2) (l.take n) a) : (Code.region id l.toArray true).wp P Q a w :=
  wp_region_still_tail n hm hB (h _ rfl)
theorem cW_size_s (b : List UInt8) (n : Nat) (h : n ≤ 64) : (cW 64 (schedTo b n)).size = 64 := cW_size _ _ (by rw [schedTo_length]; exact h)
theorem Tryz.sizeS (b : List UInt8) (n : Nat) (h : n ≤ 64) : (Tryz.prog.info? 250).map (·.size) = some (cW 64 (schedTo b n)).size := by rw [cW_size_s b n h]; exact Tryz.sizeW
theorem word_val' (a b c d : UInt8) : bits BinOp.or IntKind.u32 (bits BinOp.or IntKind.u32 (bits BinOp.or IntKind.u32 ((a.toNat : Int) % 4294967296 * 16777216 % 4294967296) ((b.toNat : Int) % 4294967296 * 65536 % 4294967296)) ((c.toNat : Int) % 4294967296 * 256 % 4294967296)) ((d.toNat : Int) % 4294967296) = ((word32 a b c d).toNat : Int) := by
  have h := word_val a b c d
  rw [show (2 : Int) ^ 24 = 16777216 from rfl, show (2 : Int) ^ 16 = 65536 from rfl, show (2 : Int) ^ 8 = 256 from rfl] at h
  simpa only [IntKind.wrap_u32'] using h
theorem u32_add_t' (x y : UInt32) : ((x.toNat : Int) + (y.toNat : Int)) % 4294967296 = ((x + y).toNat : Int) := by
  have h := u32_add_t x y
  rwa [IntKind.wrap_u32'] at h
theorem sched_put1 (b : List UInt8) (n : Nat) (h : n < 16) :
    (cW 64 (schedTo b n)).setIfInBounds n (.int .u32 (bits BinOp.or IntKind.u32 (bits BinOp.or IntKind.u32 (bits BinOp.or IntKind.u32 (((gB b (4 * n)).toNat : Int) % 4294967296 * 16777216 % 4294967296) (((gB b (4 * n + 1)).toNat : Int) % 4294967296 * 65536 % 4294967296)) (((gB b (4 * n + 2)).toNat : Int) % 4294967296 * 256 % 4294967296)) (((gB b (4 * n + 3)).toNat : Int) % 4294967296))) = cW 64 (schedTo b (n + 1)) := by
  rw [word_val']
  have := cW_set 64 (schedTo b n) (nextW b (schedTo b n) n) (by rw [schedTo_length]; omega)
  rw [schedTo_length] at this
  rw [schedTo, ← this, nextW, if_pos h]
  rfl
theorem sched_put2 (b : List UInt8) (n : Nat) (h : 16 ≤ n) (h2 : n < 64) :
    (cW 64 (schedTo b n)).setIfInBounds n (.int .u32 (((((((smlF (gW (schedTo b n) (n - 2)) 17 19 10).toNat : Int) + ((gW (schedTo b n) (n - 7)).toNat : Int)) % 4294967296) + ((smlF (gW (schedTo b n) (n - 15)) 7 18 3).toNat : Int)) % 4294967296 + ((gW (schedTo b n) (n - 16)).toNat : Int)) % 4294967296)) = cW 64 (schedTo b (n + 1)) := by
  rw [u32_add_t', u32_add_t', u32_add_t']
  have := cW_set 64 (schedTo b n) (nextW b (schedTo b n) n) (by rw [schedTo_length]; omega)
  rw [schedTo_length] at this
  rw [schedTo, ← this, nextW, if_neg (by omega)]
  rfl
/-- What a cell holds, whatever it is. -/
def cellAt (w : World) (p : Addr) : Value := (w.cell? p).getD undef
theorem cellAt_eq {w : World} {p : Addr} {v : Value} (h : w.cell? p = some v) : w.cell? p = some (cellAt w p) := by rw [cellAt, h]; rfl
theorem cell_near {w : World} {b n m : Nat} {v u : Value} (h : w.cell? ⟨b, m, none⟩ = some u) (hn : n ≠ m) : (w.setCell ⟨b, n, none⟩ v).cell? ⟨b, m, none⟩ = some u := by
  rw [World.cell?_setCell_other]
  · exact h
  · intro e; exact hn (congrArg Addr.off e)
theorem near6 {w : World} {B n a b c d : Nat} {va vb vc vd : Value} (k : Nat) (V : Value) (ka : w.cell? ⟨B, a, none⟩ = some va) (kb : w.cell? ⟨B, b, none⟩ = some vb) (kc : w.cell? ⟨B, c, none⟩ = some vc) (kd : w.cell? ⟨B, d, none⟩ = some vd)
    (kf : w.frozen? ⟨B, n, none⟩ = false) (ks : w.cell? ⟨B, n, none⟩ = some (cellAt w ⟨B, n, none⟩)) (da : ¬ n = a) (db : ¬ n = b) (dc : ¬ n = c) (dd : ¬ n = d) :
    ((w.drewN k).setCell ⟨B, n, none⟩ V).cell? ⟨B, a, none⟩ = some va ∧ ((w.drewN k).setCell ⟨B, n, none⟩ V).cell? ⟨B, b, none⟩ = some vb ∧ ((w.drewN k).setCell ⟨B, n, none⟩ V).cell? ⟨B, c, none⟩ = some vc ∧ ((w.drewN k).setCell ⟨B, n, none⟩ V).cell? ⟨B, d, none⟩ = some vd ∧
    ((w.drewN k).setCell ⟨B, n, none⟩ V).frozen? ⟨B, n, none⟩ = false ∧ ((w.drewN k).setCell ⟨B, n, none⟩ V).cell? ⟨B, n, none⟩ = some (cellAt ((w.drewN k).setCell ⟨B, n, none⟩ V) ⟨B, n, none⟩) :=
  ⟨cell_near (w := w.drewN k) ka da, cell_near (w := w.drewN k) kb db, cell_near (w := w.drewN k) kc dc, cell_near (w := w.drewN k) kd dd, by rw [World.frozen?_setCell]; exact kf, cellAt_eq (World.cell?_setCell_same (w.drewN k) ⟨B, n, none⟩ V (u := cellAt w ⟨B, n, none⟩) ks)⟩
end
end Go.Proofs.YtmclmccgghnglaaGreat
