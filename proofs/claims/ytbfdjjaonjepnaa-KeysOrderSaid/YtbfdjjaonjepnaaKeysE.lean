/- keys.Amount, ToAmount, and the answers of Nums and Parse in one shape: their contracts. -/
import Derived.Test.YtbfdjjaonjepnaaAmtB
namespace Go.Proofs.Ytbfdjjaonjepnaa
open Go.RowKit

def numsR (l : List UInt8) : List Int × Bool := match numsF l with | some xs => (xs, true) | none => ([], false)
def parseR (l : List UInt8) : Int × List Int × Bool := match parseF l with | some (t, xs) => (t, xs, true) | none => (0, [], false)
/-- What Nums answers, in one shape. -/
def NumsGives (w : World) (l : List UInt8) (e : Ending) (w' : World) : Prop :=
  ∃ v, e = .returned (.tuple #[v, .bool (numsR l).2]) ∧ Rd w' intE 1 v (numsR l).1 ∧ Below w.heap.size w w'
def ParseGives (w : World) (l : List UInt8) (e : Ending) (w' : World) : Prop :=
  ∃ v, e = .returned (.tuple #[.int .i64 (parseR l).1, v, .bool (parseR l).2.2]) ∧ Rd w' intE 1 v (parseR l).2.1 ∧ Below w.heap.size w w'
theorem gives_of_says {w w' : World} {l : List UInt8} {e : Ending} (h : NumsSays w l e w') : NumsGives w l e w' := by
  obtain ⟨hb, h⟩ := h
  unfold NumsGives numsR
  split at h
  · rename_i xs hx; obtain ⟨v, rfl, ho⟩ := h; rw [hx]; exact ⟨v, rfl, ho.rd (fun _ => rfl), hb⟩
  · rename_i hx; subst h; rw [hx]; exact ⟨_, rfl, Rd.nil _ _ _, hb⟩
theorem pgives_of_says {w w' : World} {l : List UInt8} {e : Ending} (h : ParseSays w l e w') : ParseGives w l e w' := by
  obtain ⟨hb, h⟩ := h
  unfold ParseGives parseR
  split at h
  · rename_i t xs hx; obtain ⟨v, rfl, ho⟩ := h; rw [hx]; exact ⟨v, rfl, ho.rd (fun _ => rfl), hb⟩
  · rename_i hx; subst h; rw [hx]; exact ⟨_, rfl, Rd.nil _ _ _, hb⟩

/-- The amount of a text of 32 bytes; else 0. -/
def uArr (l : List UInt8) : Array Value := if l.length = 32 then #[.int .u64 (wd l 0), .int .u64 (wd l 1), .int .u64 (wd l 2), .int .u64 (wd l 3)] else u0
theorem uArr_size (l : List UInt8) : (uArr l).size = 4 := by unfold uArr; split <;> rfl
theorem uArr_info (l : List UInt8) : (Try.prog.info? 34).map (·.size) = some (uArr l).size := by rw [uArr_size]; exact Try.sizeU
theorem uArr_one (l : List UInt8) : (uArr l).all (·.oneCell') = true := by unfold uArr; split <;> simp [Value.oneCell', u0]
theorem uArr_lit (l : List UInt8) : ∃ a b c d : Int, uArr l = #[.int .u64 a, .int .u64 b, .int .u64 c, .int .u64 d] := by
  unfold uArr; split
  · exact ⟨_, _, _, _, rfl⟩
  · exact ⟨_, _, _, _, rfl⟩
theorem uArr_yes {l : List UInt8} (h : l.length = 32) : Value.agg (uArr l) = uOf l := by unfold uArr uOf uV; rw [if_pos h]
theorem uArr_no {l : List UInt8} (h : l.length ≠ 32) : uArr l = u0 := by unfold uArr; rw [if_neg h]

theorem fromBytes_any (l : List UInt8) (v : Value) (w : World) (hv : Rd w u8E 1 v l) :
    Calls Try.prog 74 #[v] w (Ret w (.tuple #[.agg (uArr l), .bool (decide (l.length = 32))])) := by
  by_cases h : l.length = 32
  · rw [uArr_yes h, decide_eq_true h]; exact fromBytes_yes l v w h hv
  · rw [uArr_no h, decide_eq_false h]; exact fromBytes_no l v w h hv
theorem refFromBytes_any (l : List UInt8) (v : Value) (w : World) (hv : Rd w u8E 1 v l) :
    Calls Try.prog 75 #[v] w (Ret w (.tuple #[.agg (uArr l), .bool (decide (l.length = 32))])) := by
  by_cases h : l.length = 32
  · rw [uArr_yes h, decide_eq_true h]; exact refFromBytes_yes l v w h hv
  · rw [uArr_no h, decide_eq_false h]; exact refFromBytes_no l v w h hv

set_option maxHeartbeats 1000000 in
theorem toAmount_any (s : ByteArray) (w : World) (hs : s.size ≤ 1000000000) :
    Calls Try.prog 25 #[.string s] w (Ret w (.tuple #[.agg (uArr s.data.toList), .bool (decide (s.size = 32))])) := by
  have hdl : Hid (s.data.toList.length = s.size) := by unfold Hid; simp
  go_enter Try.func25, Try.ntmps25
  go_wp2_with (first | (refine wp_bytes rfl _ _ _ rfl Try.underlying9 Try.underlying43 Try.underlying5 s rfl (by omega) ?_; intro ad cap w1 hrd hb1 hcap) | fail)
  have hz1 := hb1.size
  have hd1 : w1.heap[w.heap.size]? = some (.cells u0 34 (0, 0)) := (hb1.block _ (by simp)).trans (heap_alloc_new _ _)
  refine (fromBytes_any _ _ _ hrd).mono ?_
  rintro e w2 ⟨rfl, hb2⟩
  rw [hdl.out]
  have hd2 : w2.heap[w.heap.size]? = some (.cells u0 34 (0, 0)) := (hb2.block _ (by simp at hz1; omega)).trans hd1
  have hb : Below w.heap.size w w2 := (((Below.refl _ _).alloc (Nat.le_refl _) _).trans (hb1.mono (by simp))).trans (hb2.mono (by simp at hz1; omega))
  clear hd1 hb1 hb2 hrd
  go_wp2_with (refine wpList_store_row (t := 34) (old := u0) rfl 34 (.tmp 2) _ rfl w.heap.size (uArr s.data.toList) rfl rfl hd2 (uArr_info _) (by rw [uArr_size]; rfl) (uArr_one _) ?_)
  refine bodyPost_ret (res_row_tmp rfl _ _ w.heap.size _ (uArr s.data.toList) _ _ rfl (setRow_heap _ _ _ _ _ _ hd2) Try.underlying34 rfl (uArr_info _)) rfl ⟨rfl, below_setRow hb (Nat.le_refl _) _⟩

set_option maxHeartbeats 1000000 in
theorem refToAmount_any (s : ByteArray) (w : World) (hs : s.size ≤ 1000000000) :
    Calls Try.prog 26 #[.string s] w (Ret w (.tuple #[.agg (uArr s.data.toList), .bool (decide (s.size = 32))])) := by
  have hdl : Hid (s.data.toList.length = s.size) := by unfold Hid; simp
  go_enter Try.func26, Try.ntmps26
  go_wp2_with (first | (refine wp_bytes rfl _ _ _ rfl Try.underlying9 Try.underlying43 Try.underlying5 s rfl (by omega) ?_; intro ad cap w1 hrd hb1 hcap) | fail)
  have hz1 := hb1.size
  have hd1 : w1.heap[w.heap.size]? = some (.cells u0 34 (0, 0)) := (hb1.block _ (by simp)).trans (heap_alloc_new _ _)
  refine (refFromBytes_any _ _ _ hrd).mono ?_
  rintro e w2 ⟨rfl, hb2⟩
  rw [hdl.out]
  have hd2 : w2.heap[w.heap.size]? = some (.cells u0 34 (0, 0)) := (hb2.block _ (by simp at hz1; omega)).trans hd1
  have hb : Below w.heap.size w w2 := (((Below.refl _ _).alloc (Nat.le_refl _) _).trans (hb1.mono (by simp))).trans (hb2.mono (by simp at hz1; omega))
  clear hd1 hb1 hb2 hrd
  go_wp2_with (refine wpList_store_row (t := 34) (old := u0) rfl 34 (.tmp 2) _ rfl w.heap.size (uArr s.data.toList) rfl rfl hd2 (uArr_info _) (by rw [uArr_size]; rfl) (uArr_one _) ?_)
  refine bodyPost_ret (res_row_tmp rfl _ _ w.heap.size _ (uArr s.data.toList) _ _ rfl (setRow_heap _ _ _ _ _ _ hd2) Try.underlying34 rfl (uArr_info _)) rfl ⟨rfl, below_setRow hb (Nat.le_refl _) _⟩


theorem I64s_sub {l m : List Int} (h : I64s l) (hm : ∀ x ∈ m, x ∈ l) : I64s m := fun x hx => h x (hm x hx)

set_option maxHeartbeats 1000000 in
set_option maxRecDepth 100000 in
theorem amount_any (a0 a1 a2 a3 : Int) (w : World) (h0 : 0 ≤ a0) (h0' : a0 < 18446744073709551616) (h1 : 0 ≤ a1) (h1' : a1 < 18446744073709551616) (h2 : 0 ≤ a2) (h2' : a2 < 18446744073709551616) (h3 : 0 ≤ a3) (h3' : a3 < 18446744073709551616) :
    Calls Try.prog 32 #[uV a0 a1 a2 a3] w (Ret w (.string (bs (ubytes (w4 a0 a1 a2 a3))))) := by
  unfold uV
  go_enter Try.func32, Try.ntmps32
  go_wp2_with fail
  refine (bytes_any a0 a1 a2 a3 _ h0 h0' h1 h1' h2 h2' h3 h3').mono ?_
  rintro e w1 ⟨v, rfl, hown, hb⟩
  have hcv := rd_conv (dst := 9) Try.underlying43 Try.underlying5 Try.underlying9 (hown.rd (fun _ => rfl))
  go_wp2
  go_ret
  exact ⟨rfl, ((Below.refl _ _).alloc (Nat.le_refl _) _).trans (hb.mono (by simp))⟩

theorem key12 : bs (keyF 1 [2]) = { data := #[1, 0, 0, 0, 0, 0, 0, 0, 2] } := congrArg bs (show keyF 1 [2] = [1, 0, 0, 0, 0, 0, 0, 0, 2] by decide +kernel)

set_option maxHeartbeats 1000000 in
theorem lives09_any (w : World) : Calls Try.prog 18 #[] w (Ret w (.bool true)) := by
  have hz : Hid (parseF [0, 0, 0, 0, 0, 0, 0, 0, 0] = none) := rfl
  go_enter Try.func18, Try.ntmps18
  go_wp2_with fail
  refine (parse_any _ _ (by decide)).mono ?_
  rintro e w1 ⟨hb, hsay⟩
  rw [show ({ data := #[0, 0, 0, 0, 0, 0, 0, 0, 0] } : ByteArray).data.toList = [0, 0, 0, 0, 0, 0, 0, 0, 0] from rfl, hz.out] at hsay
  subst hsay
  go_wp2_with fail
  refine (key_any 1 [2] _ _ (by simp) (fun x hx => by simp at hx; omega) (rd_new1 _ intE (fun _ => rfl) _ [2] _ 1 rfl (by omega) rfl)).mono ?_
  rintro e w2 ⟨rfl, hb2⟩
  rw [key12]
  go_wp2
  go_ret
  exact ⟨rfl, (hb.alloc hb.size _).trans (hb2.mono (by have := hb.size; simp; omega))⟩
end Go.Proofs.Ytbfdjjaonjepnaa
