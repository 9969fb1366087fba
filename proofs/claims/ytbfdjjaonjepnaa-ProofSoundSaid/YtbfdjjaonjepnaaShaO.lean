/- tallagelaw05.lives. -/
import Derived.Test.YtbfdjjaonjepnaaShaL
import Derived.Lib.SlBytesConst
namespace Go.Proofs.Ytbfdjjaonjepnaa
open Go.RowKit

def abcT : List UInt8 := [98, 97, 55, 56, 49, 54, 98, 102, 56, 102, 48, 49, 99, 102, 101, 97, 52, 49, 52, 49, 52, 48, 100, 101, 53, 100, 97, 101, 50, 50, 50, 51, 98, 48, 48, 51, 54, 49, 97, 51, 57, 54, 49, 55, 55, 97, 57, 99, 98, 52, 49, 48, 102, 102, 54, 49, 102, 50, 48, 48, 49, 53, 97, 100]
theorem abc_hex : hexF (shaF [97, 98, 99]) = abcT := by rw [sha_abc]; decide

/-- A new row of elements of one cell, marked or not. -/
theorem rd_newf {α : Type} (w : World) (enc : α → List Value) (he : ∀ x, (enc x).length = 1) (e : TypeId) (l : List α) (cs : Array Value) (fr : Nat × Nat) (n : Nat) (hn : n = l.length) (hm : n ≤ 9223372036854775807) (hcs : cs.toList = l.flatMap enc) :
    Rd (w.alloc (.cells cs e fr)) enc 1 (.slice (some ⟨w.heap.size, 0, none⟩) n n) l := by
  subst hn
  refine ⟨_, _, rfl, Nat.le_refl _, by unfold maxLen; omega, fun _ => ⟨_, _, rfl, by simp, fun i hi j hj => ?_⟩⟩
  have h1 := flatMap_at enc 1 he l i hi j hj
  rw [← h1, ← hcs, Lib.cell_of_heap (heap_alloc_new w _)]
  simp
set_option maxRecDepth 100000 in
set_option maxHeartbeats 1000000 in
theorem lives_any (w : World) : Calls Try.prog 33 #[] w (Ret w (.bool true)) := by
  have heq : ((bs abcT).toList == abcT) = true := by
    rw [Lib.toList_data]; exact beq_self_eq_true _
  unfold abcT at heq
  have kc := fun (w : World) (C : Array Value) (n c : Nat) => Lib.run_convert_bytes_const (P := Try.prog) w 43 5 C n c Try.underlying43 Try.underlying5
  go_enter Try.func33, Try.ntmps33
  go_wp2_with fail
  refine (sha_any _ [97, 98, 99] _ (rd_newf w u8E (fun _ => rfl) 5 [97, 98, 99] #[.int .u8 97, .int .u8 98, .int .u8 99] _ 3 rfl (by omega) rfl) (by simp)).mono ?_
  rintro e w1 ⟨rfl, hb1⟩
  go_wp2_with fail
  refine (hex_any _ (shaF_length _) _).mono ?_
  rintro e w2 ⟨rfl, hb2⟩
  rw [abc_hex]
  unfold abcT at *
  have hbl : Below w.heap.size w w2 := ((Below.refl _ _).alloc (Nat.le_refl _) _).trans ((hb1.mono (by simp)).trans (hb2.mono (by have := hb1.size; simp at this; omega)))
  clear hb1 hb2
  go_wp2_with fail
  go_ret
  exact ⟨rfl, hbl⟩
end Go.Proofs.Ytbfdjjaonjepnaa
