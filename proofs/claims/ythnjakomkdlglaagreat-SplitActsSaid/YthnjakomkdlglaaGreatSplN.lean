/- Law 34: acts, what is set; SplitNone. No condition. -/
import Derived.Test.YthnjakomkdlglaaGreatSplB
import Derived.Test.YthnjakomkdlglaaGreatDelX
import Derived.Deep.Cut
namespace Go.Proofs.YthnjakomkdlglaaGreat
open Go.RowKit

/-- tallagelaw34.Act, read. -/
structure Act34 where
  o : Int
  sv : Int
  bp : Int
  b : Int
  wt : Int
def act34E (a : Act34) : List Value := [.int .i64 a.o, .int .i64 a.sv, .int .i64 a.bp, .int .i64 a.b, .int .i64 a.wt]
theorem act34E_len (a : Act34) : (act34E a).length = 5 := rfl
structure Good34 (w : World) (a : Act34) : Prop where
  b_o : -9223372036854775808 ≤ a.o ∧ a.o < 9223372036854775808
  b_sv : -9223372036854775808 ≤ a.sv ∧ a.sv < 9223372036854775808
  b_bp : -9223372036854775808 ≤ a.bp ∧ a.bp < 9223372036854775808
  b_b : -9223372036854775808 ≤ a.b ∧ a.b < 9223372036854775808
  b_wt : -9223372036854775808 ≤ a.wt ∧ a.wt < 9223372036854775808
theorem Good34.later {w w' : World} {a : Act34} (h : Good34 w a) (_hb : Below w.heap.size w w') : Good34 w' a := ⟨h.b_o, h.b_sv, h.b_bp, h.b_b, h.b_wt⟩
theorem Rd.act34 {w : World} {ad : Option Addr} {n cap : Nat} {t : List Act34} (h : Rd w act34E 5 (.slice ad n cap) t) (i : Nat) (hi : i < t.length) :
    ∃ g off, ad = some ⟨g, off, none⟩ ∧ g < w.heap.size ∧ w.cell? ⟨g, off + i * 5, none⟩ = some (.int .i64 t[i].o) ∧ w.cell? ⟨g, off + i * 5 + 1, none⟩ = some (.int .i64 t[i].sv) ∧ w.cell? ⟨g, off + i * 5 + 2, none⟩ = some (.int .i64 t[i].bp) ∧ w.cell? ⟨g, off + i * 5 + 3, none⟩ = some (.int .i64 t[i].b) ∧ w.cell? ⟨g, off + i * 5 + 4, none⟩ = some (.int .i64 t[i].wt) := by
  have hne : t ≠ [] := by rintro rfl; simp at hi
  obtain ⟨ax, cx, e3, _, _, h3⟩ := h
  obtain ⟨b, off, e4, hb, h5⟩ := h3 hne
  exact ⟨b, off, (Value.slice.inj e3).1.trans e4, hb, h5 i hi 0 (by decide), h5 i hi 1 (by decide), h5 i hi 2 (by decide), h5 i hi 3 (by decide), h5 i hi 4 (by decide)⟩
theorem Tryz.zeroAct34 (w : World) : (zeroValue 80).run Tryz.prog w = .ok (.agg #[.int .i64 0, .int .i64 0, .int .i64 0, .int .i64 0, .int .i64 0]) w := by kernel_rfl
theorem Tryz.sizeAct34 : (Tryz.prog.info? 80).map (·.size) = some 5 := by kernel_rfl
theorem litA34 (w : World) (a : Act34) : Rd (w.alloc (.cells #[.int .i64 a.o, .int .i64 a.sv, .int .i64 a.bp, .int .i64 a.b, .int .i64 a.wt] 80)) act34E 5 (.slice (some ⟨w.heap.size, 0, none⟩) 1 1) [a] := by
  refine ⟨_, 1, rfl, Nat.le_refl _, (by unfold maxLen; decide), fun _ => ⟨_, 0, rfl, by rw [World.size_alloc]; omega, fun i hi j hj => ?_⟩⟩
  have h := heap_alloc_new w (.cells #[.int .i64 a.o, .int .i64 a.sv, .int .i64 a.bp, .int .i64 a.b, .int .i64 a.wt] 80)
  simp only [List.length_singleton] at hi
  obtain rfl : i = 0 := by omega
  match j, hj with
  | 0, _ => exact Lib.cell_of_heap h 0
  | 1, _ => exact Lib.cell_of_heap h 1
  | 2, _ => exact Lib.cell_of_heap h 2
  | 3, _ => exact Lib.cell_of_heap h 3
  | 4, _ => exact Lib.cell_of_heap h 4

/-- Which part is usual, or set. -/
def getSp (f : Txt → Option Txt) (a b q : Int) : Int := if (settleD (getD f 41 [a, b]) q).has then (settleD (getD f 41 [a, b]) q).now else 1000
def I6 (n : Int) : Prop := -9223372036854775808 ≤ n ∧ n < 9223372036854775808

set_option maxHeartbeats 4000000 in
set_option maxRecDepth 100000 in
theorem splget_any {w : World} {x : Option Addr} {m : Bool} {f : Txt → Option Txt} (h : Look w x m f) (hf : FitF f) {a b q : Int} (ha : I6 a) (hb : I6 b) : Calls Tryz.prog 46 #[.pointer x, .int .i64 a, .int .i64 b, .int .i64 q] w (Ret w (.int .i64 (getSp f a b q))) := by
  have H := Lib.hid h; have HF := Lib.hid hf; have HA := Lib.hid (And.intro ha hb)
  obtain ⟨v, hv⟩ : ∃ v, v = getD f 41 [a, b] := ⟨_, rfl⟩
  obtain ⟨u, hu⟩ : ∃ u, u = settleD v q := ⟨_, rfl⟩
  have HG : Hid (getSp f a b q = if u.has then u.now else 1000) := Lib.hid (by unfold getSp; rw [← hv, ← hu])
  have HV := Lib.hid hv; have HU := Lib.hid hu
  clear h hf ha hb hv hu
  have HB : Hid (Below w.heap.size w w) := Lib.hid (Below.refl _ _)
  go_enter Tryz.func46, Tryz.ntmps46
  go_wp2_with fail
  obtain ⟨a1, hwl⟩ : ∃ wl, wl = World.alloc w (.cells #[.int .i64 a, .int .i64 b] 3) := ⟨_, rfl⟩
  obtain ⟨gl, hgl⟩ : ∃ gl, gl = (World.heap w).size := ⟨_, rfl⟩
  rw [← hwl, ← hgl]
  have HOIz : Hid (Own a1 0 3 intE 1 (.slice (some ⟨gl, 0, none⟩) 2 2) [a, b]) := Lib.hid (own_lit (l := [a, b]) (by rw [hwl, hgl]; exact heap_alloc_new _ _) (Nat.zero_le _) (by unfold maxLen; simp))
  have hb : Below (World.heap w).size w a1 := by rw [hwl]; exact below_new _ _
  clear hwl hgl
  have HBm := Lib.hid (HB.out.trans (hb.mono HB.out.size))
  clear hb HB
  have HB := HBm
  clear HBm
  have HOI := HOIz
  clear HOIz
  refine (dget_any (H.out.later HB.out) HF.out 41 (ids := [a, b]) (by simp) (I64s.two HA.out.1 HA.out.2) (HOI.out.rd fun _ => rfl)).mono ?_
  rw [← HV.out]
  rintro e a2 ⟨rfl, hb⟩
  have HBm := Lib.hid (HB.out.trans (hb.mono HB.out.size))
  have HOIm := Lib.hid (HOI.out.later hb)
  clear hb HB HOI
  have HB := HBm
  have HOI := HOIm
  clear HBm HOIm
  clear HOI
  rw [show dvC v = #[.bool v.has, .int .i64 v.now, .int .i64 v.next, .int .i64 v.at_, .bool v.more] from rfl]
  go_wp2_with fail
  refine (dof_any v q _).mono ?_
  rw [← HU.out]
  rintro e a3 ⟨rfl, hb⟩
  have HBm := Lib.hid (HB.out.trans (hb.mono HB.out.size))
  clear hb HB
  have HB := HBm
  clear HBm
  clear HU
  obtain ⟨uh, un, u3, u4, u5⟩ := u
  cases uh with
  | false =>
    go_wp2_with fail
    go_ret
    exact ⟨by rw [HG.out]; rfl, HB.out⟩
  | true =>
    go_wp2_with fail
    go_ret
    exact ⟨by rw [HG.out]; rfl, HB.out⟩

def nf0 : Txt → Option Txt := fun _ => none
theorem getSp_nf0 (a b q : Int) : getSp nf0 a b q = 1000 := by
  have h : getD nf0 41 [a, b] = DV.zero := by
    unfold getD valF nf0
    show readD (rowF []) = DV.zero
    rw [rowF_nil]
    rfl
  unfold getSp
  rw [h]
  unfold settleD DV.zero
  simp
theorem Tryz.idxNt0 (p q : Value) (w : World) : (Instr.index 66 (.agg #[p, q]) (.int .i64 0)).run Tryz.prog w = .ok p w := by kernel_rfl
theorem Tryz.idxNt1 (p q : Value) (w : World) : (Instr.index 66 (.agg #[p, q]) (.int .i64 1)).run Tryz.prog w = .ok q w := by kernel_rfl

set_option maxHeartbeats 4000000 in
theorem splset_not {w : World} {x : Option Addr} (h : NotMade w x) (a b c d e : Int) : Calls Tryz.prog 44 #[.pointer x, .int .i64 a, .int .i64 b, .int .i64 c, .int .i64 d, .int .i64 e] w (Ret w (.int .i64 1)) := by
  have HN := Lib.hid h
  clear h
  go_enter Tryz.func44, Tryz.ntmps44
  go_wp2_with fail
  refine (smade_not HN.out).mono ?_
  rintro e _ ⟨rfl, rfl⟩
  go_wp2_with fail
  go_ret
  exact ⟨rfl, Below.refl _ _⟩

end Go.Proofs.YthnjakomkdlglaaGreat
