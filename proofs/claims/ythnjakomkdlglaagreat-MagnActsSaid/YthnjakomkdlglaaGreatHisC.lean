/- Chapter 11: one history in a store of its own; acts, light, lives. No condition. -/
import Derived.Test.YthnjakomkdlglaaGreatHisB
import Derived.Deep.QuietTactic
import Derived.BigQuiet
import Derived.WalkSmall
namespace Go.Proofs.YthnjakomkdlglaaGreat
open Go.RowKit

/-- tallagelaw11.Push, read. -/
structure Act11 where
  idsd : Option Addr
  idsc : Nat
  ids : List Int
  b : Int
  m : Nat
def act11E (a : Act11) : List Value := [.slice a.idsd a.ids.length a.idsc, .int .i64 a.b, .int .u64 (uw0 a.m), .int .u64 (uw1 a.m), .int .u64 (uw2 a.m), .int .u64 (uw3 a.m)]
theorem act11E_len (a : Act11) : (act11E a).length = 6 := rfl
structure Good11 (w : World) (a : Act11) : Prop where
  rd_ids : Rd w intE 1 (.slice a.idsd a.ids.length a.idsc) a.ids
  i64_ids : I64s a.ids
  b_b : -9223372036854775808 ≤ a.b ∧ a.b < 9223372036854775808
  lt_m : a.m < uMax
theorem Good11.later {w w' : World} {a : Act11} (h : Good11 w a) (hb : Below w.heap.size w w') : Good11 w' a := ⟨h.rd_ids.later hb, h.i64_ids, h.b_b, h.lt_m⟩
theorem Rd.act11 {w : World} {ad : Option Addr} {n cap : Nat} {t : List Act11} (h : Rd w act11E 6 (.slice ad n cap) t) (i : Nat) (hi : i < t.length) :
    ∃ g off, ad = some ⟨g, off, none⟩ ∧ g < w.heap.size ∧ w.cell? ⟨g, off + i * 6, none⟩ = some (.slice t[i].idsd t[i].ids.length t[i].idsc) ∧ w.cell? ⟨g, off + i * 6 + 1, none⟩ = some (.int .i64 t[i].b) ∧ w.cell? ⟨g, off + i * 6 + 2, none⟩ = some (.int .u64 (uw0 t[i].m)) ∧ w.cell? ⟨g, off + i * 6 + 3, none⟩ = some (.int .u64 (uw1 t[i].m)) ∧ w.cell? ⟨g, off + i * 6 + 4, none⟩ = some (.int .u64 (uw2 t[i].m)) ∧ w.cell? ⟨g, off + i * 6 + 5, none⟩ = some (.int .u64 (uw3 t[i].m)) := by
  have hne : t ≠ [] := by rintro rfl; simp at hi
  obtain ⟨ax, cx, e3, _, _, h3⟩ := h
  obtain ⟨b, off, e4, hb, h5⟩ := h3 hne
  exact ⟨b, off, (Value.slice.inj e3).1.trans e4, hb, h5 i hi 0 (by decide), h5 i hi 1 (by decide), h5 i hi 2 (by decide), h5 i hi 3 (by decide), h5 i hi 4 (by decide), h5 i hi 5 (by decide)⟩
/-- A store that a law made, with one history in it. -/
structure HOne (w0 w : World) (g : Nat) (t : Int) (ids : List Int) (s : PS) (H : List (Int × Nat)) (n : Nat) : Prop where
  one : One w0 w g s
  fit : Fit s
  sz : s.sz ≤ 4 * n
  his : HisI (getP s.t) t ids H
  len : H.length ≤ n
theorem HOne.later {w0 w w' : World} {g : Nat} {t : Int} {ids : List Int} {s : PS} {H : List (Int × Nat)} {n : Nat} (h : HOne w0 w g t ids s H n) (hb : Below w.heap.size w w') : HOne w0 w' g t ids s H n := ⟨h.one.later hb, h.fit, h.sz, h.his, h.len⟩
theorem HOne.push {w0 w : World} {g : Nat} {t : Int} {ids : List Int} {s : PS} {H : List (Int × Nat)} {n : Nat} (h : HOne w0 w g t ids s H n) (hn : n ≤ 1000000) (hk : KeyOk t ids) {vi : Value} (hl : ids.length ≤ 1000000) {B0 : Nat} (hrd : Own w B0 3 intE 1 vi ids)
    {bk : Int} (hbk : -9223372036854775808 ≤ bk ∧ bk < 9223372036854775808) {a b c d : Int} {m : Nat} (hu : UIs a b c d m) :
    Calls Tryz.prog 68 #[.pointer (some ⟨g, 0, none⟩), .int .i64 t, vi, .int .i64 bk, .agg #[.int .u64 a, .int .u64 b, .int .u64 c, .int .u64 d]] w
      (fun e w' => e = .returned (.int .i64 (hisE H bk)) ∧ HOne w0 w' g t ids (hpushS s t ids bk m) (hisS H bk m) (n + 1) ∧ Oth w w') := by
  have hc := h.his.cnt
  have hln := h.len
  have hsz := h.sz
  refine (h.one.st fun F hs => hpush_any hs (by omega) h.fit t hl (fun x hx => by have := hk.2.2 x hx; exact ⟨by omega, by omega⟩) hrd hbk hu (by rw [hc]; omega)).mono ?_
  rintro e w' ⟨rfl, o, ho⟩
  rw [h.his.pushE hk bk]
  have h1 := sz_hpush s t ids bk m
  have h2 := hisS_len H bk m
  exact ⟨rfl, ⟨o, h.fit.hpush _ _ _ _, by omega, h.his.push hk (by omega) bk hu.lt, by omega⟩, ho⟩
/-- What it was at a block. -/
def AtH (w : World) (H : List (Int × Nat)) (bk : Int) (e : Ending) (w' : World) : Prop := ∃ a b c d : Int, UIs a b c d (((lookH H bk).map (·.2)).getD 0) ∧ e = .returned (.tuple #[.agg #[.int .u64 a, .int .u64 b, .int .u64 c, .int .u64 d], .bool (lookH H bk).isSome]) ∧ Below w.heap.size w w'
theorem hAtH {w : World} {x : Option Addr} {m : Bool} {f : Txt → Option Txt} (h : Look w x m f) (hf : FitF f) {t : Int} {ids : List Int} {vi : Value} {H : List (Int × Nat)} (hH : HisI f t ids H) (bk : Int) (hl : ids.length ≤ 1000000) (hi : I64s ids) (hrd : Rd w intE 1 vi ids) :
    Calls Tryz.prog 75 #[.pointer x, .int .i64 t, vi, .int .i64 bk] w (AtH w H bk) := by
  refine (hAt_any h hf t bk hl hi hrd hH.rises).mono ?_
  rintro e w' ⟨k, a, b, c, d, hk, hu, rfl, hb⟩
  obtain ⟨e1, e2⟩ := hH.look hk
  rw [e1] at hu
  rw [e2]
  exact ⟨a, b, c, d, hu, rfl, hb⟩
theorem HOne.at {w0 w : World} {g : Nat} {t : Int} {ids : List Int} {s : PS} {H : List (Int × Nat)} {n : Nat} (h : HOne w0 w g t ids s H n) {vi : Value} (bk : Int) (hl : ids.length ≤ 1000000) (hi : I64s ids) (hrd : Rd w intE 1 vi ids) :
    Calls Tryz.prog 75 #[.pointer (some ⟨g, 0, none⟩), .int .i64 t, vi, .int .i64 bk] w (AtH w H bk) := by
  obtain ⟨F, hs⟩ := h.one.get
  exact hAtH (Look.of_st hs) h.fit.f h.his bk hl hi hrd
theorem HOne.new {w0 w w' : World} {g : Nat} {F : List Nat} (h : St w' g PS.new F) (hF : ∀ x ∈ F, w.heap.size ≤ x) (hb : Below w.heap.size w w') (h0 : Below w0.heap.size w0 w) (t : Int) (ids : List Int) : HOne w0 w' g t ids PS.new [] 0 :=
  ⟨⟨F, h, fun x hx => Nat.le_trans h0.size (hF x hx), h0.trans (hb.mono h0.size)⟩, Fit.new, by decide, HisI.new _ _, Nat.le_refl _⟩
/-- What light says. -/
def Light11 (w : World) (l : List Act11) (e : Ending) (w' : World) : Prop := ∃ r : Bool, e = .returned (.bool r) ∧ (r = true → l.length ≤ 100 ∧ ∀ a ∈ l, a.ids.length ≤ 5) ∧ Below w.heap.size w w'

end Go.Proofs.YthnjakomkdlglaaGreat
