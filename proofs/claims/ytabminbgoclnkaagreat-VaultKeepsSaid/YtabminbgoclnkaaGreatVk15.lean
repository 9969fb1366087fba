/- Law 19: acts, read; the example. No condition. Vaults: what VaultKeeps keeps, plain. No condition. -/
import Derived.Test.YtabminbgoclnkaaGreatVkVauC
import Derived.Test.YtabminbgoclnkaaGreatVkVauP
namespace Go.Proofs.YtabminbgoclnkaaGreat
section
set_option maxHeartbeats 16000000
set_option maxRecDepth 100000
open Go.RowKit

structure Act19 where
 k : Int
 g : Int
 n : Int
 who : Int
 on : Bool
 m : Nat
def act19E (a : Act19) : List Value := [.int .i64 a.k, .int .i64 a.g, .int .i64 a.n, .int .i64 a.who, .bool a.on, .int .u64 (uw0 a.m), .int .u64 (uw1 a.m), .int .u64 (uw2 a.m), .int .u64 (uw3 a.m)]
theorem act19E_len (a : Act19) : (act19E a).length = 9 := rfl
structure Good19 (w : World) (a : Act19) : Prop where
 b_k : -9223372036854775808 ≤ a.k ∧ a.k < 9223372036854775808
 b_g : -9223372036854775808 ≤ a.g ∧ a.g < 9223372036854775808
 b_n : -9223372036854775808 ≤ a.n ∧ a.n < 9223372036854775808
 b_who : -9223372036854775808 ≤ a.who ∧ a.who < 9223372036854775808
 lt_m : a.m < uMax
theorem Good19.later {w w' : World} {a : Act19} (h : Good19 w a) (_hb : Below w.heap.size w w') : Good19 w' a := ⟨h.b_k, h.b_g, h.b_n, h.b_who, h.lt_m⟩
theorem Rd.act19 {w : World} {ad : Option Addr} {n cap : Nat} {t : List Act19} (h : Rd w act19E 9 (.slice ad n cap) t) (i : Nat) (hi : i < t.length) :
  ∃ g off, ad = some ⟨g, off, none⟩ ∧ g < w.heap.size ∧ w.cell? ⟨g, off + i * 9, none⟩ = some (.int .i64 t[i].k) ∧ w.cell? ⟨g, off + i * 9 + 1, none⟩ = some (.int .i64 t[i].g) ∧ w.cell? ⟨g, off + i * 9 + 2, none⟩ = some (.int .i64 t[i].n) ∧ w.cell? ⟨g, off + i * 9 + 3, none⟩ = some (.int .i64 t[i].who) ∧ w.cell? ⟨g, off + i * 9 + 4, none⟩ = some (.bool t[i].on) ∧ w.cell? ⟨g, off + i * 9 + 5, none⟩ = some (.int .u64 (uw0 t[i].m)) ∧ w.cell? ⟨g, off + i * 9 + 6, none⟩ = some (.int .u64 (uw1 t[i].m)) ∧ w.cell? ⟨g, off + i * 9 + 7, none⟩ = some (.int .u64 (uw2 t[i].m)) ∧ w.cell? ⟨g, off + i * 9 + 8, none⟩ = some (.int .u64 (uw3 t[i].m)) := by
 have hne : t ≠ [] := by rintro rfl; simp at hi
 obtain ⟨ax, cx, e3, _, _, h3⟩ := h; obtain ⟨b, off, e4, hb, h5⟩ := h3 hne
 exact ⟨b, off, (Value.slice.inj e3).1.trans e4, hb, h5 i hi 0 (by decide), h5 i hi 1 (by decide), h5 i hi 2 (by decide), h5 i hi 3 (by decide), h5 i hi 4 (by decide), h5 i hi 5 (by decide), h5 i hi 6 (by decide), h5 i hi 7 (by decide), h5 i hi 8 (by decide)⟩
theorem Tryz.zeroAct19 (w : World) : (zeroValue 35).run Tryz.prog w = .ok (.agg #[.int .i64 0, .int .i64 0, .int .i64 0, .int .i64 0, .bool false, .int .u64 0, .int .u64 0, .int .u64 0, .int .u64 0]) w := by kernel_rfl
theorem Tryz.sizeAct19 : (Tryz.prog.info? 35).map (·.size) = some 9 := by kernel_rfl
theorem one_cells {w w' w0 : World} {g : Nat} {s : PS} {X : Nat} {cs : Array Value} {T : TypeId} (h : One w0 w g s) (hX : w.heap[X]? = some (.cells cs T (0, 0))) (hT : stoKind (.cells cs T (0, 0)) = false) (hk : Keep (· = X) w w') (hw : w0.heap.size ≤ X) : One w0 w' g s := by
 obtain ⟨F, h1, h2, h3⟩ := h; refine ⟨F, h1.keep hk fun x hx e => ?_, h2, h3.trans (hk.below (B := w0.heap.size) (fun y hy e => by omega) h3.size)⟩; obtain ⟨o, ho, hs⟩ := h1.kind x hx; subst e; rw [hX] at ho
 cases ho
 rw [hT] at hs
 cases hs

theorem lives19_any (w : World) : Calls Tryz.prog 6 #[] w (Ret w (.bool true)) := by
 have a1 : newV (PS.new.mint 1 7 5000) 1 = 1 := by decide +kernel
 have a2 : newE (PS.new.mint 1 7 5000) 1 = 0 := by decide +kernel
 have a3 : depV ((PS.new.mint 1 7 5000).newS 1) 1 7 100 = 100 := by decide +kernel
 have a4 : depE ((PS.new.mint 1 7 5000).newS 1) 1 7 100 = 0 := by decide +kernel
 have a5 : donE (((PS.new.mint 1 7 5000).newS 1).dep 1 7 100) 1 7 1100 = 0 := by decide +kernel
 have a6 : worV (getP ((((PS.new.mint 1 7 5000).newS 1).dep 1 7 100).don 1 7 1100).t) 1 100 = 200 := by decide +kernel
 have u0' : Up PS.new.t := List.Pairwise.nil; obtain ⟨s1, hs1⟩ := nm (PS.new.mint 1 7 5000); obtain ⟨s2, hs2⟩ := nm (s1.newS 1); obtain ⟨s3, hs3⟩ := nm (s2.dep 1 7 100); obtain ⟨s4, hs4⟩ := nm (s3.don 1 7 1100); rw [← hs1] at a1 a2 a3 a4 a5 a6; rw [← hs2] at a3 a4 a5 a6; rw [← hs3] at a5 a6; rw [← hs4] at a6; have f1 : Fit s1 := by rw [hs1]; exact mint_fit Fit.new u0' _ _ _
 have f2 : Fit s2 := by rw [hs2]; exact newS_fit f1 _
 have f3 : Fit s3 := by rw [hs3]; exact dep_fit f2 _ _ _
 have f4 : Fit s4 := by rw [hs4]; exact don_fit f3 _ _ _
 have z1 : s1.sz ≤ 4 := by have h := mint_sz u0' 1 7 5000; rw [hs1]; exact h
 have z2 : s2.sz ≤ 8 := by have h := newS_sz s1 1; rw [hs2]; omega
 have z3 : s3.sz ≤ 14 := by have h := dep_sz s2 1 7 100; rw [hs3]; omega
 have A1 := hh a1; have A2 := hh a2; have A3 := hh a3; have A4 := hh a4; have A5 := hh a5; have A6 := hh a6; have S1 := hh hs1; have S2 := hh hs2; have S3 := hh hs3; have S4 := hh hs4; have F1 := hh f1; have F2 := hh f2; have F3 := hh f3; have F4 := hh f4; have Z1 := hh z1; have Z2 := hh z2; have Z3 := hh z3; clear a1 a2 a3 a4 a5 a6 u0' hs1 hs2 hs3 hs4 f1 f2 f3 f4 z1 z2 z3
 go_enter Tryz.func6, Tryz.ntmps6
 go_wp2_with fail; refine (snew_any _).mono ?_; rintro e w1 ⟨g, F, rfl, q1, hb3, q3⟩; have O : Hid (One w w1 g PS.new) := hh ⟨F, q1, q3, hb3⟩; clear q1 hb3 q3; go_wp2_with fail; refine (O.out.st fun F hs => mint_any hs (by rw [show PS.new.sz = 0 from rfl]; omega) Fit.new (t := 1) (n := 7) (by unfold I64; omega) (by unfold I64; omega) (m := 5000) (by unfold UIs; omega)).mono ?_; rw [← S1.out]; rintro e w2 ⟨rfl, o, _⟩; replace O := hh o; clear o; go_wp2_with fail; refine (O.out.st fun F hs => vnew_any hs (by have := Z1.out; omega) F1.out (t := 1) (by unfold I64; omega)).mono ?_; rw [A1.out, A2.out, ← S2.out]; rintro e w3 ⟨rfl, o, _⟩; replace O := hh o; clear o; go_wp2_with fail; refine (O.out.st fun F hs => vdeposit_any hs (by have := Z2.out; omega) F2.out (g := 1) (fr := 7) (by unfold I64; omega) (by unfold I64; omega) (m := 100) (by unfold UIs; omega)).mono ?_; rw [A3.out, A4.out, ← S3.out]; rintro e w4 ⟨rfl, o, _⟩; replace O := hh o; clear o
 go_wp2_with (refine sA _ Tryz.zeroUz ?_)
 intro X w5 hX; have WX := mGe hX O.out.below.size; have Om := hh (O.out.later hX.out.below); have HX := hh hX.out.cells; clear hX O; have O := Om; clear Om
 go_wp2_with (refine sR 25 #[.int .u64 (uw0 100), .int .u64 (uw1 100), .int .u64 (uw2 100), .int .u64 (uw3 100)] HX Tryz.sizeU ?_)
 intro w6 hx kx zx; have Om := hh (one_cells O.out HX.out rfl kx WX.out); clear O HX; have HX := hh hx; have O := Om; clear Om hx kx zx; go_wp2_with fail; refine (O.out.st fun F hs => vdonate_any hs (by have := Z3.out; omega) F3.out (g := 1) (fr := 7) (by unfold I64; omega) (by unfold I64; omega) (m := 1100) (by unfold UIs; omega)).mono ?_; rw [A5.out, ← S4.out]; rintro e w7 ⟨rfl, o, hoth⟩; have Om := hh o; have HXm := hh (hoth.2 X _ HX.out rfl rfl); clear o O HX hoth; have O := Om; have HX := HXm; clear Om HXm; have e7 := Tryz.eqUn (uw_is (show (100 : Nat) < uMax by decide)) (a' := 100) (b' := 0) (c' := 0) (d' := 0) (m := 100) (by unfold UIs; omega); rw [decide_eq_true rfl] at e7; have c0 : w7.cell? ⟨X, 0, none⟩ = some (.int .u64 (uw0 100)) := Lib.cell_of_heap HX.out 0; have c1 : w7.cell? ⟨X, 1, none⟩ = some (.int .u64 (uw1 100)) := Lib.cell_of_heap HX.out 1; have c2 : w7.cell? ⟨X, 2, none⟩ = some (.int .u64 (uw2 100)) := Lib.cell_of_heap HX.out 2; have c3 : w7.cell? ⟨X, 3, none⟩ = some (.int .u64 (uw3 100)) := Lib.cell_of_heap HX.out 3; go_wp2_with fail; clear e7 c0 c1 c2 c3; obtain ⟨F9, h9⟩ := O.out.get; refine (vworth_any (Look.of_st h9) F4.out.f (g := 1) (by unfold I64; omega) (n := 100) (by unfold UIs; omega)).mono ?_; rw [A6.out]; rintro e w8 ⟨ya, yb, yc, yd, hu, rfl, hb⟩; have e7 := Tryz.eqUn hu (a' := 200) (b' := 0) (c' := 0) (d' := 0) (m := 200) (by unfold UIs; omega); rw [decide_eq_true rfl] at e7; replace O := hh (O.out.later hb)
 clear hb hu h9; go_wp2_with fail; clear e7
 go_ret
 exact ⟨rfl, O.out.below⟩
end
section
open Go.RowKit

def four (v : Int) : Prop := v = 1 ∨ v = 3 ∨ v = 4 ∨ v = 6
structure MK (k : Txt) : Prop where
 ne : k ≠ []
 sup : k ≠ kSup 1
 inf : ∀ g, k ≠ kInf g
 cnt : k ≠ kCnt
 tot : ∀ g, k ≠ kTot g
 at_ : ∃ u : Int, four u ∧ ∀ v : Int, four v → (keyF v [1]).isPrefixOf k = decide (v = u)
structure NK (k : Txt) : Prop where
 ne : k ≠ []
 at_ : ∀ v : Int, four v → (keyF v [1]).isPrefixOf k = false
def T4 (t : Tab) : Nat := sumU (keyF 1 [1]) t + sumU (keyF 3 [1]) t + sumU (keyF 4 [1]) t + sumU (keyF 6 [1]) t
theorem MK_of {u : Int} {l : List Int} (hu : four u) (hl : ∀ x ∈ l, 0 ≤ x) : MK (keyF u (1 :: l)) := by
 have h1 : 1 ≤ u ∧ u ≤ 6 ∧ u ≠ 2 ∧ u ≠ 5 ∧ u ≠ 7 := by rcases hu with rfl | rfl | rfl | rfl <;> decide
 have hne : keyF u (1 :: l) ≠ [] := keyF_ne h1.1 (by omega) fun x hx => by
  rcases List.mem_cons.1 hx with rfl | hx
  ·decide
  ·exact hl x hx
 refine ⟨hne, keyF_apart h1.1 (by omega) (by decide) (by decide) h1.2.2.1 hne, fun g => keyF_apart h1.1 (by omega) (by decide) (by decide) h1.2.2.2.1 hne, keyF_apart h1.1 (by omega) (by decide) (by decide) h1.2.2.2.1 hne, fun g => keyF_apart h1.1 (by omega) (by decide) (by decide) h1.2.2.2.2 hne, u, hu, fun v hv => ?_⟩; have h2 : 1 ≤ v ∧ v ≤ 6 := by rcases hv with rfl | rfl | rfl | rfl <;> decide
 by_cases e : v = u
 ·subst e; rw [decide_eq_true rfl]
  exact key_begins h2.1 (by omega) (by decide) hl
 ·rw [decide_eq_false e]
  exact key_other h2.1 (by omega) h1.1 (by omega) (by decide) (by decide) hl (.inl e)
theorem NK_of {u j : Int} (h1 : 1 ≤ u) (h2 : u ≤ 255) (hu : ¬ four u) (hj : 0 ≤ j ∧ j < 9223372036854775808) : NK (keyF u [j]) := by
 refine ⟨keyF_ne h1 h2 fun x hx => by rw [List.mem_singleton.1 hx]; exact hj.1, fun v hv => ?_⟩; have h3 : 1 ≤ v ∧ v ≤ 6 := by rcases hv with rfl | rfl | rfl | rfl <;> decide
 exact key_other h3.1 (by omega) h1 h2 (by decide) hj (fun x hx => by cases hx) (.inl fun e => hu (e ▸ hv))
theorem MK_acc {n : Int} (h : 0 ≤ n) : MK (kAcc 1 n) := MK_of (.inl rfl) fun x hx => by rw [List.mem_singleton.1 hx]; exact h
theorem MK_stk {g : Int} (h : 0 ≤ g) : MK (kStk 1 g) := MK_of (.inr (.inr (.inr rfl))) fun x hx => by rw [List.mem_singleton.1 hx]; exact h
theorem MK_sink : MK (kSink 1) := MK_of (.inr (.inl rfl)) fun x hx => by cases hx
theorem NK_tot {g : Int} (h : 0 ≤ g) (h2 : g < 9223372036854775808) : NK (kTot g) := NK_of (by decide) (by decide) (by unfold four; decide) ⟨h, h2⟩
theorem NK_inf {g : Int} (h : 0 ≤ g) (h2 : g < 9223372036854775808) : NK (kInf g) := NK_of (by decide) (by decide) (by unfold four; decide) ⟨h, h2⟩
theorem NK_sup : NK (kSup 1) := NK_of (by decide) (by decide) (by unfold four; decide) (by decide)
theorem NK_cnt : NK kCnt := ⟨keyF_ne (by decide) (by decide) (fun x hx => by cases hx), fun v hv => by rcases hv with rfl | rfl | rfl | rfl <;> kernel_rfl⟩
theorem T4_money {s : PS} (hu : Up s.t) {k : Txt} (hk : MK k) {n : Nat} (hn : n < uMax) : T4 (s.setAmt k n).t + amtV (getP s.t) k = T4 s.t + n := by
 have a1 := sumU_setAmt (keyF 1 [1]) hu k hk.ne hn; have a3 := sumU_setAmt (keyF 3 [1]) hu k hk.ne hn; have a4 := sumU_setAmt (keyF 4 [1]) hu k hk.ne hn; have a6 := sumU_setAmt (keyF 6 [1]) hu k hk.ne hn; obtain ⟨u, hu', hv⟩ := hk.at_; rw [hv 1 (.inl rfl)] at a1; rw [hv 3 (.inr (.inl rfl))] at a3; rw [hv 4 (.inr (.inr (.inl rfl)))] at a4; rw [hv 6 (.inr (.inr (.inr rfl)))] at a6
 unfold T4
 rcases hu' with rfl | rfl | rfl | rfl <;> simp at a1 a3 a4 a6 <;> omega
theorem T4_ge {t : Tab} (hu : Up t) {k : Txt} (hk : MK k) : amtV (getP t) k ≤ T4 t := by
 obtain ⟨u, hu', hv⟩ := hk.at_; have h := sumU_ge hu ((hv u hu').trans (decide_eq_true rfl))
 unfold T4
 rcases hu' with rfl | rfl | rfl | rfl <;> omega
theorem T4_no {s : PS} (hu : Up s.t) {k : Txt} (hk : NK k) {n : Nat} (hn : n < uMax) : T4 (s.setAmt k n).t = T4 s.t := by
 have a1 := sumU_setAmt (keyF 1 [1]) hu k hk.ne hn; have a3 := sumU_setAmt (keyF 3 [1]) hu k hk.ne hn; have a4 := sumU_setAmt (keyF 4 [1]) hu k hk.ne hn; have a6 := sumU_setAmt (keyF 6 [1]) hu k hk.ne hn; rw [hk.at_ 1 (.inl rfl)] at a1; rw [hk.at_ 3 (.inr (.inl rfl))] at a3; rw [hk.at_ 4 (.inr (.inr (.inl rfl)))] at a4; rw [hk.at_ 6 (.inr (.inr (.inr rfl)))] at a6
 simp at a1 a3 a4 a6
 unfold T4
 omega
theorem sumU_set {s : PS} (hu : Up s.t) {b k : Txt} (v : Txt) (hb : b.isPrefixOf k = false) : sumU b (s.set k v).t = sumU b s.t := by
 unfold PS.set; split
 ·rfl
 ·have := sumU_ins b hu k v; rw [hb] at this
  simp at this
  exact this
theorem sumU_delS {s : PS} (hu : Up s.t) {b k : Txt} (hb : b.isPrefixOf k = false) : sumU b (s.del k).t = sumU b s.t := by
 unfold PS.del; split
 ·rfl
 ·have := sumU_del b hu k; rw [hb] at this
  simp at this
  exact this
theorem up_set {s : PS} (hu : Up s.t) (k v : Txt) : Up (s.set k v).t := by
 unfold PS.set; split
 ·exact hu
 ·exact (up_lay hu k v true : Up (layP s.t k v true))
theorem up_del' {s : PS} (hu : Up s.t) (k : Txt) : Up (s.del k).t := by
 unfold PS.del; split
 ·exact hu
 ·exact (up_lay hu k [] false : Up (layP s.t k [] false))
theorem up_setInt {s : PS} (hu : Up s.t) (k : Txt) (n : Int) : Up (s.setInt k n).t := by
 unfold PS.setInt; split
 ·exact up_del' hu _
 ·exact up_set hu _ _
theorem up_setRow {s : PS} (hu : Up s.t) (k : Txt) (l : List Int) : Up (s.setRow k l).t := by
 unfold PS.setRow PS.putv; split
 ·exact hu
 ·split
  ·exact up_del' hu _
  ·exact up_set hu _ _
theorem T4_set {s : PS} (hu : Up s.t) {k : Txt} (hk : NK k) (v : Txt) : T4 (s.set k v).t = T4 s.t := by
 unfold T4
 rw [sumU_set hu v (hk.at_ 1 (.inl rfl)), sumU_set hu v (hk.at_ 3 (.inr (.inl rfl))), sumU_set hu v (hk.at_ 4 (.inr (.inr (.inl rfl)))), sumU_set hu v (hk.at_ 6 (.inr (.inr (.inr rfl))))]
theorem T4_del {s : PS} (hu : Up s.t) {k : Txt} (hk : NK k) : T4 (s.del k).t = T4 s.t := by
 unfold T4
 rw [sumU_delS hu (hk.at_ 1 (.inl rfl)), sumU_delS hu (hk.at_ 3 (.inr (.inl rfl))), sumU_delS hu (hk.at_ 4 (.inr (.inr (.inl rfl)))), sumU_delS hu (hk.at_ 6 (.inr (.inr (.inr rfl))))]
theorem T4_setInt {s : PS} (hu : Up s.t) {k : Txt} (hk : NK k) (n : Int) : T4 (s.setInt k n).t = T4 s.t := by
 unfold PS.setInt; split
 ·exact T4_del hu hk
 ·exact T4_set hu hk _
theorem T4_setRow {s : PS} (hu : Up s.t) {k : Txt} (hk : NK k) (l : List Int) : T4 (s.setRow k l).t = T4 s.t := by
 unfold PS.setRow PS.putv; split
 ·rfl
 ·split
  ·exact T4_del hu hk
  ·exact T4_set hu hk _
theorem valF_setRow_ne {s : PS} {k q : Txt} (l : List Int) (h : k ≠ q) : valF (getP (s.setRow k l).t) q = valF (getP s.t) q := by
 unfold PS.setRow PS.putv; split
 ·rfl
 ·split
  ·rw [valF_del, if_neg h]
  ·rw [valF_set, if_neg fun e => h e.1]
theorem valF_setInt_ne {s : PS} {k q : Txt} (n : Int) (h : k ≠ q) : valF (getP (s.setInt k n).t) q = valF (getP s.t) q := by
 unfold PS.setInt; split
 ·rw [valF_del, if_neg h]
 ·rw [valF_set, if_neg fun e => h e.1]
theorem amtV_of {f f' : Txt → Option Txt} {k : Txt} (h : valF f' k = valF f k) : amtV f' k = amtV f k := by unfold amtV; rw [h]
theorem getI_of {f f' : Txt → Option Txt} {k : Txt} (h : valF f' k = valF f k) : getI f' k = getI f k := by unfold getI; rw [h]
theorem infF_of {f f' : Txt → Option Txt} {g : Int} (h : valF f' (kInf g) = valF f (kInf g)) : infF f' g = infF f g := by unfold infF; rw [h]
theorem stk_inj {g g' : Int} (h : 0 ≤ g ∧ g < 9223372036854775808) (h' : 0 ≤ g' ∧ g' < 9223372036854775808) (e : kStk 1 g = kStk 1 g') : g = g' := by
 unfold kStk at e
 rw [keyF_good (by decide) (by decide) (fun x hx => by simp at hx; omega), keyF_good (by decide) (by decide) (fun x hx => by simp at hx; omega)] at e; have e2 := (List.cons.inj e).2; simp only [List.flatMap_cons, List.flatMap_nil, List.append_nil, List.append_cancel_left_eq] at e2; have a := cbe_numL g h.1 (by omega); rw [e2, cbe_numL g' h'.1 (by omega)] at a
 exact a.symm
theorem tot_inj {g g' : Int} (h : 0 ≤ g ∧ g < 9223372036854775808) (h' : 0 ≤ g' ∧ g' < 9223372036854775808) (e : kTot g = kTot g') : g = g' := keyF_inj (by decide) (by decide) h.1 (by omega) h'.1 (by omega) e
theorem inf_inj {g g' : Int} (h : 0 ≤ g ∧ g < 9223372036854775808) (h2 : g' < 9223372036854775808) (e : kInf g = kInf g') : g' = g := by
 by_cases h0 : 0 ≤ g'
 ·exact (keyF_inj (by decide) (by decide) h.1 (by omega) h0 (by omega) e).symm
 ·have : kInf g' = [] := keyF_neg 5 [g'] 0 (Nat.zero_lt_one) (by show g' < 0; omega)
  exact absurd (e.trans this) (NK_inf h.1 h.2).ne
theorem tot_stk {g g' : Int} (h : 0 ≤ g ∧ g < 9223372036854775808) : kTot g ≠ kStk 1 g' := keyF_apart (by decide) (by decide) (by decide) (by decide) (by decide) (NK_tot h.1 h.2).ne
theorem tot_inf {g g' : Int} (h : 0 ≤ g ∧ g < 9223372036854775808) : kTot g ≠ kInf g' := keyF_apart (by decide) (by decide) (by decide) (by decide) (by decide) (NK_tot h.1 h.2).ne
theorem tot_cnt {g : Int} (h : 0 ≤ g ∧ g < 9223372036854775808) : kTot g ≠ kCnt := keyF_apart (by decide) (by decide) (by decide) (by decide) (by decide) (NK_tot h.1 h.2).ne
theorem tot_sup {g : Int} (h : 0 ≤ g ∧ g < 9223372036854775808) : kTot g ≠ kSup 1 := keyF_apart (by decide) (by decide) (by decide) (by decide) (by decide) (NK_tot h.1 h.2).ne
theorem acc_stk {n g : Int} (h : 0 ≤ n) : kAcc 1 n ≠ kStk 1 g := keyF_apart (by decide) (by decide) (by decide) (by decide) (by decide) (MK_acc h).ne
theorem sink_stk {g : Int} : kSink 1 ≠ kStk 1 g := keyF_apart (by decide) (by decide) (by decide) (by decide) (by decide) MK_sink.ne
structure Kw (s : PS) (m : Nat) : Prop where
 up : Up s.t
 sup : amtV (getP s.t) (kSup 1) = m
 lt : m < uHalf
 tot : T4 s.t = m
 cnt : getI (getP s.t) kCnt ≤ 32
 inf : ∀ (g t : Int) (on : Bool), g < 9223372036854775808 → infF (getP s.t) g = some (t, on) → t = 1 ∧ 0 ≤ g
structure Kv (s : PS) (m i : Nat) : Prop where
 w : Kw s m
 fit : Fit s
 sz : s.sz ≤ 6 * i
 sh : ∀ g : Int, 0 ≤ g → g < 9223372036854775808 → vTo (getP s.t) g ≤ vSt (getP s.t) 1 g
theorem Kv.skip {s : PS} {m i : Nat} (h : Kv s m i) : Kv s m (i + 1) := ⟨h.w, h.fit, by have := h.sz; omega, h.sh⟩
theorem Kv.new : Kv PS.new 0 0 := ⟨⟨List.Pairwise.nil, by kernel_rfl, by decide, rfl, by
 have : getI (getP PS.new.t) kCnt = 0 := by kernel_rfl
 rw [this]; decide, fun g t on _ h => by
 have : infF (getP PS.new.t) g = none := by
  unfold infF
  have : valF (getP PS.new.t) (kInf g) = [] := rfl; rw [this, rowF_nil]; rfl
 rw [this] at h; cases h⟩, Fit.new, Nat.le_refl _, fun g _ _ => by
  unfold vTo vSt amtV
  have : ∀ q, valF (getP PS.new.t) q = [] := fun q => rfl
  rw [this, this]; exact Nat.le_refl _⟩
theorem Kw.mv {s : PS} {m : Nat} (h : Kw s m) {a b : Txt} {x : Nat} (ha : MK a) (hb : MK b) (hab : a ≠ b) (h0 : moveE (getP s.t) a b x = 0) :
  Kw (s.moveA a b x) m ∧ x ≤ amtV (getP s.t) a ∧ ∀ q, amtV (getP (s.moveA a b x).t) q = if b = q then amtV (getP s.t) b + x else if a = q then amtV (getP s.t) a - x else amtV (getP s.t) q := by
 have hm : s.moveA a b x = (s.setAmt a (amtV (getP s.t) a - x)).setAmt b (amtV (getP s.t) b + x) := by unfold PS.moveA; rw [if_pos ⟨h0, hab⟩]
 unfold moveE at h0
 by_cases c1 : x ≤ amtV (getP s.t) a
 ·rw [if_neg (fun e => e c1), if_neg hab] at h0
  by_cases c2 : amtV (getP s.t) b + x < uHalf
  ·have l1 : amtV (getP s.t) a - x < uMax := by have := amtV_lt (getP s.t) a; omega
   have l2 := uHalf_max c2; have u1 := up_setAmt h.up a (amtV (getP s.t) a - x); have hq : ∀ q, amtV (getP (s.moveA a b x).t) q = if b = q then amtV (getP s.t) b + x else if a = q then amtV (getP s.t) a - x else amtV (getP s.t) q := fun q => by
    rw [hm, amtV_setAmt _ b q hb.ne l2, amtV_setAmt _ a q ha.ne l1]
   have hv : ∀ q, b ≠ q → a ≠ q → valF (getP (s.moveA a b x).t) q = valF (getP s.t) q := fun q e1 e2 => by
    rw [hm, valF_setAmt _ _ _ hb.ne, if_neg e1, valF_setAmt _ _ _ ha.ne, if_neg e2]
   refine ⟨⟨by rw [hm]; exact up_setAmt u1 _ _, by rw [hq, if_neg hb.sup, if_neg ha.sup]; exact h.sup, h.lt, ?_, by rw [getI_of (hv _ hb.cnt ha.cnt)]; exact h.cnt, fun g t on hg hi => h.inf g t on hg (by rw [← hi]; exact (infF_of (hv _ (hb.inf g) (ha.inf g))).symm)⟩, c1, hq⟩; have e1 := T4_money h.up ha l1; have e2 := T4_money u1 hb l2; rw [amtV_setAmt _ a b ha.ne l1, if_neg hab, ← hm] at e2; have := h.tot
   omega
  ·rw [if_neg c2] at h0; cases h0
 ·rw [if_pos c1] at h0; cases h0
theorem Kw.shares {s : PS} {m : Nat} (h : Kw s m) {g : Int} (hg : 0 ≤ g ∧ g < 9223372036854775808) {n : Nat} (hn : n < uMax) :
  Kw (s.setAmt (kTot g) n) m ∧ ∀ q, amtV (getP (s.setAmt (kTot g) n).t) q = if kTot g = q then n else amtV (getP s.t) q := by
 have hk := NK_tot hg.1 hg.2; refine ⟨⟨up_setAmt h.up _ _, by rw [amtV_setAmt _ _ _ hk.ne hn, if_neg (tot_sup hg)]; exact h.sup, h.lt, by rw [T4_no h.up hk hn]; exact h.tot, by rw [getI_of (f := getP s.t) (by rw [valF_setAmt _ _ _ hk.ne, if_neg (tot_cnt hg)])]; exact h.cnt, fun g' t on hg' hi => h.inf g' t on hg' (by rw [← hi]; exact (infF_of (by rw [valF_setAmt _ _ _ hk.ne, if_neg (tot_inf hg)])).symm)⟩, fun q => amtV_setAmt _ _ _ hk.ne hn⟩
theorem shF_le {st tot a : Nat} (h : tot ≤ st) : shF st tot a ≤ a := by
 unfold shF; split
 ·unfold shQ
  exact Nat.div_le_of_le_mul (by rw [Nat.mul_comm (st + 1000)]; exact Nat.mul_le_mul_left _ (by omega))
 ·omega
theorem shF_out {st tot x : Nat} (h : tot ≤ st) (hx : x ≤ tot) : shF tot st x ≤ st - tot + x := by
 unfold shF; split
 ·unfold shQ
  refine Nat.div_le_of_le_mul ?_; obtain ⟨d, rfl⟩ := Nat.exists_eq_add_of_le h; obtain ⟨y, rfl⟩ := Nat.exists_eq_add_of_le hx; have : x + y + d - (x + y) + x = d + x := by omega
  rw [this]; have e1 : x * (x + y + d + 1000) = x * (x + y + 1000) + x * d := by rw [← Nat.mul_add]; congr 1; omega
  have e2 : (x + y + 1000) * (d + x) = (x + y + 1000) * d + x * (x + y + 1000) := by rw [Nat.mul_add, Nat.mul_comm _ x]
  rw [e1, e2]; have := Nat.mul_le_mul_right d (show x ≤ x + y + 1000 by omega)
  omega
 ·omega
theorem goodB_1 {t n : Int} (h : ¬ goodB t n = false) : 1 ≤ n ∧ n < 9223372036854775808 := by have := (goodB_of h).2; omega
theorem Kv.mint {s : PS} {m i : Nat} (h : Kv s m i) (n : Int) (x : Nat) :
  (mintE s 1 n x = 0 ∧ m + x < uHalf ∧ Kv (s.mint 1 n x) (m + x) (i + 1)) ∨ (mintE s 1 n x ≠ 0 ∧ s.mint 1 n x = s) := by
 by_cases hg : goodB 1 n = false ∨ ¬ x < uHalf
 ·right
  exact ⟨by unfold mintE; rw [if_pos hg]; decide, by unfold PS.mint; rw [if_pos hg]⟩
 by_cases he : addE (getP s.t) (kSup 1) x ≠ 0
 ·right
  exact ⟨by unfold mintE; rw [if_neg hg, if_pos he]; exact he, by unfold PS.mint; rw [if_neg hg, if_pos he]⟩
 left
 have hgd := goodB_1 (t := 1) (n := n) fun e => hg (.inl e)
 have he0 : addE (getP s.t) (kSup 1) x = 0 := Classical.not_not.1 he; obtain ⟨hlt, hs1⟩ := addA_yes he0; rw [h.w.sup] at hlt hs1; have hk := MK_acc (show 0 ≤ n by omega); have hmx := uHalf_max hlt; have hu1 : Up (s.setAmt (kSup 1) (m + x)).t := up_setAmt h.w.up _ _; have ht1 : T4 (s.setAmt (kSup 1) (m + x)).t = m := (T4_no h.w.up NK_sup hmx).trans h.w.tot; have hle : amtV (getP (s.setAmt (kSup 1) (m + x)).t) (kAcc 1 n) ≤ m := Nat.le_trans (T4_ge hu1 hk) (Nat.le_of_eq ht1); have hacc : amtV (getP (s.setAmt (kSup 1) (m + x)).t) (kAcc 1 n) + x < uHalf := by omega
 have he2 := addE_of hacc; have hs2 : (s.setAmt (kSup 1) (m + x)).addA (kAcc 1 n) x = (s.setAmt (kSup 1) (m + x)).setAmt (kAcc 1 n) (amtV (getP (s.setAmt (kSup 1) (m + x)).t) (kAcc 1 n) + x) := (addA_yes he2).2; have hE : mintE s 1 n x = 0 := by unfold mintE; rw [if_neg hg, if_neg he, hs1]; exact he2
 have hS : s.mint 1 n x = (s.setAmt (kSup 1) (m + x)).setAmt (kAcc 1 n) (amtV (getP (s.setAmt (kSup 1) (m + x)).t) (kAcc 1 n) + x) := by
  unfold PS.mint
  rw [if_neg hg, if_neg he, hs1, if_neg (fun e => e he2), hs2]
 have hax := uHalf_max hacc; have hsz := sz_mint s 1 n x (.inl hE); refine ⟨hE, hlt, ?_⟩; rw [hS] at hsz ⊢; have hv : ∀ q, kAcc 1 n ≠ q → kSup 1 ≠ q → valF (getP ((s.setAmt (kSup 1) (m + x)).setAmt (kAcc 1 n) (amtV (getP (s.setAmt (kSup 1) (m + x)).t) (kAcc 1 n) + x)).t) q = valF (getP s.t) q := fun q e1 e2 => by
  rw [valF_setAmt _ _ _ hk.ne, if_neg e1, valF_setAmt _ _ _ NK_sup.ne, if_neg e2]
 have sup_ne : ∀ {u l}, 1 ≤ u → u ≤ 255 → (2 : Int) ≠ u → kSup 1 ≠ keyF u l := fun h1 h2 h3 => keyF_apart (by decide) (by decide) h1 h2 h3 NK_sup.ne
 refine ⟨⟨up_setAmt hu1 _ _, ?_, hlt, ?_, by rw [getI_of (hv _ hk.cnt (sup_ne (by decide) (by decide) (by decide)))]; exact h.w.cnt, fun g t on hg hi => h.w.inf g t on hg ?_⟩, (h.fit.setAmt _ _).setAmt _ _, by have := h.sz; omega, fun g g0 g1 => ?_⟩
 ·rw [amtV_setAmt _ _ _ hk.ne hax, if_neg hk.sup, amtV_setAmt _ _ _ NK_sup.ne hmx, if_pos rfl]
 ·have := T4_money hu1 hk hax
  omega
 ·rw [← hi]
  exact (infF_of (hv _ (hk.inf g) (sup_ne (by decide) (by decide) (by decide)))).symm
 ·have e1 := amtV_of (hv (kTot g) (hk.tot g) (sup_ne (by decide) (by decide) (by decide))); have e2 := amtV_of (hv (kStk 1 g) (acc_stk (by omega)) (sup_ne (by decide) (by decide) (by decide))); have := h.sh g g0 g1
  unfold vTo vSt at this ⊢
  rw [e1, e2]
  exact this
theorem inf_cnt (g : Int) : kCnt ≠ kInf g := fun e => by
 by_cases h0 : 0 ≤ g
 ·unfold kCnt kInf at e
  rw [keyF_one (by decide) (by decide) h0] at e; have := congrArg List.length e; rw [List.length_cons, numL_length] at this
  cases this
 ·have : kInf g = [] := keyF_neg 5 [g] 0 (Nat.zero_lt_one) (by show g < 0; omega)
  exact NK_cnt.ne (e.trans this)
theorem Kv.row {s : PS} {m i : Nat} (h : Kv s m i) {g : Int} (hg : 0 ≤ g ∧ g < 9223372036854775808) (on : Bool) : Kv (s.setRow (kInf g) [1, onI on]) m (i + 1) := by
 have hk := NK_inf hg.1 hg.2; have ne : ∀ {u l}, 1 ≤ u → u ≤ 255 → (5 : Int) ≠ u → kInf g ≠ keyF u l := fun h1 h2 h3 => keyF_apart (by decide) (by decide) h1 h2 h3 hk.ne
 have ev := fun q (e : kInf g ≠ q) => amtV_of (valF_setRow_ne (s := s) [1, onI on] e)
 have hon : ∀ x ∈ [1, onI on], 0 ≤ x ∧ x < 9223372036854775808 := fun x hx => by
  simp at hx
  rcases hx with rfl | rfl
  ·decide
  ·cases on <;> decide
 refine ⟨⟨up_setRow h.w.up _ _, (ev _ (ne (by decide) (by decide) (by decide))).trans h.w.sup, h.w.lt, (T4_setRow h.w.up hk _).trans h.w.tot, by rw [getI_of (valF_setRow_ne _ fun e => inf_cnt g e.symm)]; exact h.w.cnt, fun g' t o hg' hi => ?_⟩, h.fit.setRow _ (by simp), by have := h.sz; have := sz_setRow s (kInf g) [1, onI on]; omega, fun g' g0 g1 => ?_⟩
 ·by_cases e : kInf g = kInf g'
  ·have e2 := inf_inj hg hg' e
   unfold infF at hi
   rw [rowF_setRow _ _ _ hk.ne hon, if_pos e] at hi
   cases hi
   exact ⟨rfl, by omega⟩
  ·exact h.w.inf g' t o hg' (by rw [← hi]; exact (infF_of (valF_setRow_ne _ e)).symm)
 ·unfold vTo vSt
  rw [ev (kTot g') (ne (by decide) (by decide) (by decide)), ev (kStk 1 g') (ne (by decide) (by decide) (by decide))]
  exact h.sh g' g0 g1
theorem Kv.cnt {s : PS} {m i : Nat} (h : Kv s m i) {n : Int} (n1 : 1 ≤ n) (n2 : n ≤ 32) : Kw (s.setInt kCnt n) m ∧ ∀ g : Int, 0 ≤ g → g < 9223372036854775808 → vTo (getP (s.setInt kCnt n).t) g ≤ vSt (getP (s.setInt kCnt n).t) 1 g := by
 have hk := NK_cnt; have ne : ∀ {u l}, 1 ≤ u → u ≤ 255 → (5 : Int) ≠ u → kCnt ≠ keyF u l := fun h1 h2 h3 => keyF_apart (by decide) (by decide) h1 h2 h3 hk.ne
 have ni := inf_cnt; have ev := fun q (e : kCnt ≠ q) => amtV_of (valF_setInt_ne (s := s) n e)
 refine ⟨⟨up_setInt h.w.up _ _, (ev _ (ne (by decide) (by decide) (by decide))).trans h.w.sup, h.w.lt, (T4_setInt h.w.up hk _).trans h.w.tot, ?_, fun g t o hg hi => h.w.inf g t o hg (by rw [← hi]; exact (infF_of (valF_setInt_ne _ (ni g))).symm)⟩, fun g g0 g1 => ?_⟩
 ·unfold getI
  rw [valF_setInt _ _ _ hk.ne n1, if_pos rfl, rowF_numL (by omega) (by omega)]
  exact n2
 ·unfold vTo vSt
  rw [ev (kTot g) (ne (by decide) (by decide) (by decide)), ev (kStk 1 g) (ne (by decide) (by decide) (by decide))]
  exact h.sh g g0 g1
theorem Kv.newS {s : PS} {m i : Nat} (h : Kv s m i) : Kv (s.newS 1) m (i + 1) ∧ (newE s 1 ≠ 0 → s.newS 1 = s) := by
 by_cases he : newE s 1 = 0
 ·refine ⟨?_, fun e => absurd he e⟩; have hz := newS_sz s 1; have hS : s.newS 1 = (s.setInt kCnt (newI s)).setRow (kInf (newI s)) [1, 1] := by unfold PS.newS; rw [if_pos he]
  have hf := newS_fit h.fit 1; have hb := getI_bound (getP s.t) kCnt; have h32 : ¬ 32 ≤ getI (getP s.t) kCnt := fun e => by
   unfold newE at he
   rw [if_neg (by decide), if_pos e] at he
   cases he
  have hI : 1 ≤ newI s ∧ newI s ≤ 32 := by unfold newI nextI; split <;> omega
  obtain ⟨a, b⟩ := h.cnt hI.1 hI.2; have h2 : Kv (s.setInt kCnt (newI s)) m (s.setInt kCnt (newI s)).sz := ⟨a, h.fit.setInt _ _, by omega, b⟩; have h3 := h2.row (g := newI s) (by omega) true; have e3 : s.newS 1 = (s.setInt kCnt (newI s)).setRow (kInf (newI s)) [1, onI true] := hS; rw [← e3] at h3
  exact ⟨h3.w, hf, by have := h.sz; omega, h3.sh⟩
 ·have hS : s.newS 1 = s := by unfold PS.newS; rw [if_neg he]
  rw [hS]
  exact ⟨h.skip, fun _ => rfl⟩
theorem Kv.allow {s : PS} {m i : Nat} (h : Kv s m i) {g : Int} (hg : g < 9223372036854775808) (on : Bool) : Kv (s.allow g on) m (i + 1) ∧ (allE s g ≠ 0 → s.allow g on = s) := by
 unfold PS.allow allE
 cases hi : infF (getP s.t) g with
 | none => exact ⟨h.skip, fun _ => rfl⟩
 | some p =>
  obtain ⟨t, o⟩ := p; obtain ⟨rfl, h0⟩ := h.w.inf g t o hg hi
  exact ⟨h.row ⟨h0, hg⟩ on, fun e => absurd rfl e⟩
theorem Kv.dep {s : PS} {m i : Nat} (h : Kv s m i) {g : Int} (hg : g < 9223372036854775808) (fr : Int) (a : Nat) : Kv (s.dep g fr a) m (i + 1) ∧ (depE s g fr a ≠ 0 → s.dep g fr a = s) := by
 have hz := dep_sz s g fr a; have hf := dep_fit h.fit g fr a
 unfold PS.dep depE at *
 cases hi : infF (getP s.t) g with
 | none => exact ⟨h.skip, fun _ => rfl⟩
 | some p =>
  obtain ⟨t, o⟩ := p; obtain ⟨rfl, h0⟩ := h.w.inf g t o hg hi; rw [hi] at hz hf; simp only [] at hz hf ⊢
  unfold PS.dep1 depE1 at *
  by_cases hb : depB s 1 g o fr a = 0
  ·rw [if_pos hb] at hz hf ⊢; rw [if_pos hb]
   unfold PS.dep2 at *
   by_cases h2 : dep2E s 1 g fr a = 0
   ·rw [if_pos h2] at hz hf ⊢; refine ⟨?_, fun e => absurd h2 e⟩
    unfold depB at hb
    by_cases b1 : o = false
    ·rw [if_pos b1] at hb; cases hb
    rw [if_neg b1] at hb
    by_cases b2 : goodB 1 fr = false
    ·rw [if_pos b2] at hb; cases hb
    have hfr := goodB_1 b2; have ha := MK_acc (show 0 ≤ fr by omega); have hs := MK_stk h0
    unfold dep2E at h2
    by_cases b3 : mvE s 1 g fr a = 0
    ·rw [if_neg (fun e => e b3)] at h2; obtain ⟨w1, hle, hq⟩ := h.w.mv ha hs (acc_stk (by omega)) b3; obtain ⟨hlt, hadd⟩ := addA_yes h2; have e1 : amtV (getP (s.mv 1 g fr a).t) (kTot g) = vTo (getP s.t) g := by
      unfold PS.mv vTo
      rw [hq, if_neg (hs.tot g), if_neg (ha.tot g)]
     rw [hadd] at hz hf ⊢; rw [e1] at hz hf hlt ⊢; obtain ⟨w2, hq2⟩ := w1.shares ⟨h0, hg⟩ (uHalf_max hlt); refine ⟨w2, hf, by have := h.sz; omega, fun g' g0 g1 => ?_⟩
     unfold vTo at hq2 ⊢
     unfold vSt PS.mv
     rw [hq2, hq2, hq, hq, if_neg (tot_stk ⟨h0, hg⟩), if_neg (hs.tot g'), if_neg (ha.tot g'), if_neg (acc_stk (g := g') (show 0 ≤ fr by omega))]; have hsh := h.sh g' g0 g1
     by_cases e : g = g'
     ·subst e; rw [if_pos rfl, if_pos rfl]; have := shF_le (a := a) hsh
      unfold depX
      unfold vTo vSt at *
      omega
     ·rw [if_neg (fun x => e (tot_inj ⟨h0, hg⟩ ⟨g0, g1⟩ x)), if_neg (fun x => e (stk_inj ⟨h0, hg⟩ ⟨g0, g1⟩ x))]
      exact hsh
    ·rw [if_pos b3] at h2; exact absurd h2 b3
   ·rw [if_neg h2]
    exact ⟨h.skip, fun _ => rfl⟩
  ·rw [if_neg hb]
   exact ⟨h.skip, fun _ => rfl⟩
theorem Kv.don {s : PS} {m i : Nat} (h : Kv s m i) {g : Int} (hg : g < 9223372036854775808) (fr : Int) (a : Nat) : Kv (s.don g fr a) m (i + 1) ∧ (donE s g fr a ≠ 0 → s.don g fr a = s) := by
 have hz := don_sz s g fr a; have hf := don_fit h.fit g fr a
 unfold PS.don donE at *
 cases hi : infF (getP s.t) g with
 | none => exact ⟨h.skip, fun _ => rfl⟩
 | some p =>
  obtain ⟨t, o⟩ := p; obtain ⟨rfl, h0⟩ := h.w.inf g t o hg hi; rw [hi] at hz hf; simp only [] at hz hf ⊢
  by_cases b2 : goodB 1 fr = false
  ·rw [if_pos b2]
   exact ⟨h.skip, fun _ => rfl⟩
  rw [if_neg b2] at hz hf ⊢; rw [if_neg b2]; have hfr := goodB_1 b2; have ha := MK_acc (show 0 ≤ fr by omega); have hs := MK_stk h0
  by_cases b3 : mvE s 1 g fr a = 0
  ·refine ⟨?_, fun e => absurd b3 e⟩; obtain ⟨w1, hle, hq⟩ := h.w.mv ha hs (acc_stk (by omega)) b3; refine ⟨w1, hf, by have := h.sz; omega, fun g' g0 g1 => ?_⟩; have hsh := h.sh g' g0 g1
   unfold vTo vSt PS.mv
   rw [hq, hq, if_neg (hs.tot g'), if_neg (ha.tot g'), if_neg (acc_stk (g := g') (show 0 ≤ fr by omega))]
   by_cases e : g = g'
   ·subst e; rw [if_pos rfl]
    unfold vTo vSt at *
    omega
   ·rw [if_neg (fun x => e (stk_inj ⟨h0, hg⟩ ⟨g0, g1⟩ x))]
    exact hsh
  ·rw [mv_no b3]
   exact ⟨h.skip, fun _ => rfl⟩
theorem Kv.out {s : PS} {m i : Nat} (h : Kv s m i) {g : Int} (h0 : 0 ≤ g) (hg : g < 9223372036854775808) {dst : Txt} (hto : MK dst) (hne : ∀ g', dst ≠ kStk 1 g') (x : Nat) : Kv (s.out 1 g dst x) m (i + 1) ∧ (outE s 1 g dst x ≠ 0 → s.out 1 g dst x = s) := by
 have hz := out_sz s 1 g dst x; have hf := out_fit h.fit 1 g dst x
 unfold PS.out at *
 by_cases ho : outE s 1 g dst x = 0
 ·rw [if_pos ho] at hz hf ⊢; refine ⟨?_, fun e => absurd ho e⟩
  unfold outE at ho
  by_cases c1 : vTo (getP s.t) g < x
  ·rw [if_pos c1] at ho; cases ho
  rw [if_neg c1] at ho; have hs := MK_stk h0; obtain ⟨w1, hle, hq⟩ := h.w.mv hs hto (fun e => hne g e.symm) ho; have e1 : amtV (getP (s.moveA (kStk 1 g) dst (outX s 1 g x)).t) (kTot g) = vTo (getP s.t) g := by
   unfold vTo
   rw [hq, if_neg (hto.tot g), if_neg (hs.tot g)]
  have hsub : (s.moveA (kStk 1 g) dst (outX s 1 g x)).subA (kTot g) x = (s.moveA (kStk 1 g) dst (outX s 1 g x)).setAmt (kTot g) (vTo (getP s.t) g - x) := by
   unfold PS.subA
   rw [e1, if_pos (by omega)]
  rw [hsub] at hz hf ⊢; have hlt : vTo (getP s.t) g - x < uMax := by have := amtV_lt (getP s.t) (kTot g); unfold vTo; omega
  obtain ⟨w2, hq2⟩ := w1.shares ⟨h0, hg⟩ hlt; refine ⟨w2, hf, by have := h.sz; omega, fun g' g0 g1 => ?_⟩
  unfold vTo at hq2 ⊢
  unfold vSt
  rw [hq2, hq2, hq, hq, if_neg (tot_stk ⟨h0, hg⟩), if_neg (hs.tot g'), if_neg (hto.tot g'), if_neg (hne g')]; have hsh := h.sh g' g0 g1
  by_cases e : g = g'
  ·subst e; rw [if_pos rfl, if_pos rfl]; have := shF_out hsh (show x ≤ vTo (getP s.t) g by omega)
   unfold outX
   unfold vTo vSt at *
   omega
  ·rw [if_neg (fun x => e (tot_inj ⟨h0, hg⟩ ⟨g0, g1⟩ x)), if_neg (fun x => e (stk_inj ⟨h0, hg⟩ ⟨g0, g1⟩ x))]
   exact hsh
 ·rw [if_neg ho]
  exact ⟨h.skip, fun _ => rfl⟩
theorem Kv.red {s : PS} {m i : Nat} (h : Kv s m i) {g : Int} (hg : g < 9223372036854775808) (n : Int) (x : Nat) : Kv (s.red g n x) m (i + 1) ∧ (redE s g n x ≠ 0 → s.red g n x = s) := by
 unfold PS.red redE
 cases hi : infF (getP s.t) g with
 | none => exact ⟨h.skip, fun _ => rfl⟩
 | some p =>
  obtain ⟨t, o⟩ := p; obtain ⟨rfl, h0⟩ := h.w.inf g t o hg hi; simp only []
  by_cases b2 : goodB 1 n = false
  ·rw [if_pos b2, if_pos b2]
   exact ⟨h.skip, fun _ => rfl⟩
  rw [if_neg b2, if_neg b2]; have hn := goodB_1 b2
  exact h.out h0 hg (MK_acc (by omega)) (fun g' => acc_stk (by omega)) x
theorem Kv.bur {s : PS} {m i : Nat} (h : Kv s m i) {g : Int} (hg : g < 9223372036854775808) (x : Nat) : Kv (s.bur g x) m (i + 1) ∧ (burE s g x ≠ 0 → s.bur g x = s) := by
 unfold PS.bur burE
 cases hi : infF (getP s.t) g with
 | none => exact ⟨h.skip, fun _ => rfl⟩
 | some p =>
  obtain ⟨t, o⟩ := p; obtain ⟨rfl, h0⟩ := h.w.inf g t o hg hi
  exact h.out h0 hg MK_sink (fun g' => sink_stk) x
theorem Kv.le {s : PS} {m i : Nat} (h : Kv s m i) {g : Int} (hg : g < 9223372036854775808) : totV (getP s.t) g ≤ stkV (getP s.t) g := by
 unfold totV stkV
 cases hi : infF (getP s.t) g with
 | none => exact Nat.le_refl _
 | some p =>
  obtain ⟨t, o⟩ := p; obtain ⟨rfl, h0⟩ := h.w.inf g t o hg hi
  exact h.sh g h0 hg
theorem Kv.totF {s : PS} {m i : Nat} (h : Kv s m i) : Go.Proofs.YtabminbgoclnkaaGreat.totF (underP s.t) 1 = m := by
 have := h.w.tot
 unfold Go.Proofs.YtabminbgoclnkaaGreat.totF begs totT totT totT totT totT
 rw [sumL_under, sumL_under, sumL_under, sumL_under]
 unfold T4 at this
 omega
theorem Kv.totB {s : PS} {m i : Nat} (h : Kv s m i) : Go.Proofs.YtabminbgoclnkaaGreat.totB (underP s.t) 1 = true := by
 unfold Go.Proofs.YtabminbgoclnkaaGreat.totB
 rw [h.totF]
 exact decide_eq_true ⟨by decide, uHalf_max h.w.lt⟩
end
end Go.Proofs.YtabminbgoclnkaaGreat
