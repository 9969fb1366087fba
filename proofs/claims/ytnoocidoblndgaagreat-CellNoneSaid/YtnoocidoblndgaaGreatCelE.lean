/- Chapter 10: acts, light, the keys, lives. No condition. -/
import Derived.Test.YtnoocidoblndgaaGreatCelD
import Derived.Test.YtnoocidoblndgaaGreatCln
import Derived.Deep.QuietTactic
import Derived.BigQuiet
import Derived.WalkSmall
namespace Go.Proofs.YtnoocidoblndgaaGreat
open Go.RowKit

/-- tallagelaw10.Act, read. -/
structure Act10 where
  kd : Int
  k : Int
  q : Int
  n : Int
  m : Nat
  ld : Option Addr
  lc : Nat
  l : List Int
def act10E (a : Act10) : List Value := [.int .i64 a.kd, .int .i64 a.k, .int .i64 a.q, .int .i64 a.n, .int .u64 (uw0 a.m), .int .u64 (uw1 a.m), .int .u64 (uw2 a.m), .int .u64 (uw3 a.m), .slice a.ld a.l.length a.lc]
theorem act10E_len (a : Act10) : (act10E a).length = 9 := rfl
structure Good10 (w : World) (a : Act10) : Prop where
  b_kd : -9223372036854775808 ≤ a.kd ∧ a.kd < 9223372036854775808
  b_k : -9223372036854775808 ≤ a.k ∧ a.k < 9223372036854775808
  b_q : -9223372036854775808 ≤ a.q ∧ a.q < 9223372036854775808
  b_n : -9223372036854775808 ≤ a.n ∧ a.n < 9223372036854775808
  lt_m : a.m < uMax
  rd_l : Rd w intE 1 (.slice a.ld a.l.length a.lc) a.l
  i64_l : I64s a.l
theorem Good10.later {w w' : World} {a : Act10} (h : Good10 w a) (hb : Below w.heap.size w w') : Good10 w' a := ⟨h.b_kd, h.b_k, h.b_q, h.b_n, h.lt_m, h.rd_l.later hb, h.i64_l⟩
theorem Rd.act10 {w : World} {ad : Option Addr} {n cap : Nat} {t : List Act10} (h : Rd w act10E 9 (.slice ad n cap) t) (i : Nat) (hi : i < t.length) :
    ∃ g off, ad = some ⟨g, off, none⟩ ∧ g < w.heap.size ∧ w.cell? ⟨g, off + i * 9, none⟩ = some (.int .i64 t[i].kd) ∧ w.cell? ⟨g, off + i * 9 + 1, none⟩ = some (.int .i64 t[i].k) ∧ w.cell? ⟨g, off + i * 9 + 2, none⟩ = some (.int .i64 t[i].q) ∧ w.cell? ⟨g, off + i * 9 + 3, none⟩ = some (.int .i64 t[i].n) ∧ w.cell? ⟨g, off + i * 9 + 4, none⟩ = some (.int .u64 (uw0 t[i].m)) ∧ w.cell? ⟨g, off + i * 9 + 5, none⟩ = some (.int .u64 (uw1 t[i].m)) ∧ w.cell? ⟨g, off + i * 9 + 6, none⟩ = some (.int .u64 (uw2 t[i].m)) ∧ w.cell? ⟨g, off + i * 9 + 7, none⟩ = some (.int .u64 (uw3 t[i].m)) ∧ w.cell? ⟨g, off + i * 9 + 8, none⟩ = some (.slice t[i].ld t[i].l.length t[i].lc) := by
  have hne : t ≠ [] := by rintro rfl; simp at hi
  obtain ⟨ax, cx, e3, _, _, h3⟩ := h
  obtain ⟨b, off, e4, hb, h5⟩ := h3 hne
  exact ⟨b, off, (Value.slice.inj e3).1.trans e4, hb, h5 i hi 0 (by decide), h5 i hi 1 (by decide), h5 i hi 2 (by decide), h5 i hi 3 (by decide), h5 i hi 4 (by decide), h5 i hi 5 (by decide), h5 i hi 6 (by decide), h5 i hi 7 (by decide), h5 i hi 8 (by decide)⟩
theorem Tryz.zeroAct10 (w : World) : (zeroValue 27).run Tryz.prog w = .ok (.agg #[.int .i64 0, .int .i64 0, .int .i64 0, .int .i64 0, .int .u64 0, .int .u64 0, .int .u64 0, .int .u64 0, .slice none 0 0]) w := by kernel_rfl
theorem Tryz.sizeAct10 : (Tryz.prog.info? 27).map (·.size) = some 9 := by kernel_rfl
theorem litA10 (w : World) (a : Act10) : Rd (w.alloc (.cells #[.int .i64 a.kd, .int .i64 a.k, .int .i64 a.q, .int .i64 a.n, .int .u64 (uw0 a.m), .int .u64 (uw1 a.m), .int .u64 (uw2 a.m), .int .u64 (uw3 a.m), .slice a.ld a.l.length a.lc] 27)) act10E 9 (.slice (some ⟨w.heap.size, 0, none⟩) 1 1) [a] := by
  refine ⟨_, 1, rfl, Nat.le_refl _, (by unfold maxLen; decide), fun _ => ⟨_, 0, rfl, by rw [World.size_alloc]; omega, fun i hi j hj => ?_⟩⟩
  have h := heap_alloc_new w (.cells #[.int .i64 a.kd, .int .i64 a.k, .int .i64 a.q, .int .i64 a.n, .int .u64 (uw0 a.m), .int .u64 (uw1 a.m), .int .u64 (uw2 a.m), .int .u64 (uw3 a.m), .slice a.ld a.l.length a.lc] 27)
  simp only [List.length_singleton] at hi
  obtain rfl : i = 0 := by omega
  match j, hj with
  | 0, _ => exact Lib.cell_of_heap h 0
  | 1, _ => exact Lib.cell_of_heap h 1
  | 2, _ => exact Lib.cell_of_heap h 2
  | 3, _ => exact Lib.cell_of_heap h 3
  | 4, _ => exact Lib.cell_of_heap h 4
  | 5, _ => exact Lib.cell_of_heap h 5
  | 6, _ => exact Lib.cell_of_heap h 6
  | 7, _ => exact Lib.cell_of_heap h 7
  | 8, _ => exact Lib.cell_of_heap h 8
/-- What light says. -/
def Light10 (w : World) (l : List Act10) (e : Ending) (w' : World) : Prop := ∃ r : Bool, e = .returned (.bool r) ∧ (r = true → l.length ≤ 200 ∧ ∀ a ∈ l, a.l.length ≤ 20) ∧ Below w.heap.size w w'

set_option maxHeartbeats 8000000 in
set_option maxRecDepth 100000 in
theorem light10_any {w : World} {v : Value} {l : List Act10} (h : Rd w act10E 9 v l) : Calls Tryz.prog 8 #[v] w (Light10 w l) := by
  obtain ⟨ad, cap, e1, l1, l1'⟩ := h.shape
  obtain ⟨n, hn⟩ : ∃ n, n = l.length := ⟨_, rfl⟩
  rw [← hn] at e1 l1
  subst e1
  have H := Lib.hid h; have HN := Lib.hid hn
  clear h hn
  by_cases hl : n ≤ 200
  · have j0 : ¬ 200 < n := by omega
    go_enter Tryz.func8, Tryz.ntmps8
    go_wp2_with fail
    clear j0
    go_loopw [4, 10] (fun _ vi wr => ∃ (i : Nat), vi = .int .i64 i ∧ i ≤ n ∧ Hid (∀ a ∈ l.take i, a.l.length ≤ 20) ∧ Hid (Below w.heap.size w wr)) (fun _ vi _ => n - (intOf vi).toNat)
    case atStart => exact ⟨0, rfl, Nat.zero_le _, Lib.hid (by simp), Lib.hid (Below.refl _ _)⟩
    case round =>
      obtain ⟨i, rfl, hin, SH, BW⟩ := hrel
      by_cases hlt : i < n
      · have hi : i < l.length := by rw [← HN.out]; exact hlt
        obtain ⟨gL, off, rfl, hgL, q0, q1, q2, q3, q4, q5, q6, q7, q8⟩ := Rd.act10 H.out i hi
        have q0' := (BW.out.cell (p := ⟨gL, off + i * 9, none⟩) hgL).trans q0
        have q1' := (BW.out.cell (p := ⟨gL, off + i * 9 + 1, none⟩) hgL).trans q1
        have q2' := (BW.out.cell (p := ⟨gL, off + i * 9 + 2, none⟩) hgL).trans q2
        have q3' := (BW.out.cell (p := ⟨gL, off + i * 9 + 3, none⟩) hgL).trans q3
        have q4' := (BW.out.cell (p := ⟨gL, off + i * 9 + 4, none⟩) hgL).trans q4
        have q5' := (BW.out.cell (p := ⟨gL, off + i * 9 + 5, none⟩) hgL).trans q5
        have q6' := (BW.out.cell (p := ⟨gL, off + i * 9 + 6, none⟩) hgL).trans q6
        have q7' := (BW.out.cell (p := ⟨gL, off + i * 9 + 7, none⟩) hgL).trans q7
        have q8' := (BW.out.cell (p := ⟨gL, off + i * 9 + 8, none⟩) hgL).trans q8
        have hsh : ∀ q : (l[i].l.length ≤ 20), ∀ a ∈ l.take (i + 1), a.l.length ≤ 20 := by
          intro q a ha
          rw [List.take_succ_eq_append_getElem hi] at ha
          rcases List.mem_append.1 ha with ha | ha
          · exact SH.out a ha
          · simp only [List.mem_singleton] at ha; rw [ha]; exact q
        obtain ⟨a, ha⟩ : ∃ a, a = l[i] := ⟨_, rfl⟩
        rw [← ha] at q0' q1' q2' q3' q4' q5' q6' q7' q8' hsh
        have HLT := Lib.hid hlt; have HSH := Lib.hid hsh
        clear ha q0 q1 q2 q3 q4 q5 q6 q7 q8 hgL hi hsh
        go_wp2_with (refine wpList_alloc_g rfl _ rfl _ _ Tryz.zeroAct10 rfl ?_)
        intro R w1 h1
        go_wp2_with (refine wpList_store_row_g (t := 27) (old := #[.int .i64 0, .int .i64 0, .int .i64 0, .int .i64 0, .int .u64 0, .int .u64 0, .int .u64 0, .int .u64 0, .slice none 0 0]) rfl 27 _ _ rfl R #[.int .i64 a.kd, .int .i64 a.k, .int .i64 a.q, .int .i64 a.n, .int .u64 (uw0 a.m), .int .u64 (uw1 a.m), .int .u64 (uw2 a.m), .int .u64 (uw3 a.m), .slice a.ld a.l.length a.lc] rfl rfl h1.out.cells Tryz.sizeAct10 rfl (by simp [Value.oneCell']) ?_)
        intro w2 h2' k12 z12
        have hb12 : Below wr.heap.size wr w2 := h1.out.below.trans (k12.below (B := wr.heap.size) (fun x hx e => by have := h1.out.eq; omega) h1.out.below.size)
        have r0 : w2.cell? ⟨R, 0, none⟩ = some (.int .i64 a.kd) := Lib.cell_of_heap h2' 0
        have r1 : w2.cell? ⟨R, 1, none⟩ = some (.int .i64 a.k) := Lib.cell_of_heap h2' 1
        have r2 : w2.cell? ⟨R, 2, none⟩ = some (.int .i64 a.q) := Lib.cell_of_heap h2' 2
        have r3 : w2.cell? ⟨R, 3, none⟩ = some (.int .i64 a.n) := Lib.cell_of_heap h2' 3
        have r4 : w2.cell? ⟨R, 4, none⟩ = some (.int .u64 (uw0 a.m)) := Lib.cell_of_heap h2' 4
        have r5 : w2.cell? ⟨R, 5, none⟩ = some (.int .u64 (uw1 a.m)) := Lib.cell_of_heap h2' 5
        have r6 : w2.cell? ⟨R, 6, none⟩ = some (.int .u64 (uw2 a.m)) := Lib.cell_of_heap h2' 6
        have r7 : w2.cell? ⟨R, 7, none⟩ = some (.int .u64 (uw3 a.m)) := Lib.cell_of_heap h2' 7
        have r8 : w2.cell? ⟨R, 8, none⟩ = some (.slice a.ld a.l.length a.lc) := Lib.cell_of_heap h2' 8
        have HB2 := Lib.hid (BW.out.trans (hb12.mono BW.out.size))
        clear h1 h2' k12 z12 hb12 q0' q1' q2' q3' q4' q5' q6' q7' q8'
        by_cases c0 : ¬ a.l.length ≤ 20
        · have c0' : 20 < a.l.length := by omega
          clear c0
          go_wp2_with fail
          go_ret
          exact ⟨false, rfl, fun h => (by cases h), HB2.out⟩
        have d0 : a.l.length ≤ 20 := by omega
        have d0' : ¬ 20 < a.l.length := by omega
        clear c0
        · skip
          go_wp2_with fail
          go_roundw
          case rel => exact ⟨i + 1, by go_num, Nat.succ_le_of_lt HLT.out, Lib.hid (HSH.out (by exact d0)), HB2⟩
          case measure => have hh : i < n := HLT.out; simp [intOf]; omega
      · have hfin : ∀ a ∈ l, a.l.length ≤ 20 := by
          have h8 := SH.out
          rwa [List.take_of_length_le (by rw [← HN.out]; omega)] at h8
        have HF := Lib.hid hfin
        clear hfin SH
        go_wp2_with fail
        go_ret
        exact ⟨true, rfl, fun _ => ⟨by rw [← HN.out]; exact hl, HF.out⟩, BW.out⟩
  · have j0 : 200 < n := by omega
    clear hl
    go_enter Tryz.func8, Tryz.ntmps8
    go_wp2_with fail
    go_ret
    exact ⟨false, rfl, fun h => (by cases h), Below.refl _ _⟩

/-- The law's keys. -/
def ckey (n : Int) : Txt := if n < 0 ∨ 9 < n then [] else keyF 200 [n]
theorem ckey_good {n : Int} (h0 : 0 ≤ n) (h9 : n ≤ 9) : ckey n = keyF 200 [n] := by unfold ckey; rw [if_neg (by omega)]
set_option maxHeartbeats 4000000 in
set_option maxRecDepth 100000 in
theorem ckey_any (n : Int) (w : World) : Calls Tryz.prog 12 #[.int .i64 n] w (Ret w (.string (bs (ckey n)))) := by
  by_cases h0 : n < 0
  · have hk : bs (ckey n) = ByteArray.mk #[] := by unfold ckey; rw [if_pos (.inl h0)]; rfl
    have HK := Lib.hid hk
    clear hk
    go_enter Tryz.func12, Tryz.ntmps12
    go_wp2_with fail
    go_ret
    refine ⟨?_, Below.refl _ _⟩
    rw [HK.out]
    rfl
  by_cases h9 : 9 < n
  · have hk : bs (ckey n) = ByteArray.mk #[] := by unfold ckey; rw [if_pos (.inr h9)]; rfl
    have HK := Lib.hid hk
    clear hk
    go_enter Tryz.func12, Tryz.ntmps12
    go_wp2_with fail
    go_ret
    refine ⟨?_, Below.refl _ _⟩
    rw [HK.out]
    rfl
  have HB : Hid (0 ≤ n ∧ n ≤ 9) := Lib.hid (by omega)
  go_enter Tryz.func12, Tryz.ntmps12
  go_wp2_with fail
  obtain ⟨w1, hwl⟩ : ∃ w2, w2 = w.alloc (.cells #[.int .i64 n] 3) := ⟨_, rfl⟩
  obtain ⟨gi, hgi⟩ : ∃ gi, gi = w.heap.size := ⟨_, rfl⟩
  rw [← hwl, ← hgi]
  have hbl : Below w.heap.size w w1 := by rw [hwl]; exact below_new _ _
  have HOI : Hid (Own w1 0 3 intE 1 (.slice (some ⟨gi, 0, none⟩) 1 1) [n]) := Lib.hid (own_lit (l := [n]) (by rw [hwl, hgi]; exact heap_alloc_new _ _) (Nat.zero_le _) (by unfold maxLen; simp))
  have HBL := Lib.hid hbl
  clear hwl hgi hbl h0 h9
  refine (key_any 200 [n] _ _ (by simp) (I64s.one (by have := HB.out; omega)) (own_rd HOI.out)).mono ?_
  rw [← ckey_good HB.out.1 HB.out.2]
  rintro e w2 ⟨rfl, hb⟩
  have HBF := Lib.hid (HBL.out.trans (hb.mono HBL.out.size))
  clear hb
  go_wp2_with fail
  go_ret
  exact ⟨rfl, HBF.out⟩

set_option maxHeartbeats 8000000 in
set_option maxRecDepth 100000 in
theorem lives10_any (w : World) : Calls Tryz.prog 9 #[] w (Ret w (.bool true)) := by
  have a1 : addE (getP PS.new.t) [107] 5 = 0 := by decide +kernel
  have a2 : subE (getP (PS.new.addA [107] 5).t) [107] 5 = 0 := by decide +kernel
  have a3 : ((PS.new.addA [107] 5).subA [107] 5).t.length = 0 := by decide +kernel
  have a4 : subE (getP ((PS.new.addA [107] 5).subA [107] 5).t) [107] 1 = 13 := by decide +kernel
  have A := Lib.hid (And.intro a1 (And.intro a2 (And.intro a3 a4)))
  clear a1 a2 a3 a4
  go_enter Tryz.func9, Tryz.ntmps9
  go_wp2_with fail
  refine (snew_any _).mono ?_
  rintro e w1 ⟨g, F, rfl, h1, hb1, hf1⟩
  have O1 : Hid (One w w1 g PS.new) := Lib.hid ⟨F, h1, hf1, hb1⟩
  clear h1 hb1 hf1
  have hk : ByteArray.mk #[107] = bs [107] := rfl
  go_wp2_with fail
  refine (O1.out.st fun F hs => cadd_any hs (by decide) Fit.new [107] (m := 5) (by unfold UIs; omega)).mono ?_
  rw [A.out.1]
  rintro e w2 ⟨rfl, o, _⟩
  have O2 := Lib.hid o
  clear o O1
  go_wp2_with fail
  refine (O2.out.st fun F hs => csub_any hs (by have := sz_addA PS.new [107] 5; have : PS.new.sz = 0 := rfl; omega) (Fit.new.addA _ _) [107] (m := 5) (by unfold UIs; omega)).mono ?_
  rw [A.out.2.1]
  rintro e w3 ⟨rfl, o, _⟩
  have O3 := Lib.hid o
  clear o O2
  go_wp2_with fail
  obtain ⟨F3, h3⟩ := O3.out.get
  refine (slen_any h3).mono ?_
  rw [A.out.2.2.1]
  rintro e w4 ⟨rfl, rfl⟩
  go_wp2_with fail
  refine (smade_any h3).mono ?_
  rintro e w4 ⟨rfl, rfl⟩
  clear h3
  go_wp2_with fail
  refine (O3.out.st fun F hs => csub_any hs (by have := sz_addA PS.new [107] 5; have := sz_subA (PS.new.addA [107] 5) [107] 5; have : PS.new.sz = 0 := rfl; omega) ((Fit.new.addA _ _).subA _ _) [107] (m := 1) (by unfold UIs; omega)).mono ?_
  rw [A.out.2.2.2]
  rintro e w5 ⟨rfl, o, _⟩
  have HBF := Lib.hid o.below
  clear o
  go_wp2_with fail
  go_ret
  exact ⟨rfl, HBF.out⟩
end Go.Proofs.YtnoocidoblndgaaGreat
