/- Law 17: BankKeeps. No condition. -/
import Derived.Test.YteaigmoldlbjdaaBnkJ
import Derived.Test.YteaigmoldlbjdaaCelS
import Derived.Test.YteaigmoldlbjdaaCln
import Derived.Deep.CutRange
namespace Go.Proofs.Yteaigmoldlbjdaa
open Go.RowKit

/-- tallagelaw17.Act, read. -/
structure Act17 where
  mint : Bool
  t : Int
  src : Int
  dst : Int
  m : Nat
def act17E (a : Act17) : List Value := [.bool a.mint, .int .i64 a.t, .int .i64 a.src, .int .i64 a.dst, .int .u64 (uw0 a.m), .int .u64 (uw1 a.m), .int .u64 (uw2 a.m), .int .u64 (uw3 a.m)]
theorem act17E_len (a : Act17) : (act17E a).length = 8 := rfl
structure Good17 (w : World) (a : Act17) : Prop where
  b_t : -9223372036854775808 ≤ a.t ∧ a.t < 9223372036854775808
  b_src : -9223372036854775808 ≤ a.src ∧ a.src < 9223372036854775808
  b_dst : -9223372036854775808 ≤ a.dst ∧ a.dst < 9223372036854775808
  lt_m : a.m < uMax
theorem Good17.later {w w' : World} {a : Act17} (h : Good17 w a) (_hb : Below w.heap.size w w') : Good17 w' a := ⟨h.b_t, h.b_src, h.b_dst, h.lt_m⟩
theorem Rd.act17 {w : World} {ad : Option Addr} {n cap : Nat} {t : List Act17} (h : Rd w act17E 8 (.slice ad n cap) t) (i : Nat) (hi : i < t.length) :
    ∃ g off, ad = some ⟨g, off, none⟩ ∧ g < w.heap.size ∧ w.cell? ⟨g, off + i * 8, none⟩ = some (.bool t[i].mint) ∧ w.cell? ⟨g, off + i * 8 + 1, none⟩ = some (.int .i64 t[i].t) ∧ w.cell? ⟨g, off + i * 8 + 2, none⟩ = some (.int .i64 t[i].src) ∧ w.cell? ⟨g, off + i * 8 + 3, none⟩ = some (.int .i64 t[i].dst) ∧ w.cell? ⟨g, off + i * 8 + 4, none⟩ = some (.int .u64 (uw0 t[i].m)) ∧ w.cell? ⟨g, off + i * 8 + 5, none⟩ = some (.int .u64 (uw1 t[i].m)) ∧ w.cell? ⟨g, off + i * 8 + 6, none⟩ = some (.int .u64 (uw2 t[i].m)) ∧ w.cell? ⟨g, off + i * 8 + 7, none⟩ = some (.int .u64 (uw3 t[i].m)) := by
  have hne : t ≠ [] := by rintro rfl; simp at hi
  obtain ⟨ax, cx, e3, _, _, h3⟩ := h
  obtain ⟨b, off, e4, hb, h5⟩ := h3 hne
  exact ⟨b, off, (Value.slice.inj e3).1.trans e4, hb, h5 i hi 0 (by decide), h5 i hi 1 (by decide), h5 i hi 2 (by decide), h5 i hi 3 (by decide), h5 i hi 4 (by decide), h5 i hi 5 (by decide), h5 i hi 6 (by decide), h5 i hi 7 (by decide)⟩
theorem Try.zeroAct17 (w : World) : (zeroValue 39).run Try.prog w = .ok (.agg #[.bool false, .int .i64 0, .int .i64 0, .int .i64 0, .int .u64 0, .int .u64 0, .int .u64 0, .int .u64 0]) w := by kernel_rfl
theorem Try.sizeAct17 : (Try.prog.info? 39).map (·.size) = some 8 := by kernel_rfl
theorem litA17 (w : World) (a : Act17) : Rd (w.alloc (.cells #[.bool a.mint, .int .i64 a.t, .int .i64 a.src, .int .i64 a.dst, .int .u64 (uw0 a.m), .int .u64 (uw1 a.m), .int .u64 (uw2 a.m), .int .u64 (uw3 a.m)] 39)) act17E 8 (.slice (some ⟨w.heap.size, 0, none⟩) 1 1) [a] := by
  refine ⟨_, 1, rfl, Nat.le_refl _, (by unfold maxLen; decide), fun _ => ⟨_, 0, rfl, by rw [World.size_alloc]; omega, fun i hi j hj => ?_⟩⟩
  have h := heap_alloc_new w (.cells #[.bool a.mint, .int .i64 a.t, .int .i64 a.src, .int .i64 a.dst, .int .u64 (uw0 a.m), .int .u64 (uw1 a.m), .int .u64 (uw2 a.m), .int .u64 (uw3 a.m)] 39)
  simp only [List.length_singleton] at hi
  obtain rfl : i = 0 := by omega
  match j, hj with
  | 0, _ => exact Lib.cell_of_heap h 0
  | 1, _ => exact Lib.cell_of_heap h 1
  | 2, _ => exact Lib.cell_of_heap h 2
  | 3, _ => exact Lib.cell_of_heap h 3
  | 4, _ => exact Lib.cell_of_heap h 4
  | 5, _ => exact Lib.cell_of_heap h 5
  | 6, _ => exact Lib.cell_of_heap h 6
  | 7, _ => exact Lib.cell_of_heap h 7

/-- What was minted, as the law keeps it. -/
def MC (a b c : Nat) : Array Value := #[.int .u64 0, .int .u64 0, .int .u64 0, .int .u64 0, .int .u64 (uw0 a), .int .u64 (uw1 a), .int .u64 (uw2 a), .int .u64 (uw3 a), .int .u64 (uw0 b), .int .u64 (uw1 b), .int .u64 (uw2 b), .int .u64 (uw3 b), .int .u64 (uw0 c), .int .u64 (uw1 c), .int .u64 (uw2 c), .int .u64 (uw3 c)]
theorem MC_zero : MC 0 0 0 = #[.int .u64 0, .int .u64 0, .int .u64 0, .int .u64 0, .int .u64 0, .int .u64 0, .int .u64 0, .int .u64 0, .int .u64 0, .int .u64 0, .int .u64 0, .int .u64 0, .int .u64 0, .int .u64 0, .int .u64 0, .int .u64 0] := by kernel_rfl
theorem Try.zeroM4 (w : World) : (zeroValue 37).run Try.prog w = .ok (.agg #[.int .u64 0, .int .u64 0, .int .u64 0, .int .u64 0, .int .u64 0, .int .u64 0, .int .u64 0, .int .u64 0, .int .u64 0, .int .u64 0, .int .u64 0, .int .u64 0, .int .u64 0, .int .u64 0, .int .u64 0, .int .u64 0]) w := by kernel_rfl
theorem Try.sizeM4 : (Try.prog.info? 37).map (·.size) = some 16 := by kernel_rfl
theorem payE_pos (s : PS) (t x y : Int) (m : Nat) : 0 ≤ payE s t x y m := by unfold payE moveE; split; decide; split; decide; split; decide; split <;> decide
theorem mintE_pos (s : PS) (t n : Int) (m : Nat) : 0 ≤ mintE s t n m := by
  have h : ∀ (f : Txt → Option Txt) k, 0 ≤ addE f k m := fun f k => by unfold addE; split <;> decide
  unfold mintE; split; decide; split; exact h _ _; exact h _ _
theorem Keeps.tot {s : PS} {m : Int → Nat} {i : Nat} (h : Keeps s m i) {t : Int} (h1 : 1 ≤ t) (h3 : t ≤ 3) : totF (underP s.t) t = m t := by
  unfold totF begs totT totT totT totT totT
  rw [sumL_under, sumL_under, sumL_under, sumL_under, h.acc t h1 h3, h.oth 3 t h1 h3 (.inl rfl), h.oth 4 t h1 h3 (.inr (.inl rfl)), h.oth 6 t h1 h3 (.inr (.inr rfl))]
  omega
theorem Keeps.totB {s : PS} {m : Int → Nat} {i : Nat} (h : Keeps s m i) {t : Int} (h1 : 1 ≤ t) (h3 : t ≤ 3) : totB (underP s.t) t = true := by
  unfold Go.Proofs.Yteaigmoldlbjdaa.totB
  rw [h.tot h1 h3]
  exact decide_eq_true ⟨⟨h1, by omega⟩, uHalf_max (h.lt t h1 h3)⟩

theorem one_cells {w w' w0 : World} {g : Nat} {s : PS} {X : Nat} {cs : Array Value} {T : TypeId} (h : One w0 w g s) (hX : w.heap[X]? = some (.cells cs T (0, 0))) (hT : stoKind (.cells cs T (0, 0)) = false) (hk : Keep (· = X) w w') (hw : w0.heap.size ≤ X) : One w0 w' g s := by
  obtain ⟨F, h1, h2, h3⟩ := h
  refine ⟨F, h1.keep hk fun x hx e => ?_, h2, h3.trans (hk.below (B := w0.heap.size) (fun y hy e => by omega) h3.size)⟩
  obtain ⟨o, ho, hs⟩ := h1.kind x hx
  subst e
  rw [hX] at ho
  cases ho
  rw [hT] at hs
  cases hs

set_option maxHeartbeats 32000000 in
set_option maxRecDepth 100000 in
theorem keeps17_any {w : World} {v : Value} {l : List Act17} (h1 : Rd w act17E 8 v l) (hgd : ∀ a ∈ l, Good17 w a) :
    Calls Try.prog 5 #[v] w (Ret w (.bool true)) := by
  obtain ⟨ad, cap, e1, c1, c1'⟩ := h1.shape
  obtain ⟨n, hn⟩ : ∃ n, n = l.length := ⟨_, rfl⟩
  rw [← hn] at e1 c1
  subst e1
  have H1 := Lib.hid h1; have HN := Lib.hid hn; have HGD := Lib.hid hgd
  clear h1 hn hgd
  by_cases hbig : 150 < n
  · go_enter Try.func5, Try.ntmps5
    go_wp2_with fail
    refine (lives17_any _).mono ?_
    rintro e w2 ⟨rfl, hb⟩
    have HB := Lib.hid hb
    clear hb
    go_wp2_with fail
    go_ret
    exact ⟨rfl, HB.out⟩
  have P150 : Hid (n ≤ 150) := Lib.hid (by omega)
  go_enter Try.func5, Try.ntmps5
  go_wp2_with fail
  clear hbig
  refine (snew_any _).mono ?_
  rintro e w3 ⟨g, F, rfl, q1, hb3, q3⟩
  have OI : Hid (One w w3 g PS.new) := Lib.hid ⟨F, q1, q3, hb3⟩
  clear q1 hb3 q3
  go_wp2_with (refine wpList_alloc_g rfl _ rfl _ _ Try.zeroM4 rfl ?_)
  intro M a1 hM
  have WM : Hid (w.heap.size ≤ M) := Lib.hid (by rw [hM.out.eq]; exact (OI.out.below).size)
  have HMz := Lib.hid hM.out.cells; have hbM := hM.out.below
  clear hM
  have OIm := Lib.hid (OI.out.later hbM)
  clear hbM OI
  have OI := OIm
  clear OIm
  have HM := HMz
  clear HMz
  go_wp2_with fail
  go_loopw [22] (fun vi wr => ∃ (i : Nat) (s : PS) (m : Int → Nat), vi = .int .i64 i ∧ i ≤ n ∧ Hid (Keeps s m i) ∧ Hid (One w wr g s) ∧ Hid (wr.heap[M]? = some (.cells (MC (m 1) (m 2) (m 3)) 37 (0, 0)))) (fun vi _ => n - (intOf vi).toNat)
  case atStart => exact ⟨0, _, fun _ => 0, rfl, Nat.zero_le _, Lib.hid Keeps.new, OI, Lib.hid (by have h9 := HM.out; rw [← MC_zero] at h9; exact h9)⟩
  case round =>
    clear OI HM
    obtain ⟨i, s, m, rfl, hin, HK, OI, HM⟩ := hrel
    by_cases hlt : i < n
    · have hj : i < l.length := by rw [← HN.out]; exact hlt
      obtain ⟨gL, off, rfl, hgL, q0, q1, q2, q3, q4, q5, q6, q7⟩ := Rd.act17 H1.out i hj
      have hbw := OI.out.below
      have q0' := (hbw.cell (p := ⟨gL, off + i * 8, none⟩) hgL).trans q0
      have q1' := (hbw.cell (p := ⟨gL, off + i * 8 + 1, none⟩) hgL).trans q1
      have q2' := (hbw.cell (p := ⟨gL, off + i * 8 + 2, none⟩) hgL).trans q2
      have q3' := (hbw.cell (p := ⟨gL, off + i * 8 + 3, none⟩) hgL).trans q3
      have q4' := (hbw.cell (p := ⟨gL, off + i * 8 + 4, none⟩) hgL).trans q4
      have q5' := (hbw.cell (p := ⟨gL, off + i * 8 + 5, none⟩) hgL).trans q5
      have q6' := (hbw.cell (p := ⟨gL, off + i * 8 + 6, none⟩) hgL).trans q6
      have q7' := (hbw.cell (p := ⟨gL, off + i * 8 + 7, none⟩) hgL).trans q7
      have hmem : l[i] ∈ l := List.getElem_mem hj
      obtain ⟨a, ha⟩ : ∃ a, a = l[i] := ⟨_, rfl⟩
      rw [← ha] at hmem q0' q1' q2' q3' q4' q5' q6' q7'
      have HJL := Lib.hid hlt; have HGX := Lib.hid (HGD.out a hmem)
      have HSZ : Hid (s.sz < 2000) := Lib.hid (by have h8 := HK.out.sz; have h9 := P150.out; omega)
      clear ha q0 q1 q2 q3 q4 q5 q6 q7 hgL hj hmem hbw
      go_wp2_with (refine wpList_alloc_g rfl _ rfl _ _ Try.zeroAct17 rfl ?_)
      intro R d1 hR
      have WR : Hid (w.heap.size ≤ R) := Lib.hid (by rw [hR.out.eq]; exact (OI.out.below).size)
      have NMR : Hid (M ≠ R) := Lib.hid (by have := hR.out.eq; have := heap_lt HM.out; omega)
      have HRz := Lib.hid hR.out.cells; have hbR := hR.out.below
      clear hR
      have OIm := Lib.hid (OI.out.later hbR)
      have HMm := Lib.hid (below_at' hbR HM.out)
      clear hbR OI HM
      have OI := OIm
      have HM := HMm
      clear OIm HMm
      have HR := HRz
      clear HRz
      go_wp2_with (refine wpList_store_row_g (t := 39) (old := #[.bool false, .int .i64 0, .int .i64 0, .int .i64 0, .int .u64 0, .int .u64 0, .int .u64 0, .int .u64 0]) rfl 39 _ _ rfl R #[.bool a.mint, .int .i64 a.t, .int .i64 a.src, .int .i64 a.dst, .int .u64 (uw0 a.m), .int .u64 (uw1 a.m), .int .u64 (uw2 a.m), .int .u64 (uw3 a.m)] rfl rfl HR.out Try.sizeAct17 rfl (by simp [Value.oneCell']) ?_)
      intro d2 hxR kR zR
      clear zR
      have OIm := Lib.hid (one_cells OI.out HR.out rfl kR WR.out)
      have HMm := Lib.hid (kR.at HM.out NMR.out)
      have HRm := Lib.hid hxR
      clear hxR kR OI HM HR
      have OI := OIm
      have HM := HMm
      have HR := HRm
      clear OIm HMm HRm
      clear q0' q1' q2' q3' q4' q5' q6' q7'
      have c1 : d2.cell? ⟨R, 1, none⟩ = some (.int .i64 a.t) := Lib.cell_of_heap HR.out 1
      by_cases t0 : a.t < 1
      · go_wp2_with fail
        go_roundw
        case rel => exact ⟨i + 1, s, m, by go_num, HJL.out, Lib.hid HK.out.skip, OI, HM⟩
        case measure => have := HJL.out; simp [intOf]; omega
      by_cases t3 : 3 < a.t
      · go_wp2_with fail
        go_roundw
        case rel => exact ⟨i + 1, s, m, by go_num, HJL.out, Lib.hid HK.out.skip, OI, HM⟩
        case measure => have := HJL.out; simp [intOf]; omega
      have HT : Hid (1 ≤ a.t ∧ a.t ≤ 3) := Lib.hid (by omega)
      have c0 : d2.cell? ⟨R, 0, none⟩ = some (.bool a.mint) := Lib.cell_of_heap HR.out 0
      go_upto_if 35 with fail
      clear c0 c1 t0 t3
      go_cut [7, 22] from 22 to 108 (fun s7 s22 wx => ∃ (er : Int) (s' : PS) (m' : Int → Nat), s7 = .int .i64 er ∧ s22 = .int .i64 i ∧ Hid (0 ≤ er) ∧ Hid (Keeps s' m' (i + 1)) ∧ Hid (One w wx g s') ∧ Hid (wx.heap[M]? = some (.cells (MC (m' 1) (m' 2) (m' 3)) 37 (0, 0))))
      case first =>
        cases hmt : a.mint with
        | false =>
          have c1 : d2.cell? ⟨R, 1, none⟩ = some (.int .i64 a.t) := Lib.cell_of_heap HR.out 1
          have c2 : d2.cell? ⟨R, 2, none⟩ = some (.int .i64 a.src) := Lib.cell_of_heap HR.out 2
          have c3 : d2.cell? ⟨R, 3, none⟩ = some (.int .i64 a.dst) := Lib.cell_of_heap HR.out 3
          have c4 : d2.cell? ⟨R, 4, none⟩ = some (.int .u64 (uw0 a.m)) := Lib.cell_of_heap HR.out 4
          have c5 : d2.cell? ⟨R, 5, none⟩ = some (.int .u64 (uw1 a.m)) := Lib.cell_of_heap HR.out 5
          have c6 : d2.cell? ⟨R, 6, none⟩ = some (.int .u64 (uw2 a.m)) := Lib.cell_of_heap HR.out 6
          have c7 : d2.cell? ⟨R, 7, none⟩ = some (.int .u64 (uw3 a.m)) := Lib.cell_of_heap HR.out 7
          go_wp2_with fail
          clear c1 c2 c3 c4 c5 c6 c7
          refine (OI.out.st fun F hs => pay_any hs (by have := HSZ.out; omega) HK.out.fit HGX.out.b_t HGX.out.b_src HGX.out.b_dst (uw_is HGX.out.lt_m)).mono ?_
          rintro e d3 ⟨rfl, o, hoth⟩
          have OIm := Lib.hid o
          have HMm := Lib.hid (hoth.2 M _ HM.out rfl rfl)
          have HRm := Lib.hid (hoth.2 R _ HR.out rfl rfl)
          clear o hoth OI HM HR
          have OI := OIm
          have HM := HMm
          have HR := HRm
          clear OIm HMm HRm
          have HKP := Lib.hid (HK.out.pay (a := a.src) (b := a.dst) (x := a.m) HT.out.1 HT.out.2)
          have HPP := Lib.hid (payE_pos s a.t a.src a.dst a.m)
          go_wp2_with fail
          go_meet
          case rel => exact ⟨_, _, m, rfl, rfl, HPP, HKP, OI, HM⟩
        | true =>
          have KM := Lib.hid (HK.out.mint (n := a.dst) (x := a.m) HT.out.1 HT.out.2)
          have HPP := Lib.hid (mintE_pos s a.t a.dst a.m)
          have c1 : d2.cell? ⟨R, 1, none⟩ = some (.int .i64 a.t) := Lib.cell_of_heap HR.out 1
          have c3 : d2.cell? ⟨R, 3, none⟩ = some (.int .i64 a.dst) := Lib.cell_of_heap HR.out 3
          have c4 : d2.cell? ⟨R, 4, none⟩ = some (.int .u64 (uw0 a.m)) := Lib.cell_of_heap HR.out 4
          have c5 : d2.cell? ⟨R, 5, none⟩ = some (.int .u64 (uw1 a.m)) := Lib.cell_of_heap HR.out 5
          have c6 : d2.cell? ⟨R, 6, none⟩ = some (.int .u64 (uw2 a.m)) := Lib.cell_of_heap HR.out 6
          have c7 : d2.cell? ⟨R, 7, none⟩ = some (.int .u64 (uw3 a.m)) := Lib.cell_of_heap HR.out 7
          go_wp2_with fail
          clear c1 c3 c4 c5 c6 c7
          obtain ⟨er, her⟩ : ∃ er, er = mintE s a.t a.dst a.m := ⟨_, rfl⟩
          have HER := Lib.hid her
          clear her
          refine (OI.out.st fun F hs => mint_any hs (by have := HSZ.out; omega) HK.out.fit HGX.out.b_t HGX.out.b_dst (uw_is HGX.out.lt_m)).mono ?_
          rw [← HER.out]
          rintro e d3 ⟨rfl, o, hoth⟩
          have OIm := Lib.hid o
          have HMm := Lib.hid (hoth.2 M _ HM.out rfl rfl)
          have HRm := Lib.hid (hoth.2 R _ HR.out rfl rfl)
          clear o hoth OI HM HR
          have OI := OIm
          have HM := HMm
          have HR := HRm
          clear OIm HMm HRm
          rw [← HER.out] at HPP
          by_cases he : er = 0
          · subst he
            have KG : Hid (m a.t + a.m < uHalf ∧ Keeps (s.mint a.t a.dst a.m) (fun u => if u = a.t then m a.t + a.m else m u) (i + 1)) := Lib.hid (by
              rcases KM.out with ⟨_, h9, h8⟩ | ⟨h9, _⟩
              · exact ⟨h9, h8⟩
              · exact absurd HER.out.symm h9)
            obtain ⟨s2, hs2⟩ : ∃ q, q = s.mint a.t a.dst a.m := ⟨_, rfl⟩
            rw [← hs2] at KG OI
            clear hs2 KM HER HPP
            go_upto_region 13 with fail
            rcases (show a.t = 1 ∨ a.t = 2 ∨ a.t = 3 by have := HT.out; omega) with ht | ht | ht
            · have hr9 := HR.out
              rw [ht] at hr9
              have hk9 := KG.out
              rw [ht] at hk9
              obtain ⟨m1, m2, m3, e1, e2, e3⟩ : ∃ m1 m2 m3, m1 = m 1 ∧ m2 = m 2 ∧ m3 = m 3 := ⟨_, _, _, rfl, rfl, rfl⟩
              have hm9 := HM.out
              rw [← e1, ← e2, ← e3] at hm9
              rw [← e1] at hk9
              have HLF : Hid (m1 + a.m < uMax ∧ m1 < uMax) := Lib.hid (by have := hk9.1; have := uHalf_max this; omega)
              have HKG := Lib.hid hk9.2; have EE := Lib.hid (And.intro e1 (And.intro e2 e3))
              clear hk9 KG e1 e2 e3 HR HM
              have HR := Lib.hid hr9; have HM := Lib.hid hm9
              clear hr9 hm9 ht
              obtain ⟨d4, hwz⟩ : ∃ wz, wz = d3.drew := ⟨_, rfl⟩
              have hbz : Below d3.heap.size d3 d4 := by rw [hwz]; exact (Below.refl _ _).drew
              have OIm := Lib.hid (OI.out.later hbz)
              have HMm := Lib.hid (below_at' hbz HM.out)
              have HRm := Lib.hid (below_at' hbz HR.out)
              clear hbz OI HM HR
              have OI := OIm
              have HM := HMm
              have HR := HRm
              clear OIm HMm HRm
              have hS : d4.heap[R]? = some (.cells #[.bool a.mint, .int .i64 1, .int .i64 a.src, .int .i64 a.dst, .int .u64 (uw0 a.m), .int .u64 (uw1 a.m), .int .u64 (uw2 a.m), .int .u64 (uw3 a.m)] 39 (0, 0)) ∧ d4.heap[M]? = some (.cells (MC m1 m2 m3) 37 (0, 0)) := ⟨HR.out, HM.out⟩
              refine wp_region_till (fun w' => w'.heap[R]? = some (.cells #[.bool a.mint, .int .i64 1, .int .i64 a.src, .int .i64 a.dst, .int .u64 (uw0 a.m), .int .u64 (uw1 a.m), .int .u64 (uw2 a.m), .int .u64 (uw3 a.m)] 39 (0, 0)) ∧ w'.heap[M]? = some (.cells (MC m1 m2 m3) 37 (0, 0))) 13 13 (by kernel_rfl) rfl ?_
              rw [← hwz]
              clear hwz
              refine till_take 0 (some 47) rfl rfl (by kernel_rfl) (by kernel_rfl) (by kernel_rfl) (by kernel_rfl) (by kernel_rfl) (by kernel_rfl) (fun _ _ _ h => h) (.inl ⟨by rfl, fun w' _ => (by go_simp; rfl)⟩) hS ?_
              go_frame
              refine till_take 1 (some 48) rfl rfl (by kernel_rfl) (by kernel_rfl) (by kernel_rfl) (by kernel_rfl) (by kernel_rfl) (by kernel_rfl) (fun _ _ _ h => h) (.inl ⟨by rfl, fun w' hS' => (by have hc : w'.cell? ⟨R, 1, none⟩ = some (.int .i64 1) := Lib.cell_of_heap (hS'.1) 1; go_simp; rfl)⟩) hS ?_
              go_frame
              refine till_take 2 (some 49) rfl rfl (by kernel_rfl) (by kernel_rfl) (by kernel_rfl) (by kernel_rfl) (by kernel_rfl) (by kernel_rfl) (fun _ _ _ h => h) (.inl ⟨by rfl, fun w' _ => (by go_simp; rfl)⟩) hS ?_
              go_frame
              refine till_take 3 (some 50) rfl rfl (by kernel_rfl) (by kernel_rfl) (by kernel_rfl) (by kernel_rfl) (by kernel_rfl) (by kernel_rfl) (fun _ _ _ h => h) (yields_load (by rfl) 24 _ rfl (.pointer (some ⟨M, 4, none⟩)) rfl (.agg #[.int .u64 (uw0 m1), .int .u64 (uw1 m1), .int .u64 (uw2 m1), .int .u64 (uw3 m1)]) (fun w' hS' => run_loadAt_mid w' M 4 24 [.int .u64 (uw0 m1), .int .u64 (uw1 m1), .int .u64 (uw2 m1), .int .u64 (uw3 m1)] _ (range_of_heap (hS'.2) 4 _ rfl) Try.underlying24 rfl Try.sizeU)) hS ?_
              go_frame
              refine till_take 4 (some 51) rfl rfl (by kernel_rfl) (by kernel_rfl) (by kernel_rfl) (by kernel_rfl) (by kernel_rfl) (by kernel_rfl) (fun _ _ _ h => h) (.inl ⟨by rfl, fun w' _ => (by go_simp; rfl)⟩) hS ?_
              go_frame
              refine till_take 5 (some 52) rfl rfl (by kernel_rfl) (by kernel_rfl) (by kernel_rfl) (by kernel_rfl) (by kernel_rfl) (by kernel_rfl) (fun _ _ _ h => h) (yields_load (by rfl) 24 _ rfl (.pointer (some ⟨R, 4, none⟩)) rfl (.agg #[.int .u64 (uw0 a.m), .int .u64 (uw1 a.m), .int .u64 (uw2 a.m), .int .u64 (uw3 a.m)]) (fun w' hS' => run_loadAt_mid w' R 4 24 [.int .u64 (uw0 a.m), .int .u64 (uw1 a.m), .int .u64 (uw2 a.m), .int .u64 (uw3 a.m)] _ (range_of_heap (hS'.1) 4 _ rfl) Try.underlying24 rfl Try.sizeU)) hS ?_
              go_frame
              refine till_two 6 10 rfl rfl (by kernel_rfl) (fun K hK => ?_) (fun K hK => ?_)
              · simp only [List.getElem_toArray, List.getElem_cons_succ, List.getElem_cons_zero]
                rw [if_pos (by rfl)]
                go_simp
                refine (radd_any (uw_is HLF.out.2) (uw_is HGX.out.lt_m) _).mono ?_
                rw [decide_eq_true HLF.out.1]
                rintro e d5 ⟨ya, yb, yc, yd, hu, rfl, hb⟩
                first | rw [if_pos trivial] at hu | rw [if_pos rfl] at hu
                have HYU := Lib.hid hu
                clear hu
                have OIm := Lib.hid (OI.out.later hb)
                have HMm := Lib.hid (below_at' hb HM.out)
                have HRm := Lib.hid (below_at' hb HR.out)
                clear hb OI HM HR
                have OI := OIm
                have HM := HMm
                have HR := HRm
                clear OIm HMm HRm
                have hS2 : d5.heap[R]? = some (.cells #[.bool a.mint, .int .i64 1, .int .i64 a.src, .int .i64 a.dst, .int .u64 (uw0 a.m), .int .u64 (uw1 a.m), .int .u64 (uw2 a.m), .int .u64 (uw3 a.m)] 39 (0, 0)) ∧ d5.heap[M]? = some (.cells (MC m1 m2 m3) 37 (0, 0)) := ⟨HR.out, HM.out⟩
                refine hK _ _ (fun _ _ => hS2) ?_
                clear hK hS
                have hS := hS2
                clear hS2
                refine till_take 7 (some 46) rfl rfl (by kernel_rfl) (by kernel_rfl) (by kernel_rfl) (by kernel_rfl) (by kernel_rfl) (by kernel_rfl) (fun _ _ _ h => h) (.inl ⟨by rfl, fun w' _ => (by go_simp; rfl)⟩) hS ?_
                go_frame
                refine till_take 8 (some 54) rfl rfl (by kernel_rfl) (by kernel_rfl) (by kernel_rfl) (by kernel_rfl) (by kernel_rfl) (by kernel_rfl) (fun _ _ _ h => h) (.inl ⟨by rfl, fun w' _ => (by go_simp; rfl)⟩) hS ?_
                go_frame
                refine till_take 9 (some 55) rfl rfl (by kernel_rfl) (by kernel_rfl) (by kernel_rfl) (by kernel_rfl) (by kernel_rfl) (by kernel_rfl) (fun _ _ _ h => h) (.inl ⟨by rfl, fun w' _ => (by go_simp; rfl)⟩) hS ?_
                go_frame
                refine till_one 10 rfl (by kernel_rfl) fun K hK => ?_
                simp only [List.getElem_toArray, List.getElem_cons_succ, List.getElem_cons_zero]
                rw [if_pos (by rfl)]
                refine wp_alloc_g 24 rfl _ _ Try.zeroUz rfl ?_
                intro P d6 hP
                have WP : Hid (w.heap.size ≤ P) := Lib.hid (by rw [hP.out.eq]; exact (OI.out.below).size)
                have NMP : Hid (M ≠ P) := Lib.hid (by have := hP.out.eq; have := heap_lt HM.out; omega)
                have NRP : Hid (R ≠ P) := Lib.hid (by have := hP.out.eq; have := heap_lt HR.out; omega)
                have HPz := Lib.hid hP.out.cells; have hbP := hP.out.below
                clear hP
                have OIm := Lib.hid (OI.out.later hbP)
                have HMm := Lib.hid (below_at' hbP HM.out)
                have HRm := Lib.hid (below_at' hbP HR.out)
                clear hbP OI HM HR
                have OI := OIm
                have HM := HMm
                have HR := HRm
                clear OIm HMm HRm
                have HP := HPz
                clear HPz
                have hS2 : d6.heap[R]? = some (.cells #[.bool a.mint, .int .i64 1, .int .i64 a.src, .int .i64 a.dst, .int .u64 (uw0 a.m), .int .u64 (uw1 a.m), .int .u64 (uw2 a.m), .int .u64 (uw3 a.m)] 39 (0, 0)) ∧ d6.heap[M]? = some (.cells (MC m1 m2 m3) 37 (0, 0)) := ⟨HR.out, HM.out⟩
                refine hK _ _ (fun _ _ => hS2) ?_
                clear hK hS
                have hS := hS2
                clear hS2
                refine till_one 11 rfl (by kernel_rfl) fun K hK => ?_
                simp only [List.getElem_toArray, List.getElem_cons_succ, List.getElem_cons_zero]
                rw [if_pos (by rfl)]
                refine wp_store_row_g (t := 24) (old := u0) 24 _ _ rfl P #[.int .u64 ya, .int .u64 yb, .int .u64 yc, .int .u64 yd] rfl rfl HP.out Try.sizeU rfl (one_u64 _ _ _ _) ?_
                intro d7 hxP kP zP
                clear zP
                have OIm := Lib.hid (one_cells OI.out HP.out rfl kP WP.out)
                have HMm := Lib.hid (kP.at HM.out NMP.out)
                have HRm := Lib.hid (kP.at HR.out NRP.out)
                have HPm := Lib.hid hxP
                clear hxP kP OI HM HR HP
                have OI := OIm
                have HM := HMm
                have HR := HRm
                have HP := HPm
                clear OIm HMm HRm HPm
                have hS2 : d7.heap[R]? = some (.cells #[.bool a.mint, .int .i64 1, .int .i64 a.src, .int .i64 a.dst, .int .u64 (uw0 a.m), .int .u64 (uw1 a.m), .int .u64 (uw2 a.m), .int .u64 (uw3 a.m)] 39 (0, 0)) ∧ d7.heap[M]? = some (.cells (MC m1 m2 m3) 37 (0, 0)) := ⟨HR.out, HM.out⟩
                refine hK _ _ (fun _ _ => hS2) ?_
                clear hK hS
                have hS := hS2
                clear hS2
                refine till_take 12 (some 9) rfl rfl (by kernel_rfl) (by kernel_rfl) (by kernel_rfl) (by kernel_rfl) (by kernel_rfl) (by kernel_rfl) (fun _ _ _ h => h) (.inl ⟨by rfl, fun w' _ => (by go_simp; rfl)⟩) hS ?_
                go_frame
                refine till_done (by kernel_rfl) ?_ _
                clear hS
                obtain ⟨e0, e1, e2, e3⟩ := HYU.out.uw
                subst e0; subst e1; subst e2; subst e3
                clear HYU
                have c1 : d7.cell? ⟨R, 1, none⟩ = some (.int .i64 1) := Lib.cell_of_heap HR.out 1
                go_wp2_with (first
                  | (refine wpList_load_row rfl 24 _ rfl P rfl 24 _ _ _ HP.out Try.underlying24 rfl Try.sizeU ?_)
                  | (refine wpList_store_part_g rfl 24 _ _ rfl M 4 #[.int .u64 (uw0 (m1 + a.m)), .int .u64 (uw1 (m1 + a.m)), .int .u64 (uw2 (m1 + a.m)), .int .u64 (uw3 (m1 + a.m))] rfl rfl 37 _ HM.out Try.sizeU (by simp [MC]) (one_u64 _ _ _ _) (MC (m1 + a.m) m2 m3) rfl ?_))
                intro d8 hxM kM zM
                clear zM c1
                have OIm := Lib.hid (one_cells OI.out HM.out rfl kM WM.out)
                have HRm := Lib.hid (kM.at HR.out (fun e => NMR.out e.symm))
                have HPm := Lib.hid (kM.at HP.out (fun e => NMP.out e.symm))
                have HMm := Lib.hid hxM
                clear hxM kM OI HM HR HP
                have OI := OIm
                have HM := HMm
                have HR := HRm
                have HP := HPm
                clear OIm HMm HRm HPm
                go_wp2_with fail
                go_meet
                case rel => exact ⟨0, s2, _, rfl, rfl, Lib.hid (Int.le_refl _), HKG, OI, Lib.hid (by
                  have h9 := HM.out
                  rw [EE.out.2.1, EE.out.2.2] at h9
                  simpa using h9)⟩
              · simp only [List.getElem_toArray, List.getElem_cons_succ, List.getElem_cons_zero]
                rw [if_pos (by rfl)]
                refine wp_alloc_g 24 rfl _ _ Try.zeroUz rfl ?_
                intro P d5 hP
                have WP : Hid (w.heap.size ≤ P) := Lib.hid (by rw [hP.out.eq]; exact (OI.out.below).size)
                have NMP : Hid (M ≠ P) := Lib.hid (by have := hP.out.eq; have := heap_lt HM.out; omega)
                have NRP : Hid (R ≠ P) := Lib.hid (by have := hP.out.eq; have := heap_lt HR.out; omega)
                have HPz := Lib.hid hP.out.cells; have hbP := hP.out.below
                clear hP
                have OIm := Lib.hid (OI.out.later hbP)
                have HMm := Lib.hid (below_at' hbP HM.out)
                have HRm := Lib.hid (below_at' hbP HR.out)
                clear hbP OI HM HR
                have OI := OIm
                have HM := HMm
                have HR := HRm
                clear OIm HMm HRm
                have HP := HPz
                clear HPz
                have hS2 : d5.heap[R]? = some (.cells #[.bool a.mint, .int .i64 1, .int .i64 a.src, .int .i64 a.dst, .int .u64 (uw0 a.m), .int .u64 (uw1 a.m), .int .u64 (uw2 a.m), .int .u64 (uw3 a.m)] 39 (0, 0)) ∧ d5.heap[M]? = some (.cells (MC m1 m2 m3) 37 (0, 0)) := ⟨HR.out, HM.out⟩
                refine hK _ _ (fun _ _ => hS2) ?_
                clear hK hS
                have hS := hS2
                clear hS2
                refine till_one 6 rfl (by kernel_rfl) fun K hK => ?_
                simp only [List.getElem_toArray, List.getElem_cons_succ, List.getElem_cons_zero]
                rw [if_pos (by rfl)]
                go_simp
                refine (radd_any (uw_is HLF.out.2) (uw_is HGX.out.lt_m) _).mono ?_
                rw [decide_eq_true HLF.out.1]
                rintro e d6 ⟨ya, yb, yc, yd, hu, rfl, hb⟩
                first | rw [if_pos trivial] at hu | rw [if_pos rfl] at hu
                have HYU := Lib.hid hu
                clear hu
                have OIm := Lib.hid (OI.out.later hb)
                have HMm := Lib.hid (below_at' hb HM.out)
                have HRm := Lib.hid (below_at' hb HR.out)
                have HPm := Lib.hid (below_at' hb HP.out)
                clear hb OI HM HR HP
                have OI := OIm
                have HM := HMm
                have HR := HRm
                have HP := HPm
                clear OIm HMm HRm HPm
                have hS2 : d6.heap[R]? = some (.cells #[.bool a.mint, .int .i64 1, .int .i64 a.src, .int .i64 a.dst, .int .u64 (uw0 a.m), .int .u64 (uw1 a.m), .int .u64 (uw2 a.m), .int .u64 (uw3 a.m)] 39 (0, 0)) ∧ d6.heap[M]? = some (.cells (MC m1 m2 m3) 37 (0, 0)) := ⟨HR.out, HM.out⟩
                refine hK _ _ (fun _ _ => hS2) ?_
                clear hK hS
                have hS := hS2
                clear hS2
                refine till_take 7 (some 46) rfl rfl (by kernel_rfl) (by kernel_rfl) (by kernel_rfl) (by kernel_rfl) (by kernel_rfl) (by kernel_rfl) (fun _ _ _ h => h) (.inl ⟨by rfl, fun w' _ => (by go_simp; rfl)⟩) hS ?_
                go_frame
                refine till_take 8 (some 54) rfl rfl (by kernel_rfl) (by kernel_rfl) (by kernel_rfl) (by kernel_rfl) (by kernel_rfl) (by kernel_rfl) (fun _ _ _ h => h) (.inl ⟨by rfl, fun w' _ => (by go_simp; rfl)⟩) hS ?_
                go_frame
                refine till_take 9 (some 55) rfl rfl (by kernel_rfl) (by kernel_rfl) (by kernel_rfl) (by kernel_rfl) (by kernel_rfl) (by kernel_rfl) (fun _ _ _ h => h) (.inl ⟨by rfl, fun w' _ => (by go_simp; rfl)⟩) hS ?_
                go_frame
                refine till_one 11 rfl (by kernel_rfl) fun K hK => ?_
                simp only [List.getElem_toArray, List.getElem_cons_succ, List.getElem_cons_zero]
                rw [if_pos (by rfl)]
                refine wp_store_row_g (t := 24) (old := u0) 24 _ _ rfl P #[.int .u64 ya, .int .u64 yb, .int .u64 yc, .int .u64 yd] rfl rfl HP.out Try.sizeU rfl (one_u64 _ _ _ _) ?_
                intro d7 hxP kP zP
                clear zP
                have OIm := Lib.hid (one_cells OI.out HP.out rfl kP WP.out)
                have HMm := Lib.hid (kP.at HM.out NMP.out)
                have HRm := Lib.hid (kP.at HR.out NRP.out)
                have HPm := Lib.hid hxP
                clear hxP kP OI HM HR HP
                have OI := OIm
                have HM := HMm
                have HR := HRm
                have HP := HPm
                clear OIm HMm HRm HPm
                have hS2 : d7.heap[R]? = some (.cells #[.bool a.mint, .int .i64 1, .int .i64 a.src, .int .i64 a.dst, .int .u64 (uw0 a.m), .int .u64 (uw1 a.m), .int .u64 (uw2 a.m), .int .u64 (uw3 a.m)] 39 (0, 0)) ∧ d7.heap[M]? = some (.cells (MC m1 m2 m3) 37 (0, 0)) := ⟨HR.out, HM.out⟩
                refine hK _ _ (fun _ _ => hS2) ?_
                clear hK hS
                have hS := hS2
                clear hS2
                refine till_take 12 (some 9) rfl rfl (by kernel_rfl) (by kernel_rfl) (by kernel_rfl) (by kernel_rfl) (by kernel_rfl) (by kernel_rfl) (fun _ _ _ h => h) (.inl ⟨by rfl, fun w' _ => (by go_simp; rfl)⟩) hS ?_
                go_frame
                refine till_done (by kernel_rfl) ?_ _
                clear hS
                obtain ⟨e0, e1, e2, e3⟩ := HYU.out.uw
                subst e0; subst e1; subst e2; subst e3
                clear HYU
                have c1 : d7.cell? ⟨R, 1, none⟩ = some (.int .i64 1) := Lib.cell_of_heap HR.out 1
                go_wp2_with (first
                  | (refine wpList_load_row rfl 24 _ rfl P rfl 24 _ _ _ HP.out Try.underlying24 rfl Try.sizeU ?_)
                  | (refine wpList_store_part_g rfl 24 _ _ rfl M 4 #[.int .u64 (uw0 (m1 + a.m)), .int .u64 (uw1 (m1 + a.m)), .int .u64 (uw2 (m1 + a.m)), .int .u64 (uw3 (m1 + a.m))] rfl rfl 37 _ HM.out Try.sizeU (by simp [MC]) (one_u64 _ _ _ _) (MC (m1 + a.m) m2 m3) rfl ?_))
                intro d8 hxM kM zM
                clear zM c1
                have OIm := Lib.hid (one_cells OI.out HM.out rfl kM WM.out)
                have HRm := Lib.hid (kM.at HR.out (fun e => NMR.out e.symm))
                have HPm := Lib.hid (kM.at HP.out (fun e => NMP.out e.symm))
                have HMm := Lib.hid hxM
                clear hxM kM OI HM HR HP
                have OI := OIm
                have HM := HMm
                have HR := HRm
                have HP := HPm
                clear OIm HMm HRm HPm
                go_wp2_with fail
                go_meet
                case rel => exact ⟨0, s2, _, rfl, rfl, Lib.hid (Int.le_refl _), HKG, OI, Lib.hid (by
                  have h9 := HM.out
                  rw [EE.out.2.1, EE.out.2.2] at h9
                  simpa using h9)⟩
            · have hr9 := HR.out
              rw [ht] at hr9
              have hk9 := KG.out
              rw [ht] at hk9
              obtain ⟨m1, m2, m3, e1, e2, e3⟩ : ∃ m1 m2 m3, m1 = m 1 ∧ m2 = m 2 ∧ m3 = m 3 := ⟨_, _, _, rfl, rfl, rfl⟩
              have hm9 := HM.out
              rw [← e1, ← e2, ← e3] at hm9
              rw [← e2] at hk9
              have HLF : Hid (m2 + a.m < uMax ∧ m2 < uMax) := Lib.hid (by have := hk9.1; have := uHalf_max this; omega)
              have HKG := Lib.hid hk9.2; have EE := Lib.hid (And.intro e1 (And.intro e2 e3))
              clear hk9 KG e1 e2 e3 HR HM
              have HR := Lib.hid hr9; have HM := Lib.hid hm9
              clear hr9 hm9 ht
              obtain ⟨d4, hwz⟩ : ∃ wz, wz = d3.drew := ⟨_, rfl⟩
              have hbz : Below d3.heap.size d3 d4 := by rw [hwz]; exact (Below.refl _ _).drew
              have OIm := Lib.hid (OI.out.later hbz)
              have HMm := Lib.hid (below_at' hbz HM.out)
              have HRm := Lib.hid (below_at' hbz HR.out)
              clear hbz OI HM HR
              have OI := OIm
              have HM := HMm
              have HR := HRm
              clear OIm HMm HRm
              have hS : d4.heap[R]? = some (.cells #[.bool a.mint, .int .i64 2, .int .i64 a.src, .int .i64 a.dst, .int .u64 (uw0 a.m), .int .u64 (uw1 a.m), .int .u64 (uw2 a.m), .int .u64 (uw3 a.m)] 39 (0, 0)) ∧ d4.heap[M]? = some (.cells (MC m1 m2 m3) 37 (0, 0)) := ⟨HR.out, HM.out⟩
              refine wp_region_till (fun w' => w'.heap[R]? = some (.cells #[.bool a.mint, .int .i64 2, .int .i64 a.src, .int .i64 a.dst, .int .u64 (uw0 a.m), .int .u64 (uw1 a.m), .int .u64 (uw2 a.m), .int .u64 (uw3 a.m)] 39 (0, 0)) ∧ w'.heap[M]? = some (.cells (MC m1 m2 m3) 37 (0, 0))) 13 13 (by kernel_rfl) rfl ?_
              rw [← hwz]
              clear hwz
              refine till_take 0 (some 47) rfl rfl (by kernel_rfl) (by kernel_rfl) (by kernel_rfl) (by kernel_rfl) (by kernel_rfl) (by kernel_rfl) (fun _ _ _ h => h) (.inl ⟨by rfl, fun w' _ => (by go_simp; rfl)⟩) hS ?_
              go_frame
              refine till_take 1 (some 48) rfl rfl (by kernel_rfl) (by kernel_rfl) (by kernel_rfl) (by kernel_rfl) (by kernel_rfl) (by kernel_rfl) (fun _ _ _ h => h) (.inl ⟨by rfl, fun w' hS' => (by have hc : w'.cell? ⟨R, 1, none⟩ = some (.int .i64 2) := Lib.cell_of_heap (hS'.1) 1; go_simp; rfl)⟩) hS ?_
              go_frame
              refine till_take 2 (some 49) rfl rfl (by kernel_rfl) (by kernel_rfl) (by kernel_rfl) (by kernel_rfl) (by kernel_rfl) (by kernel_rfl) (fun _ _ _ h => h) (.inl ⟨by rfl, fun w' _ => (by go_simp; rfl)⟩) hS ?_
              go_frame
              refine till_take 3 (some 50) rfl rfl (by kernel_rfl) (by kernel_rfl) (by kernel_rfl) (by kernel_rfl) (by kernel_rfl) (by kernel_rfl) (fun _ _ _ h => h) (yields_load (by rfl) 24 _ rfl (.pointer (some ⟨M, 8, none⟩)) rfl (.agg #[.int .u64 (uw0 m2), .int .u64 (uw1 m2), .int .u64 (uw2 m2), .int .u64 (uw3 m2)]) (fun w' hS' => run_loadAt_mid w' M 8 24 [.int .u64 (uw0 m2), .int .u64 (uw1 m2), .int .u64 (uw2 m2), .int .u64 (uw3 m2)] _ (range_of_heap (hS'.2) 8 _ rfl) Try.underlying24 rfl Try.sizeU)) hS ?_
              go_frame
              refine till_take 4 (some 51) rfl rfl (by kernel_rfl) (by kernel_rfl) (by kernel_rfl) (by kernel_rfl) (by kernel_rfl) (by kernel_rfl) (fun _ _ _ h => h) (.inl ⟨by rfl, fun w' _ => (by go_simp; rfl)⟩) hS ?_
              go_frame
              refine till_take 5 (some 52) rfl rfl (by kernel_rfl) (by kernel_rfl) (by kernel_rfl) (by kernel_rfl) (by kernel_rfl) (by kernel_rfl) (fun _ _ _ h => h) (yields_load (by rfl) 24 _ rfl (.pointer (some ⟨R, 4, none⟩)) rfl (.agg #[.int .u64 (uw0 a.m), .int .u64 (uw1 a.m), .int .u64 (uw2 a.m), .int .u64 (uw3 a.m)]) (fun w' hS' => run_loadAt_mid w' R 4 24 [.int .u64 (uw0 a.m), .int .u64 (uw1 a.m), .int .u64 (uw2 a.m), .int .u64 (uw3 a.m)] _ (range_of_heap (hS'.1) 4 _ rfl) Try.underlying24 rfl Try.sizeU)) hS ?_
              go_frame
              refine till_two 6 10 rfl rfl (by kernel_rfl) (fun K hK => ?_) (fun K hK => ?_)
              · simp only [List.getElem_toArray, List.getElem_cons_succ, List.getElem_cons_zero]
                rw [if_pos (by rfl)]
                go_simp
                refine (radd_any (uw_is HLF.out.2) (uw_is HGX.out.lt_m) _).mono ?_
                rw [decide_eq_true HLF.out.1]
                rintro e d5 ⟨ya, yb, yc, yd, hu, rfl, hb⟩
                first | rw [if_pos trivial] at hu | rw [if_pos rfl] at hu
                have HYU := Lib.hid hu
                clear hu
                have OIm := Lib.hid (OI.out.later hb)
                have HMm := Lib.hid (below_at' hb HM.out)
                have HRm := Lib.hid (below_at' hb HR.out)
                clear hb OI HM HR
                have OI := OIm
                have HM := HMm
                have HR := HRm
                clear OIm HMm HRm
                have hS2 : d5.heap[R]? = some (.cells #[.bool a.mint, .int .i64 2, .int .i64 a.src, .int .i64 a.dst, .int .u64 (uw0 a.m), .int .u64 (uw1 a.m), .int .u64 (uw2 a.m), .int .u64 (uw3 a.m)] 39 (0, 0)) ∧ d5.heap[M]? = some (.cells (MC m1 m2 m3) 37 (0, 0)) := ⟨HR.out, HM.out⟩
                refine hK _ _ (fun _ _ => hS2) ?_
                clear hK hS
                have hS := hS2
                clear hS2
                refine till_take 7 (some 46) rfl rfl (by kernel_rfl) (by kernel_rfl) (by kernel_rfl) (by kernel_rfl) (by kernel_rfl) (by kernel_rfl) (fun _ _ _ h => h) (.inl ⟨by rfl, fun w' _ => (by go_simp; rfl)⟩) hS ?_
                go_frame
                refine till_take 8 (some 54) rfl rfl (by kernel_rfl) (by kernel_rfl) (by kernel_rfl) (by kernel_rfl) (by kernel_rfl) (by kernel_rfl) (fun _ _ _ h => h) (.inl ⟨by rfl, fun w' _ => (by go_simp; rfl)⟩) hS ?_
                go_frame
                refine till_take 9 (some 55) rfl rfl (by kernel_rfl) (by kernel_rfl) (by kernel_rfl) (by kernel_rfl) (by kernel_rfl) (by kernel_rfl) (fun _ _ _ h => h) (.inl ⟨by rfl, fun w' _ => (by go_simp; rfl)⟩) hS ?_
                go_frame
                refine till_one 10 rfl (by kernel_rfl) fun K hK => ?_
                simp only [List.getElem_toArray, List.getElem_cons_succ, List.getElem_cons_zero]
                rw [if_pos (by rfl)]
                refine wp_alloc_g 24 rfl _ _ Try.zeroUz rfl ?_
                intro P d6 hP
                have WP : Hid (w.heap.size ≤ P) := Lib.hid (by rw [hP.out.eq]; exact (OI.out.below).size)
                have NMP : Hid (M ≠ P) := Lib.hid (by have := hP.out.eq; have := heap_lt HM.out; omega)
                have NRP : Hid (R ≠ P) := Lib.hid (by have := hP.out.eq; have := heap_lt HR.out; omega)
                have HPz := Lib.hid hP.out.cells; have hbP := hP.out.below
                clear hP
                have OIm := Lib.hid (OI.out.later hbP)
                have HMm := Lib.hid (below_at' hbP HM.out)
                have HRm := Lib.hid (below_at' hbP HR.out)
                clear hbP OI HM HR
                have OI := OIm
                have HM := HMm
                have HR := HRm
                clear OIm HMm HRm
                have HP := HPz
                clear HPz
                have hS2 : d6.heap[R]? = some (.cells #[.bool a.mint, .int .i64 2, .int .i64 a.src, .int .i64 a.dst, .int .u64 (uw0 a.m), .int .u64 (uw1 a.m), .int .u64 (uw2 a.m), .int .u64 (uw3 a.m)] 39 (0, 0)) ∧ d6.heap[M]? = some (.cells (MC m1 m2 m3) 37 (0, 0)) := ⟨HR.out, HM.out⟩
                refine hK _ _ (fun _ _ => hS2) ?_
                clear hK hS
                have hS := hS2
                clear hS2
                refine till_one 11 rfl (by kernel_rfl) fun K hK => ?_
                simp only [List.getElem_toArray, List.getElem_cons_succ, List.getElem_cons_zero]
                rw [if_pos (by rfl)]
                refine wp_store_row_g (t := 24) (old := u0) 24 _ _ rfl P #[.int .u64 ya, .int .u64 yb, .int .u64 yc, .int .u64 yd] rfl rfl HP.out Try.sizeU rfl (one_u64 _ _ _ _) ?_
                intro d7 hxP kP zP
                clear zP
                have OIm := Lib.hid (one_cells OI.out HP.out rfl kP WP.out)
                have HMm := Lib.hid (kP.at HM.out NMP.out)
                have HRm := Lib.hid (kP.at HR.out NRP.out)
                have HPm := Lib.hid hxP
                clear hxP kP OI HM HR HP
                have OI := OIm
                have HM := HMm
                have HR := HRm
                have HP := HPm
                clear OIm HMm HRm HPm
                have hS2 : d7.heap[R]? = some (.cells #[.bool a.mint, .int .i64 2, .int .i64 a.src, .int .i64 a.dst, .int .u64 (uw0 a.m), .int .u64 (uw1 a.m), .int .u64 (uw2 a.m), .int .u64 (uw3 a.m)] 39 (0, 0)) ∧ d7.heap[M]? = some (.cells (MC m1 m2 m3) 37 (0, 0)) := ⟨HR.out, HM.out⟩
                refine hK _ _ (fun _ _ => hS2) ?_
                clear hK hS
                have hS := hS2
                clear hS2
                refine till_take 12 (some 9) rfl rfl (by kernel_rfl) (by kernel_rfl) (by kernel_rfl) (by kernel_rfl) (by kernel_rfl) (by kernel_rfl) (fun _ _ _ h => h) (.inl ⟨by rfl, fun w' _ => (by go_simp; rfl)⟩) hS ?_
                go_frame
                refine till_done (by kernel_rfl) ?_ _
                clear hS
                obtain ⟨e0, e1, e2, e3⟩ := HYU.out.uw
                subst e0; subst e1; subst e2; subst e3
                clear HYU
                have c1 : d7.cell? ⟨R, 1, none⟩ = some (.int .i64 2) := Lib.cell_of_heap HR.out 1
                go_wp2_with (first
                  | (refine wpList_load_row rfl 24 _ rfl P rfl 24 _ _ _ HP.out Try.underlying24 rfl Try.sizeU ?_)
                  | (refine wpList_store_part_g rfl 24 _ _ rfl M 8 #[.int .u64 (uw0 (m2 + a.m)), .int .u64 (uw1 (m2 + a.m)), .int .u64 (uw2 (m2 + a.m)), .int .u64 (uw3 (m2 + a.m))] rfl rfl 37 _ HM.out Try.sizeU (by simp [MC]) (one_u64 _ _ _ _) (MC m1 (m2 + a.m) m3) rfl ?_))
                intro d8 hxM kM zM
                clear zM c1
                have OIm := Lib.hid (one_cells OI.out HM.out rfl kM WM.out)
                have HRm := Lib.hid (kM.at HR.out (fun e => NMR.out e.symm))
                have HPm := Lib.hid (kM.at HP.out (fun e => NMP.out e.symm))
                have HMm := Lib.hid hxM
                clear hxM kM OI HM HR HP
                have OI := OIm
                have HM := HMm
                have HR := HRm
                have HP := HPm
                clear OIm HMm HRm HPm
                go_wp2_with fail
                go_meet
                case rel => exact ⟨0, s2, _, rfl, rfl, Lib.hid (Int.le_refl _), HKG, OI, Lib.hid (by
                  have h9 := HM.out
                  rw [EE.out.1, EE.out.2.2] at h9
                  simpa using h9)⟩
              · simp only [List.getElem_toArray, List.getElem_cons_succ, List.getElem_cons_zero]
                rw [if_pos (by rfl)]
                refine wp_alloc_g 24 rfl _ _ Try.zeroUz rfl ?_
                intro P d5 hP
                have WP : Hid (w.heap.size ≤ P) := Lib.hid (by rw [hP.out.eq]; exact (OI.out.below).size)
                have NMP : Hid (M ≠ P) := Lib.hid (by have := hP.out.eq; have := heap_lt HM.out; omega)
                have NRP : Hid (R ≠ P) := Lib.hid (by have := hP.out.eq; have := heap_lt HR.out; omega)
                have HPz := Lib.hid hP.out.cells; have hbP := hP.out.below
                clear hP
                have OIm := Lib.hid (OI.out.later hbP)
                have HMm := Lib.hid (below_at' hbP HM.out)
                have HRm := Lib.hid (below_at' hbP HR.out)
                clear hbP OI HM HR
                have OI := OIm
                have HM := HMm
                have HR := HRm
                clear OIm HMm HRm
                have HP := HPz
                clear HPz
                have hS2 : d5.heap[R]? = some (.cells #[.bool a.mint, .int .i64 2, .int .i64 a.src, .int .i64 a.dst, .int .u64 (uw0 a.m), .int .u64 (uw1 a.m), .int .u64 (uw2 a.m), .int .u64 (uw3 a.m)] 39 (0, 0)) ∧ d5.heap[M]? = some (.cells (MC m1 m2 m3) 37 (0, 0)) := ⟨HR.out, HM.out⟩
                refine hK _ _ (fun _ _ => hS2) ?_
                clear hK hS
                have hS := hS2
                clear hS2
                refine till_one 6 rfl (by kernel_rfl) fun K hK => ?_
                simp only [List.getElem_toArray, List.getElem_cons_succ, List.getElem_cons_zero]
                rw [if_pos (by rfl)]
                go_simp
                refine (radd_any (uw_is HLF.out.2) (uw_is HGX.out.lt_m) _).mono ?_
                rw [decide_eq_true HLF.out.1]
                rintro e d6 ⟨ya, yb, yc, yd, hu, rfl, hb⟩
                first | rw [if_pos trivial] at hu | rw [if_pos rfl] at hu
                have HYU := Lib.hid hu
                clear hu
                have OIm := Lib.hid (OI.out.later hb)
                have HMm := Lib.hid (below_at' hb HM.out)
                have HRm := Lib.hid (below_at' hb HR.out)
                have HPm := Lib.hid (below_at' hb HP.out)
                clear hb OI HM HR HP
                have OI := OIm
                have HM := HMm
                have HR := HRm
                have HP := HPm
                clear OIm HMm HRm HPm
                have hS2 : d6.heap[R]? = some (.cells #[.bool a.mint, .int .i64 2, .int .i64 a.src, .int .i64 a.dst, .int .u64 (uw0 a.m), .int .u64 (uw1 a.m), .int .u64 (uw2 a.m), .int .u64 (uw3 a.m)] 39 (0, 0)) ∧ d6.heap[M]? = some (.cells (MC m1 m2 m3) 37 (0, 0)) := ⟨HR.out, HM.out⟩
                refine hK _ _ (fun _ _ => hS2) ?_
                clear hK hS
                have hS := hS2
                clear hS2
                refine till_take 7 (some 46) rfl rfl (by kernel_rfl) (by kernel_rfl) (by kernel_rfl) (by kernel_rfl) (by kernel_rfl) (by kernel_rfl) (fun _ _ _ h => h) (.inl ⟨by rfl, fun w' _ => (by go_simp; rfl)⟩) hS ?_
                go_frame
                refine till_take 8 (some 54) rfl rfl (by kernel_rfl) (by kernel_rfl) (by kernel_rfl) (by kernel_rfl) (by kernel_rfl) (by kernel_rfl) (fun _ _ _ h => h) (.inl ⟨by rfl, fun w' _ => (by go_simp; rfl)⟩) hS ?_
                go_frame
                refine till_take 9 (some 55) rfl rfl (by kernel_rfl) (by kernel_rfl) (by kernel_rfl) (by kernel_rfl) (by kernel_rfl) (by kernel_rfl) (fun _ _ _ h => h) (.inl ⟨by rfl, fun w' _ => (by go_simp; rfl)⟩) hS ?_
                go_frame
                refine till_one 11 rfl (by kernel_rfl) fun K hK => ?_
                simp only [List.getElem_toArray, List.getElem_cons_succ, List.getElem_cons_zero]
                rw [if_pos (by rfl)]
                refine wp_store_row_g (t := 24) (old := u0) 24 _ _ rfl P #[.int .u64 ya, .int .u64 yb, .int .u64 yc, .int .u64 yd] rfl rfl HP.out Try.sizeU rfl (one_u64 _ _ _ _) ?_
                intro d7 hxP kP zP
                clear zP
                have OIm := Lib.hid (one_cells OI.out HP.out rfl kP WP.out)
                have HMm := Lib.hid (kP.at HM.out NMP.out)
                have HRm := Lib.hid (kP.at HR.out NRP.out)
                have HPm := Lib.hid hxP
                clear hxP kP OI HM HR HP
                have OI := OIm
                have HM := HMm
                have HR := HRm
                have HP := HPm
                clear OIm HMm HRm HPm
                have hS2 : d7.heap[R]? = some (.cells #[.bool a.mint, .int .i64 2, .int .i64 a.src, .int .i64 a.dst, .int .u64 (uw0 a.m), .int .u64 (uw1 a.m), .int .u64 (uw2 a.m), .int .u64 (uw3 a.m)] 39 (0, 0)) ∧ d7.heap[M]? = some (.cells (MC m1 m2 m3) 37 (0, 0)) := ⟨HR.out, HM.out⟩
                refine hK _ _ (fun _ _ => hS2) ?_
                clear hK hS
                have hS := hS2
                clear hS2
                refine till_take 12 (some 9) rfl rfl (by kernel_rfl) (by kernel_rfl) (by kernel_rfl) (by kernel_rfl) (by kernel_rfl) (by kernel_rfl) (fun _ _ _ h => h) (.inl ⟨by rfl, fun w' _ => (by go_simp; rfl)⟩) hS ?_
                go_frame
                refine till_done (by kernel_rfl) ?_ _
                clear hS
                obtain ⟨e0, e1, e2, e3⟩ := HYU.out.uw
                subst e0; subst e1; subst e2; subst e3
                clear HYU
                have c1 : d7.cell? ⟨R, 1, none⟩ = some (.int .i64 2) := Lib.cell_of_heap HR.out 1
                go_wp2_with (first
                  | (refine wpList_load_row rfl 24 _ rfl P rfl 24 _ _ _ HP.out Try.underlying24 rfl Try.sizeU ?_)
                  | (refine wpList_store_part_g rfl 24 _ _ rfl M 8 #[.int .u64 (uw0 (m2 + a.m)), .int .u64 (uw1 (m2 + a.m)), .int .u64 (uw2 (m2 + a.m)), .int .u64 (uw3 (m2 + a.m))] rfl rfl 37 _ HM.out Try.sizeU (by simp [MC]) (one_u64 _ _ _ _) (MC m1 (m2 + a.m) m3) rfl ?_))
                intro d8 hxM kM zM
                clear zM c1
                have OIm := Lib.hid (one_cells OI.out HM.out rfl kM WM.out)
                have HRm := Lib.hid (kM.at HR.out (fun e => NMR.out e.symm))
                have HPm := Lib.hid (kM.at HP.out (fun e => NMP.out e.symm))
                have HMm := Lib.hid hxM
                clear hxM kM OI HM HR HP
                have OI := OIm
                have HM := HMm
                have HR := HRm
                have HP := HPm
                clear OIm HMm HRm HPm
                go_wp2_with fail
                go_meet
                case rel => exact ⟨0, s2, _, rfl, rfl, Lib.hid (Int.le_refl _), HKG, OI, Lib.hid (by
                  have h9 := HM.out
                  rw [EE.out.1, EE.out.2.2] at h9
                  simpa using h9)⟩
            · have hr9 := HR.out
              rw [ht] at hr9
              have hk9 := KG.out
              rw [ht] at hk9
              obtain ⟨m1, m2, m3, e1, e2, e3⟩ : ∃ m1 m2 m3, m1 = m 1 ∧ m2 = m 2 ∧ m3 = m 3 := ⟨_, _, _, rfl, rfl, rfl⟩
              have hm9 := HM.out
              rw [← e1, ← e2, ← e3] at hm9
              rw [← e3] at hk9
              have HLF : Hid (m3 + a.m < uMax ∧ m3 < uMax) := Lib.hid (by have := hk9.1; have := uHalf_max this; omega)
              have HKG := Lib.hid hk9.2; have EE := Lib.hid (And.intro e1 (And.intro e2 e3))
              clear hk9 KG e1 e2 e3 HR HM
              have HR := Lib.hid hr9; have HM := Lib.hid hm9
              clear hr9 hm9 ht
              obtain ⟨d4, hwz⟩ : ∃ wz, wz = d3.drew := ⟨_, rfl⟩
              have hbz : Below d3.heap.size d3 d4 := by rw [hwz]; exact (Below.refl _ _).drew
              have OIm := Lib.hid (OI.out.later hbz)
              have HMm := Lib.hid (below_at' hbz HM.out)
              have HRm := Lib.hid (below_at' hbz HR.out)
              clear hbz OI HM HR
              have OI := OIm
              have HM := HMm
              have HR := HRm
              clear OIm HMm HRm
              have hS : d4.heap[R]? = some (.cells #[.bool a.mint, .int .i64 3, .int .i64 a.src, .int .i64 a.dst, .int .u64 (uw0 a.m), .int .u64 (uw1 a.m), .int .u64 (uw2 a.m), .int .u64 (uw3 a.m)] 39 (0, 0)) ∧ d4.heap[M]? = some (.cells (MC m1 m2 m3) 37 (0, 0)) := ⟨HR.out, HM.out⟩
              refine wp_region_till (fun w' => w'.heap[R]? = some (.cells #[.bool a.mint, .int .i64 3, .int .i64 a.src, .int .i64 a.dst, .int .u64 (uw0 a.m), .int .u64 (uw1 a.m), .int .u64 (uw2 a.m), .int .u64 (uw3 a.m)] 39 (0, 0)) ∧ w'.heap[M]? = some (.cells (MC m1 m2 m3) 37 (0, 0))) 13 13 (by kernel_rfl) rfl ?_
              rw [← hwz]
              clear hwz
              refine till_take 0 (some 47) rfl rfl (by kernel_rfl) (by kernel_rfl) (by kernel_rfl) (by kernel_rfl) (by kernel_rfl) (by kernel_rfl) (fun _ _ _ h => h) (.inl ⟨by rfl, fun w' _ => (by go_simp; rfl)⟩) hS ?_
              go_frame
              refine till_take 1 (some 48) rfl rfl (by kernel_rfl) (by kernel_rfl) (by kernel_rfl) (by kernel_rfl) (by kernel_rfl) (by kernel_rfl) (fun _ _ _ h => h) (.inl ⟨by rfl, fun w' hS' => (by have hc : w'.cell? ⟨R, 1, none⟩ = some (.int .i64 3) := Lib.cell_of_heap (hS'.1) 1; go_simp; rfl)⟩) hS ?_
              go_frame
              refine till_take 2 (some 49) rfl rfl (by kernel_rfl) (by kernel_rfl) (by kernel_rfl) (by kernel_rfl) (by kernel_rfl) (by kernel_rfl) (fun _ _ _ h => h) (.inl ⟨by rfl, fun w' _ => (by go_simp; rfl)⟩) hS ?_
              go_frame
              refine till_take 3 (some 50) rfl rfl (by kernel_rfl) (by kernel_rfl) (by kernel_rfl) (by kernel_rfl) (by kernel_rfl) (by kernel_rfl) (fun _ _ _ h => h) (yields_load (by rfl) 24 _ rfl (.pointer (some ⟨M, 12, none⟩)) rfl (.agg #[.int .u64 (uw0 m3), .int .u64 (uw1 m3), .int .u64 (uw2 m3), .int .u64 (uw3 m3)]) (fun w' hS' => run_loadAt_mid w' M 12 24 [.int .u64 (uw0 m3), .int .u64 (uw1 m3), .int .u64 (uw2 m3), .int .u64 (uw3 m3)] _ (range_of_heap (hS'.2) 12 _ rfl) Try.underlying24 rfl Try.sizeU)) hS ?_
              go_frame
              refine till_take 4 (some 51) rfl rfl (by kernel_rfl) (by kernel_rfl) (by kernel_rfl) (by kernel_rfl) (by kernel_rfl) (by kernel_rfl) (fun _ _ _ h => h) (.inl ⟨by rfl, fun w' _ => (by go_simp; rfl)⟩) hS ?_
              go_frame
              refine till_take 5 (some 52) rfl rfl (by kernel_rfl) (by kernel_rfl) (by kernel_rfl) (by kernel_rfl) (by kernel_rfl) (by kernel_rfl) (fun _ _ _ h => h) (yields_load (by rfl) 24 _ rfl (.pointer (some ⟨R, 4, none⟩)) rfl (.agg #[.int .u64 (uw0 a.m), .int .u64 (uw1 a.m), .int .u64 (uw2 a.m), .int .u64 (uw3 a.m)]) (fun w' hS' => run_loadAt_mid w' R 4 24 [.int .u64 (uw0 a.m), .int .u64 (uw1 a.m), .int .u64 (uw2 a.m), .int .u64 (uw3 a.m)] _ (range_of_heap (hS'.1) 4 _ rfl) Try.underlying24 rfl Try.sizeU)) hS ?_
              go_frame
              refine till_two 6 10 rfl rfl (by kernel_rfl) (fun K hK => ?_) (fun K hK => ?_)
              · simp only [List.getElem_toArray, List.getElem_cons_succ, List.getElem_cons_zero]
                rw [if_pos (by rfl)]
                go_simp
                refine (radd_any (uw_is HLF.out.2) (uw_is HGX.out.lt_m) _).mono ?_
                rw [decide_eq_true HLF.out.1]
                rintro e d5 ⟨ya, yb, yc, yd, hu, rfl, hb⟩
                first | rw [if_pos trivial] at hu | rw [if_pos rfl] at hu
                have HYU := Lib.hid hu
                clear hu
                have OIm := Lib.hid (OI.out.later hb)
                have HMm := Lib.hid (below_at' hb HM.out)
                have HRm := Lib.hid (below_at' hb HR.out)
                clear hb OI HM HR
                have OI := OIm
                have HM := HMm
                have HR := HRm
                clear OIm HMm HRm
                have hS2 : d5.heap[R]? = some (.cells #[.bool a.mint, .int .i64 3, .int .i64 a.src, .int .i64 a.dst, .int .u64 (uw0 a.m), .int .u64 (uw1 a.m), .int .u64 (uw2 a.m), .int .u64 (uw3 a.m)] 39 (0, 0)) ∧ d5.heap[M]? = some (.cells (MC m1 m2 m3) 37 (0, 0)) := ⟨HR.out, HM.out⟩
                refine hK _ _ (fun _ _ => hS2) ?_
                clear hK hS
                have hS := hS2
                clear hS2
                refine till_take 7 (some 46) rfl rfl (by kernel_rfl) (by kernel_rfl) (by kernel_rfl) (by kernel_rfl) (by kernel_rfl) (by kernel_rfl) (fun _ _ _ h => h) (.inl ⟨by rfl, fun w' _ => (by go_simp; rfl)⟩) hS ?_
                go_frame
                refine till_take 8 (some 54) rfl rfl (by kernel_rfl) (by kernel_rfl) (by kernel_rfl) (by kernel_rfl) (by kernel_rfl) (by kernel_rfl) (fun _ _ _ h => h) (.inl ⟨by rfl, fun w' _ => (by go_simp; rfl)⟩) hS ?_
                go_frame
                refine till_take 9 (some 55) rfl rfl (by kernel_rfl) (by kernel_rfl) (by kernel_rfl) (by kernel_rfl) (by kernel_rfl) (by kernel_rfl) (fun _ _ _ h => h) (.inl ⟨by rfl, fun w' _ => (by go_simp; rfl)⟩) hS ?_
                go_frame
                refine till_one 10 rfl (by kernel_rfl) fun K hK => ?_
                simp only [List.getElem_toArray, List.getElem_cons_succ, List.getElem_cons_zero]
                rw [if_pos (by rfl)]
                refine wp_alloc_g 24 rfl _ _ Try.zeroUz rfl ?_
                intro P d6 hP
                have WP : Hid (w.heap.size ≤ P) := Lib.hid (by rw [hP.out.eq]; exact (OI.out.below).size)
                have NMP : Hid (M ≠ P) := Lib.hid (by have := hP.out.eq; have := heap_lt HM.out; omega)
                have NRP : Hid (R ≠ P) := Lib.hid (by have := hP.out.eq; have := heap_lt HR.out; omega)
                have HPz := Lib.hid hP.out.cells; have hbP := hP.out.below
                clear hP
                have OIm := Lib.hid (OI.out.later hbP)
                have HMm := Lib.hid (below_at' hbP HM.out)
                have HRm := Lib.hid (below_at' hbP HR.out)
                clear hbP OI HM HR
                have OI := OIm
                have HM := HMm
                have HR := HRm
                clear OIm HMm HRm
                have HP := HPz
                clear HPz
                have hS2 : d6.heap[R]? = some (.cells #[.bool a.mint, .int .i64 3, .int .i64 a.src, .int .i64 a.dst, .int .u64 (uw0 a.m), .int .u64 (uw1 a.m), .int .u64 (uw2 a.m), .int .u64 (uw3 a.m)] 39 (0, 0)) ∧ d6.heap[M]? = some (.cells (MC m1 m2 m3) 37 (0, 0)) := ⟨HR.out, HM.out⟩
                refine hK _ _ (fun _ _ => hS2) ?_
                clear hK hS
                have hS := hS2
                clear hS2
                refine till_one 11 rfl (by kernel_rfl) fun K hK => ?_
                simp only [List.getElem_toArray, List.getElem_cons_succ, List.getElem_cons_zero]
                rw [if_pos (by rfl)]
                refine wp_store_row_g (t := 24) (old := u0) 24 _ _ rfl P #[.int .u64 ya, .int .u64 yb, .int .u64 yc, .int .u64 yd] rfl rfl HP.out Try.sizeU rfl (one_u64 _ _ _ _) ?_
                intro d7 hxP kP zP
                clear zP
                have OIm := Lib.hid (one_cells OI.out HP.out rfl kP WP.out)
                have HMm := Lib.hid (kP.at HM.out NMP.out)
                have HRm := Lib.hid (kP.at HR.out NRP.out)
                have HPm := Lib.hid hxP
                clear hxP kP OI HM HR HP
                have OI := OIm
                have HM := HMm
                have HR := HRm
                have HP := HPm
                clear OIm HMm HRm HPm
                have hS2 : d7.heap[R]? = some (.cells #[.bool a.mint, .int .i64 3, .int .i64 a.src, .int .i64 a.dst, .int .u64 (uw0 a.m), .int .u64 (uw1 a.m), .int .u64 (uw2 a.m), .int .u64 (uw3 a.m)] 39 (0, 0)) ∧ d7.heap[M]? = some (.cells (MC m1 m2 m3) 37 (0, 0)) := ⟨HR.out, HM.out⟩
                refine hK _ _ (fun _ _ => hS2) ?_
                clear hK hS
                have hS := hS2
                clear hS2
                refine till_take 12 (some 9) rfl rfl (by kernel_rfl) (by kernel_rfl) (by kernel_rfl) (by kernel_rfl) (by kernel_rfl) (by kernel_rfl) (fun _ _ _ h => h) (.inl ⟨by rfl, fun w' _ => (by go_simp; rfl)⟩) hS ?_
                go_frame
                refine till_done (by kernel_rfl) ?_ _
                clear hS
                obtain ⟨e0, e1, e2, e3⟩ := HYU.out.uw
                subst e0; subst e1; subst e2; subst e3
                clear HYU
                have c1 : d7.cell? ⟨R, 1, none⟩ = some (.int .i64 3) := Lib.cell_of_heap HR.out 1
                go_wp2_with (first
                  | (refine wpList_load_row rfl 24 _ rfl P rfl 24 _ _ _ HP.out Try.underlying24 rfl Try.sizeU ?_)
                  | (refine wpList_store_part_g rfl 24 _ _ rfl M 12 #[.int .u64 (uw0 (m3 + a.m)), .int .u64 (uw1 (m3 + a.m)), .int .u64 (uw2 (m3 + a.m)), .int .u64 (uw3 (m3 + a.m))] rfl rfl 37 _ HM.out Try.sizeU (by simp [MC]) (one_u64 _ _ _ _) (MC m1 m2 (m3 + a.m)) rfl ?_))
                intro d8 hxM kM zM
                clear zM c1
                have OIm := Lib.hid (one_cells OI.out HM.out rfl kM WM.out)
                have HRm := Lib.hid (kM.at HR.out (fun e => NMR.out e.symm))
                have HPm := Lib.hid (kM.at HP.out (fun e => NMP.out e.symm))
                have HMm := Lib.hid hxM
                clear hxM kM OI HM HR HP
                have OI := OIm
                have HM := HMm
                have HR := HRm
                have HP := HPm
                clear OIm HMm HRm HPm
                go_wp2_with fail
                go_meet
                case rel => exact ⟨0, s2, _, rfl, rfl, Lib.hid (Int.le_refl _), HKG, OI, Lib.hid (by
                  have h9 := HM.out
                  rw [EE.out.1, EE.out.2.1] at h9
                  simpa using h9)⟩
              · simp only [List.getElem_toArray, List.getElem_cons_succ, List.getElem_cons_zero]
                rw [if_pos (by rfl)]
                refine wp_alloc_g 24 rfl _ _ Try.zeroUz rfl ?_
                intro P d5 hP
                have WP : Hid (w.heap.size ≤ P) := Lib.hid (by rw [hP.out.eq]; exact (OI.out.below).size)
                have NMP : Hid (M ≠ P) := Lib.hid (by have := hP.out.eq; have := heap_lt HM.out; omega)
                have NRP : Hid (R ≠ P) := Lib.hid (by have := hP.out.eq; have := heap_lt HR.out; omega)
                have HPz := Lib.hid hP.out.cells; have hbP := hP.out.below
                clear hP
                have OIm := Lib.hid (OI.out.later hbP)
                have HMm := Lib.hid (below_at' hbP HM.out)
                have HRm := Lib.hid (below_at' hbP HR.out)
                clear hbP OI HM HR
                have OI := OIm
                have HM := HMm
                have HR := HRm
                clear OIm HMm HRm
                have HP := HPz
                clear HPz
                have hS2 : d5.heap[R]? = some (.cells #[.bool a.mint, .int .i64 3, .int .i64 a.src, .int .i64 a.dst, .int .u64 (uw0 a.m), .int .u64 (uw1 a.m), .int .u64 (uw2 a.m), .int .u64 (uw3 a.m)] 39 (0, 0)) ∧ d5.heap[M]? = some (.cells (MC m1 m2 m3) 37 (0, 0)) := ⟨HR.out, HM.out⟩
                refine hK _ _ (fun _ _ => hS2) ?_
                clear hK hS
                have hS := hS2
                clear hS2
                refine till_one 6 rfl (by kernel_rfl) fun K hK => ?_
                simp only [List.getElem_toArray, List.getElem_cons_succ, List.getElem_cons_zero]
                rw [if_pos (by rfl)]
                go_simp
                refine (radd_any (uw_is HLF.out.2) (uw_is HGX.out.lt_m) _).mono ?_
                rw [decide_eq_true HLF.out.1]
                rintro e d6 ⟨ya, yb, yc, yd, hu, rfl, hb⟩
                first | rw [if_pos trivial] at hu | rw [if_pos rfl] at hu
                have HYU := Lib.hid hu
                clear hu
                have OIm := Lib.hid (OI.out.later hb)
                have HMm := Lib.hid (below_at' hb HM.out)
                have HRm := Lib.hid (below_at' hb HR.out)
                have HPm := Lib.hid (below_at' hb HP.out)
                clear hb OI HM HR HP
                have OI := OIm
                have HM := HMm
                have HR := HRm
                have HP := HPm
                clear OIm HMm HRm HPm
                have hS2 : d6.heap[R]? = some (.cells #[.bool a.mint, .int .i64 3, .int .i64 a.src, .int .i64 a.dst, .int .u64 (uw0 a.m), .int .u64 (uw1 a.m), .int .u64 (uw2 a.m), .int .u64 (uw3 a.m)] 39 (0, 0)) ∧ d6.heap[M]? = some (.cells (MC m1 m2 m3) 37 (0, 0)) := ⟨HR.out, HM.out⟩
                refine hK _ _ (fun _ _ => hS2) ?_
                clear hK hS
                have hS := hS2
                clear hS2
                refine till_take 7 (some 46) rfl rfl (by kernel_rfl) (by kernel_rfl) (by kernel_rfl) (by kernel_rfl) (by kernel_rfl) (by kernel_rfl) (fun _ _ _ h => h) (.inl ⟨by rfl, fun w' _ => (by go_simp; rfl)⟩) hS ?_
                go_frame
                refine till_take 8 (some 54) rfl rfl (by kernel_rfl) (by kernel_rfl) (by kernel_rfl) (by kernel_rfl) (by kernel_rfl) (by kernel_rfl) (fun _ _ _ h => h) (.inl ⟨by rfl, fun w' _ => (by go_simp; rfl)⟩) hS ?_
                go_frame
                refine till_take 9 (some 55) rfl rfl (by kernel_rfl) (by kernel_rfl) (by kernel_rfl) (by kernel_rfl) (by kernel_rfl) (by kernel_rfl) (fun _ _ _ h => h) (.inl ⟨by rfl, fun w' _ => (by go_simp; rfl)⟩) hS ?_
                go_frame
                refine till_one 11 rfl (by kernel_rfl) fun K hK => ?_
                simp only [List.getElem_toArray, List.getElem_cons_succ, List.getElem_cons_zero]
                rw [if_pos (by rfl)]
                refine wp_store_row_g (t := 24) (old := u0) 24 _ _ rfl P #[.int .u64 ya, .int .u64 yb, .int .u64 yc, .int .u64 yd] rfl rfl HP.out Try.sizeU rfl (one_u64 _ _ _ _) ?_
                intro d7 hxP kP zP
                clear zP
                have OIm := Lib.hid (one_cells OI.out HP.out rfl kP WP.out)
                have HMm := Lib.hid (kP.at HM.out NMP.out)
                have HRm := Lib.hid (kP.at HR.out NRP.out)
                have HPm := Lib.hid hxP
                clear hxP kP OI HM HR HP
                have OI := OIm
                have HM := HMm
                have HR := HRm
                have HP := HPm
                clear OIm HMm HRm HPm
                have hS2 : d7.heap[R]? = some (.cells #[.bool a.mint, .int .i64 3, .int .i64 a.src, .int .i64 a.dst, .int .u64 (uw0 a.m), .int .u64 (uw1 a.m), .int .u64 (uw2 a.m), .int .u64 (uw3 a.m)] 39 (0, 0)) ∧ d7.heap[M]? = some (.cells (MC m1 m2 m3) 37 (0, 0)) := ⟨HR.out, HM.out⟩
                refine hK _ _ (fun _ _ => hS2) ?_
                clear hK hS
                have hS := hS2
                clear hS2
                refine till_take 12 (some 9) rfl rfl (by kernel_rfl) (by kernel_rfl) (by kernel_rfl) (by kernel_rfl) (by kernel_rfl) (by kernel_rfl) (fun _ _ _ h => h) (.inl ⟨by rfl, fun w' _ => (by go_simp; rfl)⟩) hS ?_
                go_frame
                refine till_done (by kernel_rfl) ?_ _
                clear hS
                obtain ⟨e0, e1, e2, e3⟩ := HYU.out.uw
                subst e0; subst e1; subst e2; subst e3
                clear HYU
                have c1 : d7.cell? ⟨R, 1, none⟩ = some (.int .i64 3) := Lib.cell_of_heap HR.out 1
                go_wp2_with (first
                  | (refine wpList_load_row rfl 24 _ rfl P rfl 24 _ _ _ HP.out Try.underlying24 rfl Try.sizeU ?_)
                  | (refine wpList_store_part_g rfl 24 _ _ rfl M 12 #[.int .u64 (uw0 (m3 + a.m)), .int .u64 (uw1 (m3 + a.m)), .int .u64 (uw2 (m3 + a.m)), .int .u64 (uw3 (m3 + a.m))] rfl rfl 37 _ HM.out Try.sizeU (by simp [MC]) (one_u64 _ _ _ _) (MC m1 m2 (m3 + a.m)) rfl ?_))
                intro d8 hxM kM zM
                clear zM c1
                have OIm := Lib.hid (one_cells OI.out HM.out rfl kM WM.out)
                have HRm := Lib.hid (kM.at HR.out (fun e => NMR.out e.symm))
                have HPm := Lib.hid (kM.at HP.out (fun e => NMP.out e.symm))
                have HMm := Lib.hid hxM
                clear hxM kM OI HM HR HP
                have OI := OIm
                have HM := HMm
                have HR := HRm
                have HP := HPm
                clear OIm HMm HRm HPm
                go_wp2_with fail
                go_meet
                case rel => exact ⟨0, s2, _, rfl, rfl, Lib.hid (Int.le_refl _), HKG, OI, Lib.hid (by
                  have h9 := HM.out
                  rw [EE.out.1, EE.out.2.1] at h9
                  simpa using h9)⟩
          · have hne : (er == 0) = false := by simpa using he
            have KB : Hid (s.mint a.t a.dst a.m = s) := Lib.hid (by
              rcases KM.out with ⟨h9, _, _⟩ | ⟨_, h9⟩
              · exact absurd (HER.out.trans h9) he
              · exact h9)
            have OIm : Hid (One w d3 g s) := Lib.hid (by have h9 := OI.out; rw [KB.out] at h9; exact h9)
            clear OI he
            have HKP := Lib.hid HK.out.skip
            go_wp2_with fail
            go_meet
            case rel => exact ⟨er, s, m, rfl, rfl, HPP, HKP, OIm, HM⟩
      case rest =>
        obtain ⟨er, s2, m2, rfl, rfl, HER, HK2, OI, HM⟩ := hcut
        go_wp2_with fail
        go_loopw [10] (fun vt wq => ∃ t : Int, vt = .int .i64 t ∧ 1 ≤ t ∧ t ≤ 4 ∧ Hid (One w wq g s2) ∧ Hid (wq.heap[M]? = some (.cells (MC (m2 1) (m2 2) (m2 3)) 37 (0, 0)))) (fun vt _ => 4 - (intOf vt).toNat)
        case atStart => exact ⟨1, rfl, by omega, by omega, OI, HM⟩
        case round =>
          clear OI HM
          obtain ⟨t, rfl, ht1, ht4, OI, HM⟩ := hrel
          rcases (show t = 1 ∨ t = 2 ∨ t = 3 ∨ t = 4 by omega) with rfl | rfl | rfl | rfl
          · clear ht1 ht4
            have HSZ2 : Hid (s2.t.length < 1099511627776) := Lib.hid (by have h8 := HK2.out.sz; have h9 := P150.out; have h7 := HJL.out; unfold PS.sz at h8; omega)
            go_wp2_with fail
            obtain ⟨FQ, hst⟩ := OI.out.get
            refine (total_any (UndB.st hst HSZ2.out) (fun b => Nat.lt_of_le_of_lt (List.length_filter_le _ _) HSZ2.out) (fun b p hp => HK2.out.fit p (List.mem_filter.1 hp).1) (t := 1) (by unfold I64; omega)).mono ?_
            rw [HK2.out.tot (by decide) (by decide), HK2.out.totB (by decide) (by decide)]
            rintro e e1 ⟨ya, yb, yc, yd, hu, rfl, hb⟩
            first | rw [if_pos trivial] at hu | rw [if_pos rfl] at hu
            have HYU := Lib.hid hu
            clear hu hst
            have OIm := Lib.hid (OI.out.later hb)
            have HMm := Lib.hid (below_at' hb HM.out)
            clear hb OI HM
            have OI := OIm
            have HM := HMm
            clear OIm HMm
            go_wp2_with (refine wpList_alloc_g rfl _ rfl _ _ Try.zeroUz rfl ?_)
            intro X e2 hX
            go_wp2_with (refine wpList_store_row_g (t := 24) (old := u0) rfl 24 _ _ rfl X #[.int .u64 ya, .int .u64 yb, .int .u64 yc, .int .u64 yd] rfl rfl hX.out.cells Try.sizeU rfl (one_u64 _ _ _ _) ?_)
            intro e3 hxX kX zX
            clear zX
            have hbX : Below e1.heap.size e1 e3 := hX.out.below.trans (kX.below (B := e1.heap.size) (fun x hx e => by have := hX.out.eq; omega) hX.out.below.size)
            have WX : Hid (w.heap.size ≤ X) := Lib.hid (by rw [hX.out.eq]; exact (OI.out.below).size)
            have NMX : Hid (M ≠ X) := Lib.hid (by have := hX.out.eq; have := heap_lt HM.out; omega)
            have HXz := Lib.hid hxX
            clear hX hxX kX
            have OIm := Lib.hid (OI.out.later hbX)
            have HMm := Lib.hid (below_at' hbX HM.out)
            clear hbX OI HM
            have OI := OIm
            have HM := HMm
            clear OIm HMm
            have HX := HXz
            clear HXz
            go_wp2_with fail
            refine (bSup_any (t := 1) (by unfold I64; omega) _).mono ?_
            rintro e e4 ⟨rfl, hb⟩
            have OIm := Lib.hid (OI.out.later hb)
            have HMm := Lib.hid (below_at' hb HM.out)
            have HXm := Lib.hid (below_at' hb HX.out)
            clear hb OI HM HX
            have OI := OIm
            have HM := HMm
            have HX := HXm
            clear OIm HMm HXm
            go_wp2_with fail
            obtain ⟨FQ, hst⟩ := OI.out.get
            have hgv := sget_any hst (keyF 2 [1])
            obtain ⟨vv, hvv⟩ : ∃ v, v = valF (getP s2.t) (kSup 1) := ⟨_, rfl⟩
            obtain ⟨pb, hpb⟩ : ∃ v, v = (getP s2.t (keyF 2 [1])).isSome := ⟨_, rfl⟩
            rw [show (getP s2.t (keyF 2 [1])).getD [] = vv from hvv.symm, ← hpb] at hgv
            have HVV := Lib.hid hvv
            clear hvv hpb
            refine (hgv).mono ?_
            rintro e _ ⟨rfl, rfl⟩
            clear hgv hst
            obtain ⟨mt, hmt9⟩ : ∃ q, q = m2 1 := ⟨_, rfl⟩
            rw [← hmt9] at HYU
            have HVV2 : Hid (vv = if mt = 0 then [] else amtB mt) := Lib.hid (by rw [HVV.out, HK2.out.sup 1 (by decide) (by decide), ← hmt9])
            have HMT : Hid (mt < uMax) := Lib.hid HYU.out.lt
            have hm9 := HM.out
            have e1 := Try.eqUn HYU.out (uw_is HMT.out)
            rw [decide_eq_true rfl] at e1
            have e2 := Try.eqUn HYU.out UIs.zero
            obtain ⟨x1, x2, x3, d1, d2, d3⟩ : ∃ x1 x2 x3, x1 = m2 1 ∧ x2 = m2 2 ∧ x3 = m2 3 := ⟨_, _, _, rfl, rfl, rfl⟩
            have HD := Lib.hid (And.intro d1 (And.intro d2 d3))
            rw [← d1, ← d2, ← d3] at hm9
            have hxm : x1 = mt := by rw [d1, hmt9]
            rw [hxm] at hm9
            clear d1 d2 d3 hmt9 HM
            have HMX := Lib.hid hxm
            clear hxm
            have HM := Lib.hid hm9
            clear hm9
            have hlt0 : ¬ er < 0 := by have := HER.out; omega
            have hlt1 : decide (er < 0) = false := decide_eq_false hlt0
            by_cases hz0 : mt = 0
            · rw [decide_eq_true hz0] at e2
              have hv0 : vv = [] := by rw [HVV2.out, if_pos hz0]
              subst hv0
              have j1 : (bs ([] : Txt)).toList = [] := toList_bs _
              have j2 : (bs ([] : Txt)).toList.isEmpty = true := by rw [toList_bs]; rfl
              clear hz0
              go_wp2_with fail
              obtain ⟨e5, hwz⟩ : ∃ wz, wz = e4.drew := ⟨_, rfl⟩
              have hbz : Below e4.heap.size e4 e5 := by rw [hwz]; exact (Below.refl _ _).drew
              have OIm := Lib.hid (OI.out.later hbz)
              have HMm := Lib.hid (below_at' hbz HM.out)
              have HXm := Lib.hid (below_at' hbz HX.out)
              clear hbz OI HM HX
              have OI := OIm
              have HM := HMm
              have HX := HXm
              clear OIm HMm HXm
              have hS : e5.heap[X]? = some (.cells #[.int .u64 ya, .int .u64 yb, .int .u64 yc, .int .u64 yd] 24 (0, 0)) ∧ e5.heap[M]? = some (.cells (MC mt x2 x3) 37 (0, 0)) := ⟨HX.out, HM.out⟩
              refine wp_region_till (fun w' => w'.heap[X]? = some (.cells #[.int .u64 ya, .int .u64 yb, .int .u64 yc, .int .u64 yd] 24 (0, 0)) ∧ w'.heap[M]? = some (.cells (MC mt x2 x3) 37 (0, 0))) 21 21 (by kernel_rfl) rfl ?_
              rw [← hwz]
              clear hwz
              refine till_take 0 (some 87) rfl rfl (by kernel_rfl) (by kernel_rfl) (by kernel_rfl) (by kernel_rfl) (by kernel_rfl) (by kernel_rfl) (fun _ _ _ h => h) (.inl ⟨by rfl, fun w' _ => (by go_simp; rfl)⟩) hS ?_
              go_frame
              refine till_take 1 (some 88) rfl rfl (by kernel_rfl) (by kernel_rfl) (by kernel_rfl) (by kernel_rfl) (by kernel_rfl) (by kernel_rfl) (fun _ _ _ h => h) (.inl ⟨by rfl, fun w' _ => (by go_simp; rfl)⟩) hS ?_
              go_frame
              refine till_take 2 (some 89) rfl rfl (by kernel_rfl) (by kernel_rfl) (by kernel_rfl) (by kernel_rfl) (by kernel_rfl) (by kernel_rfl) (fun _ _ _ h => h) (.inl ⟨by rfl, fun w' _ => (by go_simp; rfl)⟩) hS ?_
              go_frame
              refine till_take 3 (some 90) rfl rfl (by kernel_rfl) (by kernel_rfl) (by kernel_rfl) (by kernel_rfl) (by kernel_rfl) (by kernel_rfl) (fun _ _ _ h => h) (yields_load (by rfl) 24 _ rfl (.pointer (some ⟨X, 0, none⟩)) rfl (.agg #[.int .u64 ya, .int .u64 yb, .int .u64 yc, .int .u64 yd]) (fun w' hS' => load_heap (hS'.1) Try.underlying24 rfl Try.sizeU)) hS ?_
              go_frame
              refine till_take 4 (some 91) rfl rfl (by kernel_rfl) (by kernel_rfl) (by kernel_rfl) (by kernel_rfl) (by kernel_rfl) (by kernel_rfl) (fun _ _ _ h => h) (.inl ⟨by rfl, fun w' _ => (by go_simp; rfl)⟩) hS ?_
              go_frame
              refine till_take 5 (some 92) rfl rfl (by kernel_rfl) (by kernel_rfl) (by kernel_rfl) (by kernel_rfl) (by kernel_rfl) (by kernel_rfl) (fun _ _ _ h => h) (.inl ⟨by rfl, fun w' _ => (by go_simp; rfl)⟩) hS ?_
              go_frame
              refine till_take 6 (some 93) rfl rfl (by kernel_rfl) (by kernel_rfl) (by kernel_rfl) (by kernel_rfl) (by kernel_rfl) (by kernel_rfl) (fun _ _ _ h => h) (yields_load (by rfl) 24 _ rfl (.pointer (some ⟨M, 4, none⟩)) rfl (.agg #[.int .u64 (uw0 mt), .int .u64 (uw1 mt), .int .u64 (uw2 mt), .int .u64 (uw3 mt)]) (fun w' hS' => run_loadAt_mid w' M 4 24 [.int .u64 (uw0 mt), .int .u64 (uw1 mt), .int .u64 (uw2 mt), .int .u64 (uw3 mt)] _ (range_of_heap (hS'.2) 4 _ rfl) Try.underlying24 rfl Try.sizeU)) hS ?_
              go_frame
              refine till_take 7 (some 94) rfl rfl (by kernel_rfl) (by kernel_rfl) (by kernel_rfl) (by kernel_rfl) (by kernel_rfl) (by kernel_rfl) (fun _ _ _ h => h) (.inl ⟨by rfl, fun w' _ => (by go_simp; rfl)⟩) hS ?_
              go_frame
              refine till_take 8 (some 95) rfl rfl (by kernel_rfl) (by kernel_rfl) (by kernel_rfl) (by kernel_rfl) (by kernel_rfl) (by kernel_rfl) (fun _ _ _ h => h) (.inl ⟨by rfl, fun w' _ => (by go_simp; rfl)⟩) hS ?_
              go_frame
              refine till_take 9 (some 96) rfl rfl (by kernel_rfl) (by kernel_rfl) (by kernel_rfl) (by kernel_rfl) (by kernel_rfl) (by kernel_rfl) (fun _ _ _ h => h) (.inl ⟨by rfl, fun w' _ => (by go_simp; rfl)⟩) hS ?_
              go_frame
              refine till_take 10 (some 97) rfl rfl (by kernel_rfl) (by kernel_rfl) (by kernel_rfl) (by kernel_rfl) (by kernel_rfl) (by kernel_rfl) (fun _ _ _ h => h) (.inl ⟨by rfl, fun w' _ => (by go_simp; rfl)⟩) hS ?_
              go_frame
              refine till_take 11 (some 98) rfl rfl (by kernel_rfl) (by kernel_rfl) (by kernel_rfl) (by kernel_rfl) (by kernel_rfl) (by kernel_rfl) (fun _ _ _ h => h) (.inl ⟨by rfl, fun w' _ => (by go_simp; rfl)⟩) hS ?_
              go_frame
              refine till_take 12 (some 99) rfl rfl (by kernel_rfl) (by kernel_rfl) (by kernel_rfl) (by kernel_rfl) (by kernel_rfl) (by kernel_rfl) (fun _ _ _ h => h) (yields_load (by rfl) 24 _ rfl (.pointer (some ⟨X, 0, none⟩)) rfl (.agg #[.int .u64 ya, .int .u64 yb, .int .u64 yc, .int .u64 yd]) (fun w' hS' => load_heap (hS'.1) Try.underlying24 rfl Try.sizeU)) hS ?_
              go_frame
              refine till_take 13 (some 100) rfl rfl (by kernel_rfl) (by kernel_rfl) (by kernel_rfl) (by kernel_rfl) (by kernel_rfl) (by kernel_rfl) (fun _ _ _ h => h) (.inl ⟨by rfl, fun w' _ => (by go_simp; rfl)⟩) hS ?_
              go_frame
              refine till_take 14 (some 101) rfl rfl (by kernel_rfl) (by kernel_rfl) (by kernel_rfl) (by kernel_rfl) (by kernel_rfl) (by kernel_rfl) (fun _ _ _ h => h) (.inl ⟨by rfl, fun w' _ => (by go_simp; rfl)⟩) hS ?_
              go_frame
              refine till_take 15 (some 102) rfl rfl (by kernel_rfl) (by kernel_rfl) (by kernel_rfl) (by kernel_rfl) (by kernel_rfl) (by kernel_rfl) (fun _ _ _ h => h) (.inl ⟨by rfl, fun w' _ => (by go_simp; rfl)⟩) hS ?_
              go_frame
              refine till_take 16 (some 103) rfl rfl (by kernel_rfl) (by kernel_rfl) (by kernel_rfl) (by kernel_rfl) (by kernel_rfl) (by kernel_rfl) (fun _ _ _ h => h) (.inl ⟨by rfl, fun w' _ => (by go_simp; rfl)⟩) hS ?_
              go_frame
              refine till_take 17 (some 104) rfl rfl (by kernel_rfl) (by kernel_rfl) (by kernel_rfl) (by kernel_rfl) (by kernel_rfl) (by kernel_rfl) (fun _ _ _ h => h) (.inl ⟨by rfl, fun w' _ => (by go_simp; rfl)⟩) hS ?_
              go_frame
              refine till_take 18 (some 105) rfl rfl (by kernel_rfl) (by kernel_rfl) (by kernel_rfl) (by kernel_rfl) (by kernel_rfl) (by kernel_rfl) (fun _ _ _ h => h) (.inl ⟨by rfl, fun w' _ => (by go_simp; rfl)⟩) hS ?_
              go_frame
              refine till_take 19 (some 106) rfl rfl (by kernel_rfl) (by kernel_rfl) (by kernel_rfl) (by kernel_rfl) (by kernel_rfl) (by kernel_rfl) (fun _ _ _ h => h) (.inl ⟨by rfl, fun w' _ => (by go_simp; rfl)⟩) hS ?_
              go_frame
              refine till_take 20 (some 107) rfl rfl (by kernel_rfl) (by kernel_rfl) (by kernel_rfl) (by kernel_rfl) (by kernel_rfl) (by kernel_rfl) (fun _ _ _ h => h) (.inl ⟨by rfl, fun w' _ => (by go_simp; rfl)⟩) hS ?_
              go_frame
              refine till_done (by kernel_rfl) ?_ _
              clear hS
              clear e1 e2 hlt0 hlt1 j1 j2
              go_wp2_with fail
              go_roundw
              case rel => exact ⟨2, by go_num, by omega, by omega, OI, Lib.hid (by
                have h9 := HM.out
                rw [← HMX.out, HD.out.1, HD.out.2.1, HD.out.2.2] at h9
                exact h9)⟩
              case measure => simp [intOf]
            · rw [decide_eq_false hz0] at e2
              have hv0 : vv ≠ [] := by rw [HVV2.out, if_neg hz0]; exact amtB_ne mt
              have j1 : (bs vv).toList ≠ [] := by rw [toList_bs]; exact hv0
              have j2 : (bs vv).toList.isEmpty = false := by rw [toList_bs]; cases vv <;> simp_all
              have j3 : ((bs vv).toList == []) = false := by rw [toList_bs]; cases vv <;> simp_all
              clear hz0 hv0
              go_wp2_with fail
              obtain ⟨e5, hwz⟩ : ∃ wz, wz = e4.drew := ⟨_, rfl⟩
              have hbz : Below e4.heap.size e4 e5 := by rw [hwz]; exact (Below.refl _ _).drew
              have OIm := Lib.hid (OI.out.later hbz)
              have HMm := Lib.hid (below_at' hbz HM.out)
              have HXm := Lib.hid (below_at' hbz HX.out)
              clear hbz OI HM HX
              have OI := OIm
              have HM := HMm
              have HX := HXm
              clear OIm HMm HXm
              have hS : e5.heap[X]? = some (.cells #[.int .u64 ya, .int .u64 yb, .int .u64 yc, .int .u64 yd] 24 (0, 0)) ∧ e5.heap[M]? = some (.cells (MC mt x2 x3) 37 (0, 0)) := ⟨HX.out, HM.out⟩
              refine wp_region_till (fun w' => w'.heap[X]? = some (.cells #[.int .u64 ya, .int .u64 yb, .int .u64 yc, .int .u64 yd] 24 (0, 0)) ∧ w'.heap[M]? = some (.cells (MC mt x2 x3) 37 (0, 0))) 21 21 (by kernel_rfl) rfl ?_
              rw [← hwz]
              clear hwz
              refine till_take 0 (some 87) rfl rfl (by kernel_rfl) (by kernel_rfl) (by kernel_rfl) (by kernel_rfl) (by kernel_rfl) (by kernel_rfl) (fun _ _ _ h => h) (.inl ⟨by rfl, fun w' _ => (by go_simp; rfl)⟩) hS ?_
              go_frame
              refine till_take 1 (some 88) rfl rfl (by kernel_rfl) (by kernel_rfl) (by kernel_rfl) (by kernel_rfl) (by kernel_rfl) (by kernel_rfl) (fun _ _ _ h => h) (.inl ⟨by rfl, fun w' _ => (by go_simp; rfl)⟩) hS ?_
              go_frame
              refine till_take 2 (some 89) rfl rfl (by kernel_rfl) (by kernel_rfl) (by kernel_rfl) (by kernel_rfl) (by kernel_rfl) (by kernel_rfl) (fun _ _ _ h => h) (.inl ⟨by rfl, fun w' _ => (by go_simp; rfl)⟩) hS ?_
              go_frame
              refine till_take 3 (some 90) rfl rfl (by kernel_rfl) (by kernel_rfl) (by kernel_rfl) (by kernel_rfl) (by kernel_rfl) (by kernel_rfl) (fun _ _ _ h => h) (yields_load (by rfl) 24 _ rfl (.pointer (some ⟨X, 0, none⟩)) rfl (.agg #[.int .u64 ya, .int .u64 yb, .int .u64 yc, .int .u64 yd]) (fun w' hS' => load_heap (hS'.1) Try.underlying24 rfl Try.sizeU)) hS ?_
              go_frame
              refine till_take 4 (some 91) rfl rfl (by kernel_rfl) (by kernel_rfl) (by kernel_rfl) (by kernel_rfl) (by kernel_rfl) (by kernel_rfl) (fun _ _ _ h => h) (.inl ⟨by rfl, fun w' _ => (by go_simp; rfl)⟩) hS ?_
              go_frame
              refine till_take 5 (some 92) rfl rfl (by kernel_rfl) (by kernel_rfl) (by kernel_rfl) (by kernel_rfl) (by kernel_rfl) (by kernel_rfl) (fun _ _ _ h => h) (.inl ⟨by rfl, fun w' _ => (by go_simp; rfl)⟩) hS ?_
              go_frame
              refine till_take 6 (some 93) rfl rfl (by kernel_rfl) (by kernel_rfl) (by kernel_rfl) (by kernel_rfl) (by kernel_rfl) (by kernel_rfl) (fun _ _ _ h => h) (yields_load (by rfl) 24 _ rfl (.pointer (some ⟨M, 4, none⟩)) rfl (.agg #[.int .u64 (uw0 mt), .int .u64 (uw1 mt), .int .u64 (uw2 mt), .int .u64 (uw3 mt)]) (fun w' hS' => run_loadAt_mid w' M 4 24 [.int .u64 (uw0 mt), .int .u64 (uw1 mt), .int .u64 (uw2 mt), .int .u64 (uw3 mt)] _ (range_of_heap (hS'.2) 4 _ rfl) Try.underlying24 rfl Try.sizeU)) hS ?_
              go_frame
              refine till_take 7 (some 94) rfl rfl (by kernel_rfl) (by kernel_rfl) (by kernel_rfl) (by kernel_rfl) (by kernel_rfl) (by kernel_rfl) (fun _ _ _ h => h) (.inl ⟨by rfl, fun w' _ => (by go_simp; rfl)⟩) hS ?_
              go_frame
              refine till_take 8 (some 95) rfl rfl (by kernel_rfl) (by kernel_rfl) (by kernel_rfl) (by kernel_rfl) (by kernel_rfl) (by kernel_rfl) (fun _ _ _ h => h) (.inl ⟨by rfl, fun w' _ => (by go_simp; rfl)⟩) hS ?_
              go_frame
              refine till_take 9 (some 96) rfl rfl (by kernel_rfl) (by kernel_rfl) (by kernel_rfl) (by kernel_rfl) (by kernel_rfl) (by kernel_rfl) (fun _ _ _ h => h) (.inl ⟨by rfl, fun w' _ => (by go_simp; rfl)⟩) hS ?_
              go_frame
              refine till_take 10 (some 97) rfl rfl (by kernel_rfl) (by kernel_rfl) (by kernel_rfl) (by kernel_rfl) (by kernel_rfl) (by kernel_rfl) (fun _ _ _ h => h) (.inl ⟨by rfl, fun w' _ => (by go_simp; rfl)⟩) hS ?_
              go_frame
              refine till_take 11 (some 98) rfl rfl (by kernel_rfl) (by kernel_rfl) (by kernel_rfl) (by kernel_rfl) (by kernel_rfl) (by kernel_rfl) (fun _ _ _ h => h) (.inl ⟨by rfl, fun w' _ => (by go_simp; rfl)⟩) hS ?_
              go_frame
              refine till_take 12 (some 99) rfl rfl (by kernel_rfl) (by kernel_rfl) (by kernel_rfl) (by kernel_rfl) (by kernel_rfl) (by kernel_rfl) (fun _ _ _ h => h) (yields_load (by rfl) 24 _ rfl (.pointer (some ⟨X, 0, none⟩)) rfl (.agg #[.int .u64 ya, .int .u64 yb, .int .u64 yc, .int .u64 yd]) (fun w' hS' => load_heap (hS'.1) Try.underlying24 rfl Try.sizeU)) hS ?_
              go_frame
              refine till_take 13 (some 100) rfl rfl (by kernel_rfl) (by kernel_rfl) (by kernel_rfl) (by kernel_rfl) (by kernel_rfl) (by kernel_rfl) (fun _ _ _ h => h) (.inl ⟨by rfl, fun w' _ => (by go_simp; rfl)⟩) hS ?_
              go_frame
              refine till_take 14 (some 101) rfl rfl (by kernel_rfl) (by kernel_rfl) (by kernel_rfl) (by kernel_rfl) (by kernel_rfl) (by kernel_rfl) (fun _ _ _ h => h) (.inl ⟨by rfl, fun w' _ => (by go_simp; rfl)⟩) hS ?_
              go_frame
              refine till_take 15 (some 102) rfl rfl (by kernel_rfl) (by kernel_rfl) (by kernel_rfl) (by kernel_rfl) (by kernel_rfl) (by kernel_rfl) (fun _ _ _ h => h) (.inl ⟨by rfl, fun w' _ => (by go_simp; rfl)⟩) hS ?_
              go_frame
              refine till_take 16 (some 103) rfl rfl (by kernel_rfl) (by kernel_rfl) (by kernel_rfl) (by kernel_rfl) (by kernel_rfl) (by kernel_rfl) (fun _ _ _ h => h) (.inl ⟨by rfl, fun w' _ => (by go_simp; rfl)⟩) hS ?_
              go_frame
              refine till_take 17 (some 104) rfl rfl (by kernel_rfl) (by kernel_rfl) (by kernel_rfl) (by kernel_rfl) (by kernel_rfl) (by kernel_rfl) (fun _ _ _ h => h) (.inl ⟨by rfl, fun w' _ => (by go_simp; rfl)⟩) hS ?_
              go_frame
              refine till_take 18 (some 105) rfl rfl (by kernel_rfl) (by kernel_rfl) (by kernel_rfl) (by kernel_rfl) (by kernel_rfl) (by kernel_rfl) (fun _ _ _ h => h) (.inl ⟨by rfl, fun w' _ => (by go_simp; rfl)⟩) hS ?_
              go_frame
              refine till_take 19 (some 106) rfl rfl (by kernel_rfl) (by kernel_rfl) (by kernel_rfl) (by kernel_rfl) (by kernel_rfl) (by kernel_rfl) (fun _ _ _ h => h) (.inl ⟨by rfl, fun w' _ => (by go_simp; rfl)⟩) hS ?_
              go_frame
              refine till_take 20 (some 107) rfl rfl (by kernel_rfl) (by kernel_rfl) (by kernel_rfl) (by kernel_rfl) (by kernel_rfl) (by kernel_rfl) (fun _ _ _ h => h) (.inl ⟨by rfl, fun w' _ => (by go_simp; rfl)⟩) hS ?_
              go_frame
              refine till_done (by kernel_rfl) ?_ _
              clear hS
              clear e1 e2 hlt0 hlt1 j1 j2 j3
              go_wp2_with fail
              go_roundw
              case rel => exact ⟨2, by go_num, by omega, by omega, OI, Lib.hid (by
                have h9 := HM.out
                rw [← HMX.out, HD.out.1, HD.out.2.1, HD.out.2.2] at h9
                exact h9)⟩
              case measure => simp [intOf]
          · clear ht1 ht4
            have HSZ2 : Hid (s2.t.length < 1099511627776) := Lib.hid (by have h8 := HK2.out.sz; have h9 := P150.out; have h7 := HJL.out; unfold PS.sz at h8; omega)
            go_wp2_with fail
            obtain ⟨FQ, hst⟩ := OI.out.get
            refine (total_any (UndB.st hst HSZ2.out) (fun b => Nat.lt_of_le_of_lt (List.length_filter_le _ _) HSZ2.out) (fun b p hp => HK2.out.fit p (List.mem_filter.1 hp).1) (t := 2) (by unfold I64; omega)).mono ?_
            rw [HK2.out.tot (by decide) (by decide), HK2.out.totB (by decide) (by decide)]
            rintro e e1 ⟨ya, yb, yc, yd, hu, rfl, hb⟩
            first | rw [if_pos trivial] at hu | rw [if_pos rfl] at hu
            have HYU := Lib.hid hu
            clear hu hst
            have OIm := Lib.hid (OI.out.later hb)
            have HMm := Lib.hid (below_at' hb HM.out)
            clear hb OI HM
            have OI := OIm
            have HM := HMm
            clear OIm HMm
            go_wp2_with (refine wpList_alloc_g rfl _ rfl _ _ Try.zeroUz rfl ?_)
            intro X e2 hX
            go_wp2_with (refine wpList_store_row_g (t := 24) (old := u0) rfl 24 _ _ rfl X #[.int .u64 ya, .int .u64 yb, .int .u64 yc, .int .u64 yd] rfl rfl hX.out.cells Try.sizeU rfl (one_u64 _ _ _ _) ?_)
            intro e3 hxX kX zX
            clear zX
            have hbX : Below e1.heap.size e1 e3 := hX.out.below.trans (kX.below (B := e1.heap.size) (fun x hx e => by have := hX.out.eq; omega) hX.out.below.size)
            have WX : Hid (w.heap.size ≤ X) := Lib.hid (by rw [hX.out.eq]; exact (OI.out.below).size)
            have NMX : Hid (M ≠ X) := Lib.hid (by have := hX.out.eq; have := heap_lt HM.out; omega)
            have HXz := Lib.hid hxX
            clear hX hxX kX
            have OIm := Lib.hid (OI.out.later hbX)
            have HMm := Lib.hid (below_at' hbX HM.out)
            clear hbX OI HM
            have OI := OIm
            have HM := HMm
            clear OIm HMm
            have HX := HXz
            clear HXz
            go_wp2_with fail
            refine (bSup_any (t := 2) (by unfold I64; omega) _).mono ?_
            rintro e e4 ⟨rfl, hb⟩
            have OIm := Lib.hid (OI.out.later hb)
            have HMm := Lib.hid (below_at' hb HM.out)
            have HXm := Lib.hid (below_at' hb HX.out)
            clear hb OI HM HX
            have OI := OIm
            have HM := HMm
            have HX := HXm
            clear OIm HMm HXm
            go_wp2_with fail
            obtain ⟨FQ, hst⟩ := OI.out.get
            have hgv := sget_any hst (keyF 2 [2])
            obtain ⟨vv, hvv⟩ : ∃ v, v = valF (getP s2.t) (kSup 2) := ⟨_, rfl⟩
            obtain ⟨pb, hpb⟩ : ∃ v, v = (getP s2.t (keyF 2 [2])).isSome := ⟨_, rfl⟩
            rw [show (getP s2.t (keyF 2 [2])).getD [] = vv from hvv.symm, ← hpb] at hgv
            have HVV := Lib.hid hvv
            clear hvv hpb
            refine (hgv).mono ?_
            rintro e _ ⟨rfl, rfl⟩
            clear hgv hst
            obtain ⟨mt, hmt9⟩ : ∃ q, q = m2 2 := ⟨_, rfl⟩
            rw [← hmt9] at HYU
            have HVV2 : Hid (vv = if mt = 0 then [] else amtB mt) := Lib.hid (by rw [HVV.out, HK2.out.sup 2 (by decide) (by decide), ← hmt9])
            have HMT : Hid (mt < uMax) := Lib.hid HYU.out.lt
            have hm9 := HM.out
            have e1 := Try.eqUn HYU.out (uw_is HMT.out)
            rw [decide_eq_true rfl] at e1
            have e2 := Try.eqUn HYU.out UIs.zero
            obtain ⟨x1, x2, x3, d1, d2, d3⟩ : ∃ x1 x2 x3, x1 = m2 1 ∧ x2 = m2 2 ∧ x3 = m2 3 := ⟨_, _, _, rfl, rfl, rfl⟩
            have HD := Lib.hid (And.intro d1 (And.intro d2 d3))
            rw [← d1, ← d2, ← d3] at hm9
            have hxm : x2 = mt := by rw [d2, hmt9]
            rw [hxm] at hm9
            clear d1 d2 d3 hmt9 HM
            have HMX := Lib.hid hxm
            clear hxm
            have HM := Lib.hid hm9
            clear hm9
            have hlt0 : ¬ er < 0 := by have := HER.out; omega
            have hlt1 : decide (er < 0) = false := decide_eq_false hlt0
            by_cases hz0 : mt = 0
            · rw [decide_eq_true hz0] at e2
              have hv0 : vv = [] := by rw [HVV2.out, if_pos hz0]
              subst hv0
              have j1 : (bs ([] : Txt)).toList = [] := toList_bs _
              have j2 : (bs ([] : Txt)).toList.isEmpty = true := by rw [toList_bs]; rfl
              clear hz0
              go_wp2_with fail
              obtain ⟨e5, hwz⟩ : ∃ wz, wz = e4.drew := ⟨_, rfl⟩
              have hbz : Below e4.heap.size e4 e5 := by rw [hwz]; exact (Below.refl _ _).drew
              have OIm := Lib.hid (OI.out.later hbz)
              have HMm := Lib.hid (below_at' hbz HM.out)
              have HXm := Lib.hid (below_at' hbz HX.out)
              clear hbz OI HM HX
              have OI := OIm
              have HM := HMm
              have HX := HXm
              clear OIm HMm HXm
              have hS : e5.heap[X]? = some (.cells #[.int .u64 ya, .int .u64 yb, .int .u64 yc, .int .u64 yd] 24 (0, 0)) ∧ e5.heap[M]? = some (.cells (MC x1 mt x3) 37 (0, 0)) := ⟨HX.out, HM.out⟩
              refine wp_region_till (fun w' => w'.heap[X]? = some (.cells #[.int .u64 ya, .int .u64 yb, .int .u64 yc, .int .u64 yd] 24 (0, 0)) ∧ w'.heap[M]? = some (.cells (MC x1 mt x3) 37 (0, 0))) 21 21 (by kernel_rfl) rfl ?_
              rw [← hwz]
              clear hwz
              refine till_take 0 (some 87) rfl rfl (by kernel_rfl) (by kernel_rfl) (by kernel_rfl) (by kernel_rfl) (by kernel_rfl) (by kernel_rfl) (fun _ _ _ h => h) (.inl ⟨by rfl, fun w' _ => (by go_simp; rfl)⟩) hS ?_
              go_frame
              refine till_take 1 (some 88) rfl rfl (by kernel_rfl) (by kernel_rfl) (by kernel_rfl) (by kernel_rfl) (by kernel_rfl) (by kernel_rfl) (fun _ _ _ h => h) (.inl ⟨by rfl, fun w' _ => (by go_simp; rfl)⟩) hS ?_
              go_frame
              refine till_take 2 (some 89) rfl rfl (by kernel_rfl) (by kernel_rfl) (by kernel_rfl) (by kernel_rfl) (by kernel_rfl) (by kernel_rfl) (fun _ _ _ h => h) (.inl ⟨by rfl, fun w' _ => (by go_simp; rfl)⟩) hS ?_
              go_frame
              refine till_take 3 (some 90) rfl rfl (by kernel_rfl) (by kernel_rfl) (by kernel_rfl) (by kernel_rfl) (by kernel_rfl) (by kernel_rfl) (fun _ _ _ h => h) (yields_load (by rfl) 24 _ rfl (.pointer (some ⟨X, 0, none⟩)) rfl (.agg #[.int .u64 ya, .int .u64 yb, .int .u64 yc, .int .u64 yd]) (fun w' hS' => load_heap (hS'.1) Try.underlying24 rfl Try.sizeU)) hS ?_
              go_frame
              refine till_take 4 (some 91) rfl rfl (by kernel_rfl) (by kernel_rfl) (by kernel_rfl) (by kernel_rfl) (by kernel_rfl) (by kernel_rfl) (fun _ _ _ h => h) (.inl ⟨by rfl, fun w' _ => (by go_simp; rfl)⟩) hS ?_
              go_frame
              refine till_take 5 (some 92) rfl rfl (by kernel_rfl) (by kernel_rfl) (by kernel_rfl) (by kernel_rfl) (by kernel_rfl) (by kernel_rfl) (fun _ _ _ h => h) (.inl ⟨by rfl, fun w' _ => (by go_simp; rfl)⟩) hS ?_
              go_frame
              refine till_take 6 (some 93) rfl rfl (by kernel_rfl) (by kernel_rfl) (by kernel_rfl) (by kernel_rfl) (by kernel_rfl) (by kernel_rfl) (fun _ _ _ h => h) (yields_load (by rfl) 24 _ rfl (.pointer (some ⟨M, 8, none⟩)) rfl (.agg #[.int .u64 (uw0 mt), .int .u64 (uw1 mt), .int .u64 (uw2 mt), .int .u64 (uw3 mt)]) (fun w' hS' => run_loadAt_mid w' M 8 24 [.int .u64 (uw0 mt), .int .u64 (uw1 mt), .int .u64 (uw2 mt), .int .u64 (uw3 mt)] _ (range_of_heap (hS'.2) 8 _ rfl) Try.underlying24 rfl Try.sizeU)) hS ?_
              go_frame
              refine till_take 7 (some 94) rfl rfl (by kernel_rfl) (by kernel_rfl) (by kernel_rfl) (by kernel_rfl) (by kernel_rfl) (by kernel_rfl) (fun _ _ _ h => h) (.inl ⟨by rfl, fun w' _ => (by go_simp; rfl)⟩) hS ?_
              go_frame
              refine till_take 8 (some 95) rfl rfl (by kernel_rfl) (by kernel_rfl) (by kernel_rfl) (by kernel_rfl) (by kernel_rfl) (by kernel_rfl) (fun _ _ _ h => h) (.inl ⟨by rfl, fun w' _ => (by go_simp; rfl)⟩) hS ?_
              go_frame
              refine till_take 9 (some 96) rfl rfl (by kernel_rfl) (by kernel_rfl) (by kernel_rfl) (by kernel_rfl) (by kernel_rfl) (by kernel_rfl) (fun _ _ _ h => h) (.inl ⟨by rfl, fun w' _ => (by go_simp; rfl)⟩) hS ?_
              go_frame
              refine till_take 10 (some 97) rfl rfl (by kernel_rfl) (by kernel_rfl) (by kernel_rfl) (by kernel_rfl) (by kernel_rfl) (by kernel_rfl) (fun _ _ _ h => h) (.inl ⟨by rfl, fun w' _ => (by go_simp; rfl)⟩) hS ?_
              go_frame
              refine till_take 11 (some 98) rfl rfl (by kernel_rfl) (by kernel_rfl) (by kernel_rfl) (by kernel_rfl) (by kernel_rfl) (by kernel_rfl) (fun _ _ _ h => h) (.inl ⟨by rfl, fun w' _ => (by go_simp; rfl)⟩) hS ?_
              go_frame
              refine till_take 12 (some 99) rfl rfl (by kernel_rfl) (by kernel_rfl) (by kernel_rfl) (by kernel_rfl) (by kernel_rfl) (by kernel_rfl) (fun _ _ _ h => h) (yields_load (by rfl) 24 _ rfl (.pointer (some ⟨X, 0, none⟩)) rfl (.agg #[.int .u64 ya, .int .u64 yb, .int .u64 yc, .int .u64 yd]) (fun w' hS' => load_heap (hS'.1) Try.underlying24 rfl Try.sizeU)) hS ?_
              go_frame
              refine till_take 13 (some 100) rfl rfl (by kernel_rfl) (by kernel_rfl) (by kernel_rfl) (by kernel_rfl) (by kernel_rfl) (by kernel_rfl) (fun _ _ _ h => h) (.inl ⟨by rfl, fun w' _ => (by go_simp; rfl)⟩) hS ?_
              go_frame
              refine till_take 14 (some 101) rfl rfl (by kernel_rfl) (by kernel_rfl) (by kernel_rfl) (by kernel_rfl) (by kernel_rfl) (by kernel_rfl) (fun _ _ _ h => h) (.inl ⟨by rfl, fun w' _ => (by go_simp; rfl)⟩) hS ?_
              go_frame
              refine till_take 15 (some 102) rfl rfl (by kernel_rfl) (by kernel_rfl) (by kernel_rfl) (by kernel_rfl) (by kernel_rfl) (by kernel_rfl) (fun _ _ _ h => h) (.inl ⟨by rfl, fun w' _ => (by go_simp; rfl)⟩) hS ?_
              go_frame
              refine till_take 16 (some 103) rfl rfl (by kernel_rfl) (by kernel_rfl) (by kernel_rfl) (by kernel_rfl) (by kernel_rfl) (by kernel_rfl) (fun _ _ _ h => h) (.inl ⟨by rfl, fun w' _ => (by go_simp; rfl)⟩) hS ?_
              go_frame
              refine till_take 17 (some 104) rfl rfl (by kernel_rfl) (by kernel_rfl) (by kernel_rfl) (by kernel_rfl) (by kernel_rfl) (by kernel_rfl) (fun _ _ _ h => h) (.inl ⟨by rfl, fun w' _ => (by go_simp; rfl)⟩) hS ?_
              go_frame
              refine till_take 18 (some 105) rfl rfl (by kernel_rfl) (by kernel_rfl) (by kernel_rfl) (by kernel_rfl) (by kernel_rfl) (by kernel_rfl) (fun _ _ _ h => h) (.inl ⟨by rfl, fun w' _ => (by go_simp; rfl)⟩) hS ?_
              go_frame
              refine till_take 19 (some 106) rfl rfl (by kernel_rfl) (by kernel_rfl) (by kernel_rfl) (by kernel_rfl) (by kernel_rfl) (by kernel_rfl) (fun _ _ _ h => h) (.inl ⟨by rfl, fun w' _ => (by go_simp; rfl)⟩) hS ?_
              go_frame
              refine till_take 20 (some 107) rfl rfl (by kernel_rfl) (by kernel_rfl) (by kernel_rfl) (by kernel_rfl) (by kernel_rfl) (by kernel_rfl) (fun _ _ _ h => h) (.inl ⟨by rfl, fun w' _ => (by go_simp; rfl)⟩) hS ?_
              go_frame
              refine till_done (by kernel_rfl) ?_ _
              clear hS
              clear e1 e2 hlt0 hlt1 j1 j2
              go_wp2_with fail
              go_roundw
              case rel => exact ⟨3, by go_num, by omega, by omega, OI, Lib.hid (by
                have h9 := HM.out
                rw [HD.out.1, ← HMX.out, HD.out.2.1, HD.out.2.2] at h9
                exact h9)⟩
              case measure => simp [intOf]
            · rw [decide_eq_false hz0] at e2
              have hv0 : vv ≠ [] := by rw [HVV2.out, if_neg hz0]; exact amtB_ne mt
              have j1 : (bs vv).toList ≠ [] := by rw [toList_bs]; exact hv0
              have j2 : (bs vv).toList.isEmpty = false := by rw [toList_bs]; cases vv <;> simp_all
              have j3 : ((bs vv).toList == []) = false := by rw [toList_bs]; cases vv <;> simp_all
              clear hz0 hv0
              go_wp2_with fail
              obtain ⟨e5, hwz⟩ : ∃ wz, wz = e4.drew := ⟨_, rfl⟩
              have hbz : Below e4.heap.size e4 e5 := by rw [hwz]; exact (Below.refl _ _).drew
              have OIm := Lib.hid (OI.out.later hbz)
              have HMm := Lib.hid (below_at' hbz HM.out)
              have HXm := Lib.hid (below_at' hbz HX.out)
              clear hbz OI HM HX
              have OI := OIm
              have HM := HMm
              have HX := HXm
              clear OIm HMm HXm
              have hS : e5.heap[X]? = some (.cells #[.int .u64 ya, .int .u64 yb, .int .u64 yc, .int .u64 yd] 24 (0, 0)) ∧ e5.heap[M]? = some (.cells (MC x1 mt x3) 37 (0, 0)) := ⟨HX.out, HM.out⟩
              refine wp_region_till (fun w' => w'.heap[X]? = some (.cells #[.int .u64 ya, .int .u64 yb, .int .u64 yc, .int .u64 yd] 24 (0, 0)) ∧ w'.heap[M]? = some (.cells (MC x1 mt x3) 37 (0, 0))) 21 21 (by kernel_rfl) rfl ?_
              rw [← hwz]
              clear hwz
              refine till_take 0 (some 87) rfl rfl (by kernel_rfl) (by kernel_rfl) (by kernel_rfl) (by kernel_rfl) (by kernel_rfl) (by kernel_rfl) (fun _ _ _ h => h) (.inl ⟨by rfl, fun w' _ => (by go_simp; rfl)⟩) hS ?_
              go_frame
              refine till_take 1 (some 88) rfl rfl (by kernel_rfl) (by kernel_rfl) (by kernel_rfl) (by kernel_rfl) (by kernel_rfl) (by kernel_rfl) (fun _ _ _ h => h) (.inl ⟨by rfl, fun w' _ => (by go_simp; rfl)⟩) hS ?_
              go_frame
              refine till_take 2 (some 89) rfl rfl (by kernel_rfl) (by kernel_rfl) (by kernel_rfl) (by kernel_rfl) (by kernel_rfl) (by kernel_rfl) (fun _ _ _ h => h) (.inl ⟨by rfl, fun w' _ => (by go_simp; rfl)⟩) hS ?_
              go_frame
              refine till_take 3 (some 90) rfl rfl (by kernel_rfl) (by kernel_rfl) (by kernel_rfl) (by kernel_rfl) (by kernel_rfl) (by kernel_rfl) (fun _ _ _ h => h) (yields_load (by rfl) 24 _ rfl (.pointer (some ⟨X, 0, none⟩)) rfl (.agg #[.int .u64 ya, .int .u64 yb, .int .u64 yc, .int .u64 yd]) (fun w' hS' => load_heap (hS'.1) Try.underlying24 rfl Try.sizeU)) hS ?_
              go_frame
              refine till_take 4 (some 91) rfl rfl (by kernel_rfl) (by kernel_rfl) (by kernel_rfl) (by kernel_rfl) (by kernel_rfl) (by kernel_rfl) (fun _ _ _ h => h) (.inl ⟨by rfl, fun w' _ => (by go_simp; rfl)⟩) hS ?_
              go_frame
              refine till_take 5 (some 92) rfl rfl (by kernel_rfl) (by kernel_rfl) (by kernel_rfl) (by kernel_rfl) (by kernel_rfl) (by kernel_rfl) (fun _ _ _ h => h) (.inl ⟨by rfl, fun w' _ => (by go_simp; rfl)⟩) hS ?_
              go_frame
              refine till_take 6 (some 93) rfl rfl (by kernel_rfl) (by kernel_rfl) (by kernel_rfl) (by kernel_rfl) (by kernel_rfl) (by kernel_rfl) (fun _ _ _ h => h) (yields_load (by rfl) 24 _ rfl (.pointer (some ⟨M, 8, none⟩)) rfl (.agg #[.int .u64 (uw0 mt), .int .u64 (uw1 mt), .int .u64 (uw2 mt), .int .u64 (uw3 mt)]) (fun w' hS' => run_loadAt_mid w' M 8 24 [.int .u64 (uw0 mt), .int .u64 (uw1 mt), .int .u64 (uw2 mt), .int .u64 (uw3 mt)] _ (range_of_heap (hS'.2) 8 _ rfl) Try.underlying24 rfl Try.sizeU)) hS ?_
              go_frame
              refine till_take 7 (some 94) rfl rfl (by kernel_rfl) (by kernel_rfl) (by kernel_rfl) (by kernel_rfl) (by kernel_rfl) (by kernel_rfl) (fun _ _ _ h => h) (.inl ⟨by rfl, fun w' _ => (by go_simp; rfl)⟩) hS ?_
              go_frame
              refine till_take 8 (some 95) rfl rfl (by kernel_rfl) (by kernel_rfl) (by kernel_rfl) (by kernel_rfl) (by kernel_rfl) (by kernel_rfl) (fun _ _ _ h => h) (.inl ⟨by rfl, fun w' _ => (by go_simp; rfl)⟩) hS ?_
              go_frame
              refine till_take 9 (some 96) rfl rfl (by kernel_rfl) (by kernel_rfl) (by kernel_rfl) (by kernel_rfl) (by kernel_rfl) (by kernel_rfl) (fun _ _ _ h => h) (.inl ⟨by rfl, fun w' _ => (by go_simp; rfl)⟩) hS ?_
              go_frame
              refine till_take 10 (some 97) rfl rfl (by kernel_rfl) (by kernel_rfl) (by kernel_rfl) (by kernel_rfl) (by kernel_rfl) (by kernel_rfl) (fun _ _ _ h => h) (.inl ⟨by rfl, fun w' _ => (by go_simp; rfl)⟩) hS ?_
              go_frame
              refine till_take 11 (some 98) rfl rfl (by kernel_rfl) (by kernel_rfl) (by kernel_rfl) (by kernel_rfl) (by kernel_rfl) (by kernel_rfl) (fun _ _ _ h => h) (.inl ⟨by rfl, fun w' _ => (by go_simp; rfl)⟩) hS ?_
              go_frame
              refine till_take 12 (some 99) rfl rfl (by kernel_rfl) (by kernel_rfl) (by kernel_rfl) (by kernel_rfl) (by kernel_rfl) (by kernel_rfl) (fun _ _ _ h => h) (yields_load (by rfl) 24 _ rfl (.pointer (some ⟨X, 0, none⟩)) rfl (.agg #[.int .u64 ya, .int .u64 yb, .int .u64 yc, .int .u64 yd]) (fun w' hS' => load_heap (hS'.1) Try.underlying24 rfl Try.sizeU)) hS ?_
              go_frame
              refine till_take 13 (some 100) rfl rfl (by kernel_rfl) (by kernel_rfl) (by kernel_rfl) (by kernel_rfl) (by kernel_rfl) (by kernel_rfl) (fun _ _ _ h => h) (.inl ⟨by rfl, fun w' _ => (by go_simp; rfl)⟩) hS ?_
              go_frame
              refine till_take 14 (some 101) rfl rfl (by kernel_rfl) (by kernel_rfl) (by kernel_rfl) (by kernel_rfl) (by kernel_rfl) (by kernel_rfl) (fun _ _ _ h => h) (.inl ⟨by rfl, fun w' _ => (by go_simp; rfl)⟩) hS ?_
              go_frame
              refine till_take 15 (some 102) rfl rfl (by kernel_rfl) (by kernel_rfl) (by kernel_rfl) (by kernel_rfl) (by kernel_rfl) (by kernel_rfl) (fun _ _ _ h => h) (.inl ⟨by rfl, fun w' _ => (by go_simp; rfl)⟩) hS ?_
              go_frame
              refine till_take 16 (some 103) rfl rfl (by kernel_rfl) (by kernel_rfl) (by kernel_rfl) (by kernel_rfl) (by kernel_rfl) (by kernel_rfl) (fun _ _ _ h => h) (.inl ⟨by rfl, fun w' _ => (by go_simp; rfl)⟩) hS ?_
              go_frame
              refine till_take 17 (some 104) rfl rfl (by kernel_rfl) (by kernel_rfl) (by kernel_rfl) (by kernel_rfl) (by kernel_rfl) (by kernel_rfl) (fun _ _ _ h => h) (.inl ⟨by rfl, fun w' _ => (by go_simp; rfl)⟩) hS ?_
              go_frame
              refine till_take 18 (some 105) rfl rfl (by kernel_rfl) (by kernel_rfl) (by kernel_rfl) (by kernel_rfl) (by kernel_rfl) (by kernel_rfl) (fun _ _ _ h => h) (.inl ⟨by rfl, fun w' _ => (by go_simp; rfl)⟩) hS ?_
              go_frame
              refine till_take 19 (some 106) rfl rfl (by kernel_rfl) (by kernel_rfl) (by kernel_rfl) (by kernel_rfl) (by kernel_rfl) (by kernel_rfl) (fun _ _ _ h => h) (.inl ⟨by rfl, fun w' _ => (by go_simp; rfl)⟩) hS ?_
              go_frame
              refine till_take 20 (some 107) rfl rfl (by kernel_rfl) (by kernel_rfl) (by kernel_rfl) (by kernel_rfl) (by kernel_rfl) (by kernel_rfl) (fun _ _ _ h => h) (.inl ⟨by rfl, fun w' _ => (by go_simp; rfl)⟩) hS ?_
              go_frame
              refine till_done (by kernel_rfl) ?_ _
              clear hS
              clear e1 e2 hlt0 hlt1 j1 j2 j3
              go_wp2_with fail
              go_roundw
              case rel => exact ⟨3, by go_num, by omega, by omega, OI, Lib.hid (by
                have h9 := HM.out
                rw [HD.out.1, ← HMX.out, HD.out.2.1, HD.out.2.2] at h9
                exact h9)⟩
              case measure => simp [intOf]
          · clear ht1 ht4
            have HSZ2 : Hid (s2.t.length < 1099511627776) := Lib.hid (by have h8 := HK2.out.sz; have h9 := P150.out; have h7 := HJL.out; unfold PS.sz at h8; omega)
            go_wp2_with fail
            obtain ⟨FQ, hst⟩ := OI.out.get
            refine (total_any (UndB.st hst HSZ2.out) (fun b => Nat.lt_of_le_of_lt (List.length_filter_le _ _) HSZ2.out) (fun b p hp => HK2.out.fit p (List.mem_filter.1 hp).1) (t := 3) (by unfold I64; omega)).mono ?_
            rw [HK2.out.tot (by decide) (by decide), HK2.out.totB (by decide) (by decide)]
            rintro e e1 ⟨ya, yb, yc, yd, hu, rfl, hb⟩
            first | rw [if_pos trivial] at hu | rw [if_pos rfl] at hu
            have HYU := Lib.hid hu
            clear hu hst
            have OIm := Lib.hid (OI.out.later hb)
            have HMm := Lib.hid (below_at' hb HM.out)
            clear hb OI HM
            have OI := OIm
            have HM := HMm
            clear OIm HMm
            go_wp2_with (refine wpList_alloc_g rfl _ rfl _ _ Try.zeroUz rfl ?_)
            intro X e2 hX
            go_wp2_with (refine wpList_store_row_g (t := 24) (old := u0) rfl 24 _ _ rfl X #[.int .u64 ya, .int .u64 yb, .int .u64 yc, .int .u64 yd] rfl rfl hX.out.cells Try.sizeU rfl (one_u64 _ _ _ _) ?_)
            intro e3 hxX kX zX
            clear zX
            have hbX : Below e1.heap.size e1 e3 := hX.out.below.trans (kX.below (B := e1.heap.size) (fun x hx e => by have := hX.out.eq; omega) hX.out.below.size)
            have WX : Hid (w.heap.size ≤ X) := Lib.hid (by rw [hX.out.eq]; exact (OI.out.below).size)
            have NMX : Hid (M ≠ X) := Lib.hid (by have := hX.out.eq; have := heap_lt HM.out; omega)
            have HXz := Lib.hid hxX
            clear hX hxX kX
            have OIm := Lib.hid (OI.out.later hbX)
            have HMm := Lib.hid (below_at' hbX HM.out)
            clear hbX OI HM
            have OI := OIm
            have HM := HMm
            clear OIm HMm
            have HX := HXz
            clear HXz
            go_wp2_with fail
            refine (bSup_any (t := 3) (by unfold I64; omega) _).mono ?_
            rintro e e4 ⟨rfl, hb⟩
            have OIm := Lib.hid (OI.out.later hb)
            have HMm := Lib.hid (below_at' hb HM.out)
            have HXm := Lib.hid (below_at' hb HX.out)
            clear hb OI HM HX
            have OI := OIm
            have HM := HMm
            have HX := HXm
            clear OIm HMm HXm
            go_wp2_with fail
            obtain ⟨FQ, hst⟩ := OI.out.get
            have hgv := sget_any hst (keyF 2 [3])
            obtain ⟨vv, hvv⟩ : ∃ v, v = valF (getP s2.t) (kSup 3) := ⟨_, rfl⟩
            obtain ⟨pb, hpb⟩ : ∃ v, v = (getP s2.t (keyF 2 [3])).isSome := ⟨_, rfl⟩
            rw [show (getP s2.t (keyF 2 [3])).getD [] = vv from hvv.symm, ← hpb] at hgv
            have HVV := Lib.hid hvv
            clear hvv hpb
            refine (hgv).mono ?_
            rintro e _ ⟨rfl, rfl⟩
            clear hgv hst
            obtain ⟨mt, hmt9⟩ : ∃ q, q = m2 3 := ⟨_, rfl⟩
            rw [← hmt9] at HYU
            have HVV2 : Hid (vv = if mt = 0 then [] else amtB mt) := Lib.hid (by rw [HVV.out, HK2.out.sup 3 (by decide) (by decide), ← hmt9])
            have HMT : Hid (mt < uMax) := Lib.hid HYU.out.lt
            have hm9 := HM.out
            have e1 := Try.eqUn HYU.out (uw_is HMT.out)
            rw [decide_eq_true rfl] at e1
            have e2 := Try.eqUn HYU.out UIs.zero
            obtain ⟨x1, x2, x3, d1, d2, d3⟩ : ∃ x1 x2 x3, x1 = m2 1 ∧ x2 = m2 2 ∧ x3 = m2 3 := ⟨_, _, _, rfl, rfl, rfl⟩
            have HD := Lib.hid (And.intro d1 (And.intro d2 d3))
            rw [← d1, ← d2, ← d3] at hm9
            have hxm : x3 = mt := by rw [d3, hmt9]
            rw [hxm] at hm9
            clear d1 d2 d3 hmt9 HM
            have HMX := Lib.hid hxm
            clear hxm
            have HM := Lib.hid hm9
            clear hm9
            have hlt0 : ¬ er < 0 := by have := HER.out; omega
            have hlt1 : decide (er < 0) = false := decide_eq_false hlt0
            by_cases hz0 : mt = 0
            · rw [decide_eq_true hz0] at e2
              have hv0 : vv = [] := by rw [HVV2.out, if_pos hz0]
              subst hv0
              have j1 : (bs ([] : Txt)).toList = [] := toList_bs _
              have j2 : (bs ([] : Txt)).toList.isEmpty = true := by rw [toList_bs]; rfl
              clear hz0
              go_wp2_with fail
              obtain ⟨e5, hwz⟩ : ∃ wz, wz = e4.drew := ⟨_, rfl⟩
              have hbz : Below e4.heap.size e4 e5 := by rw [hwz]; exact (Below.refl _ _).drew
              have OIm := Lib.hid (OI.out.later hbz)
              have HMm := Lib.hid (below_at' hbz HM.out)
              have HXm := Lib.hid (below_at' hbz HX.out)
              clear hbz OI HM HX
              have OI := OIm
              have HM := HMm
              have HX := HXm
              clear OIm HMm HXm
              have hS : e5.heap[X]? = some (.cells #[.int .u64 ya, .int .u64 yb, .int .u64 yc, .int .u64 yd] 24 (0, 0)) ∧ e5.heap[M]? = some (.cells (MC x1 x2 mt) 37 (0, 0)) := ⟨HX.out, HM.out⟩
              refine wp_region_till (fun w' => w'.heap[X]? = some (.cells #[.int .u64 ya, .int .u64 yb, .int .u64 yc, .int .u64 yd] 24 (0, 0)) ∧ w'.heap[M]? = some (.cells (MC x1 x2 mt) 37 (0, 0))) 21 21 (by kernel_rfl) rfl ?_
              rw [← hwz]
              clear hwz
              refine till_take 0 (some 87) rfl rfl (by kernel_rfl) (by kernel_rfl) (by kernel_rfl) (by kernel_rfl) (by kernel_rfl) (by kernel_rfl) (fun _ _ _ h => h) (.inl ⟨by rfl, fun w' _ => (by go_simp; rfl)⟩) hS ?_
              go_frame
              refine till_take 1 (some 88) rfl rfl (by kernel_rfl) (by kernel_rfl) (by kernel_rfl) (by kernel_rfl) (by kernel_rfl) (by kernel_rfl) (fun _ _ _ h => h) (.inl ⟨by rfl, fun w' _ => (by go_simp; rfl)⟩) hS ?_
              go_frame
              refine till_take 2 (some 89) rfl rfl (by kernel_rfl) (by kernel_rfl) (by kernel_rfl) (by kernel_rfl) (by kernel_rfl) (by kernel_rfl) (fun _ _ _ h => h) (.inl ⟨by rfl, fun w' _ => (by go_simp; rfl)⟩) hS ?_
              go_frame
              refine till_take 3 (some 90) rfl rfl (by kernel_rfl) (by kernel_rfl) (by kernel_rfl) (by kernel_rfl) (by kernel_rfl) (by kernel_rfl) (fun _ _ _ h => h) (yields_load (by rfl) 24 _ rfl (.pointer (some ⟨X, 0, none⟩)) rfl (.agg #[.int .u64 ya, .int .u64 yb, .int .u64 yc, .int .u64 yd]) (fun w' hS' => load_heap (hS'.1) Try.underlying24 rfl Try.sizeU)) hS ?_
              go_frame
              refine till_take 4 (some 91) rfl rfl (by kernel_rfl) (by kernel_rfl) (by kernel_rfl) (by kernel_rfl) (by kernel_rfl) (by kernel_rfl) (fun _ _ _ h => h) (.inl ⟨by rfl, fun w' _ => (by go_simp; rfl)⟩) hS ?_
              go_frame
              refine till_take 5 (some 92) rfl rfl (by kernel_rfl) (by kernel_rfl) (by kernel_rfl) (by kernel_rfl) (by kernel_rfl) (by kernel_rfl) (fun _ _ _ h => h) (.inl ⟨by rfl, fun w' _ => (by go_simp; rfl)⟩) hS ?_
              go_frame
              refine till_take 6 (some 93) rfl rfl (by kernel_rfl) (by kernel_rfl) (by kernel_rfl) (by kernel_rfl) (by kernel_rfl) (by kernel_rfl) (fun _ _ _ h => h) (yields_load (by rfl) 24 _ rfl (.pointer (some ⟨M, 12, none⟩)) rfl (.agg #[.int .u64 (uw0 mt), .int .u64 (uw1 mt), .int .u64 (uw2 mt), .int .u64 (uw3 mt)]) (fun w' hS' => run_loadAt_mid w' M 12 24 [.int .u64 (uw0 mt), .int .u64 (uw1 mt), .int .u64 (uw2 mt), .int .u64 (uw3 mt)] _ (range_of_heap (hS'.2) 12 _ rfl) Try.underlying24 rfl Try.sizeU)) hS ?_
              go_frame
              refine till_take 7 (some 94) rfl rfl (by kernel_rfl) (by kernel_rfl) (by kernel_rfl) (by kernel_rfl) (by kernel_rfl) (by kernel_rfl) (fun _ _ _ h => h) (.inl ⟨by rfl, fun w' _ => (by go_simp; rfl)⟩) hS ?_
              go_frame
              refine till_take 8 (some 95) rfl rfl (by kernel_rfl) (by kernel_rfl) (by kernel_rfl) (by kernel_rfl) (by kernel_rfl) (by kernel_rfl) (fun _ _ _ h => h) (.inl ⟨by rfl, fun w' _ => (by go_simp; rfl)⟩) hS ?_
              go_frame
              refine till_take 9 (some 96) rfl rfl (by kernel_rfl) (by kernel_rfl) (by kernel_rfl) (by kernel_rfl) (by kernel_rfl) (by kernel_rfl) (fun _ _ _ h => h) (.inl ⟨by rfl, fun w' _ => (by go_simp; rfl)⟩) hS ?_
              go_frame
              refine till_take 10 (some 97) rfl rfl (by kernel_rfl) (by kernel_rfl) (by kernel_rfl) (by kernel_rfl) (by kernel_rfl) (by kernel_rfl) (fun _ _ _ h => h) (.inl ⟨by rfl, fun w' _ => (by go_simp; rfl)⟩) hS ?_
              go_frame
              refine till_take 11 (some 98) rfl rfl (by kernel_rfl) (by kernel_rfl) (by kernel_rfl) (by kernel_rfl) (by kernel_rfl) (by kernel_rfl) (fun _ _ _ h => h) (.inl ⟨by rfl, fun w' _ => (by go_simp; rfl)⟩) hS ?_
              go_frame
              refine till_take 12 (some 99) rfl rfl (by kernel_rfl) (by kernel_rfl) (by kernel_rfl) (by kernel_rfl) (by kernel_rfl) (by kernel_rfl) (fun _ _ _ h => h) (yields_load (by rfl) 24 _ rfl (.pointer (some ⟨X, 0, none⟩)) rfl (.agg #[.int .u64 ya, .int .u64 yb, .int .u64 yc, .int .u64 yd]) (fun w' hS' => load_heap (hS'.1) Try.underlying24 rfl Try.sizeU)) hS ?_
              go_frame
              refine till_take 13 (some 100) rfl rfl (by kernel_rfl) (by kernel_rfl) (by kernel_rfl) (by kernel_rfl) (by kernel_rfl) (by kernel_rfl) (fun _ _ _ h => h) (.inl ⟨by rfl, fun w' _ => (by go_simp; rfl)⟩) hS ?_
              go_frame
              refine till_take 14 (some 101) rfl rfl (by kernel_rfl) (by kernel_rfl) (by kernel_rfl) (by kernel_rfl) (by kernel_rfl) (by kernel_rfl) (fun _ _ _ h => h) (.inl ⟨by rfl, fun w' _ => (by go_simp; rfl)⟩) hS ?_
              go_frame
              refine till_take 15 (some 102) rfl rfl (by kernel_rfl) (by kernel_rfl) (by kernel_rfl) (by kernel_rfl) (by kernel_rfl) (by kernel_rfl) (fun _ _ _ h => h) (.inl ⟨by rfl, fun w' _ => (by go_simp; rfl)⟩) hS ?_
              go_frame
              refine till_take 16 (some 103) rfl rfl (by kernel_rfl) (by kernel_rfl) (by kernel_rfl) (by kernel_rfl) (by kernel_rfl) (by kernel_rfl) (fun _ _ _ h => h) (.inl ⟨by rfl, fun w' _ => (by go_simp; rfl)⟩) hS ?_
              go_frame
              refine till_take 17 (some 104) rfl rfl (by kernel_rfl) (by kernel_rfl) (by kernel_rfl) (by kernel_rfl) (by kernel_rfl) (by kernel_rfl) (fun _ _ _ h => h) (.inl ⟨by rfl, fun w' _ => (by go_simp; rfl)⟩) hS ?_
              go_frame
              refine till_take 18 (some 105) rfl rfl (by kernel_rfl) (by kernel_rfl) (by kernel_rfl) (by kernel_rfl) (by kernel_rfl) (by kernel_rfl) (fun _ _ _ h => h) (.inl ⟨by rfl, fun w' _ => (by go_simp; rfl)⟩) hS ?_
              go_frame
              refine till_take 19 (some 106) rfl rfl (by kernel_rfl) (by kernel_rfl) (by kernel_rfl) (by kernel_rfl) (by kernel_rfl) (by kernel_rfl) (fun _ _ _ h => h) (.inl ⟨by rfl, fun w' _ => (by go_simp; rfl)⟩) hS ?_
              go_frame
              refine till_take 20 (some 107) rfl rfl (by kernel_rfl) (by kernel_rfl) (by kernel_rfl) (by kernel_rfl) (by kernel_rfl) (by kernel_rfl) (fun _ _ _ h => h) (.inl ⟨by rfl, fun w' _ => (by go_simp; rfl)⟩) hS ?_
              go_frame
              refine till_done (by kernel_rfl) ?_ _
              clear hS
              clear e1 e2 hlt0 hlt1 j1 j2
              go_wp2_with fail
              go_roundw
              case rel => exact ⟨4, by go_num, by omega, by omega, OI, Lib.hid (by
                have h9 := HM.out
                rw [HD.out.1, HD.out.2.1, ← HMX.out, HD.out.2.2] at h9
                exact h9)⟩
              case measure => simp [intOf]
            · rw [decide_eq_false hz0] at e2
              have hv0 : vv ≠ [] := by rw [HVV2.out, if_neg hz0]; exact amtB_ne mt
              have j1 : (bs vv).toList ≠ [] := by rw [toList_bs]; exact hv0
              have j2 : (bs vv).toList.isEmpty = false := by rw [toList_bs]; cases vv <;> simp_all
              have j3 : ((bs vv).toList == []) = false := by rw [toList_bs]; cases vv <;> simp_all
              clear hz0 hv0
              go_wp2_with fail
              obtain ⟨e5, hwz⟩ : ∃ wz, wz = e4.drew := ⟨_, rfl⟩
              have hbz : Below e4.heap.size e4 e5 := by rw [hwz]; exact (Below.refl _ _).drew
              have OIm := Lib.hid (OI.out.later hbz)
              have HMm := Lib.hid (below_at' hbz HM.out)
              have HXm := Lib.hid (below_at' hbz HX.out)
              clear hbz OI HM HX
              have OI := OIm
              have HM := HMm
              have HX := HXm
              clear OIm HMm HXm
              have hS : e5.heap[X]? = some (.cells #[.int .u64 ya, .int .u64 yb, .int .u64 yc, .int .u64 yd] 24 (0, 0)) ∧ e5.heap[M]? = some (.cells (MC x1 x2 mt) 37 (0, 0)) := ⟨HX.out, HM.out⟩
              refine wp_region_till (fun w' => w'.heap[X]? = some (.cells #[.int .u64 ya, .int .u64 yb, .int .u64 yc, .int .u64 yd] 24 (0, 0)) ∧ w'.heap[M]? = some (.cells (MC x1 x2 mt) 37 (0, 0))) 21 21 (by kernel_rfl) rfl ?_
              rw [← hwz]
              clear hwz
              refine till_take 0 (some 87) rfl rfl (by kernel_rfl) (by kernel_rfl) (by kernel_rfl) (by kernel_rfl) (by kernel_rfl) (by kernel_rfl) (fun _ _ _ h => h) (.inl ⟨by rfl, fun w' _ => (by go_simp; rfl)⟩) hS ?_
              go_frame
              refine till_take 1 (some 88) rfl rfl (by kernel_rfl) (by kernel_rfl) (by kernel_rfl) (by kernel_rfl) (by kernel_rfl) (by kernel_rfl) (fun _ _ _ h => h) (.inl ⟨by rfl, fun w' _ => (by go_simp; rfl)⟩) hS ?_
              go_frame
              refine till_take 2 (some 89) rfl rfl (by kernel_rfl) (by kernel_rfl) (by kernel_rfl) (by kernel_rfl) (by kernel_rfl) (by kernel_rfl) (fun _ _ _ h => h) (.inl ⟨by rfl, fun w' _ => (by go_simp; rfl)⟩) hS ?_
              go_frame
              refine till_take 3 (some 90) rfl rfl (by kernel_rfl) (by kernel_rfl) (by kernel_rfl) (by kernel_rfl) (by kernel_rfl) (by kernel_rfl) (fun _ _ _ h => h) (yields_load (by rfl) 24 _ rfl (.pointer (some ⟨X, 0, none⟩)) rfl (.agg #[.int .u64 ya, .int .u64 yb, .int .u64 yc, .int .u64 yd]) (fun w' hS' => load_heap (hS'.1) Try.underlying24 rfl Try.sizeU)) hS ?_
              go_frame
              refine till_take 4 (some 91) rfl rfl (by kernel_rfl) (by kernel_rfl) (by kernel_rfl) (by kernel_rfl) (by kernel_rfl) (by kernel_rfl) (fun _ _ _ h => h) (.inl ⟨by rfl, fun w' _ => (by go_simp; rfl)⟩) hS ?_
              go_frame
              refine till_take 5 (some 92) rfl rfl (by kernel_rfl) (by kernel_rfl) (by kernel_rfl) (by kernel_rfl) (by kernel_rfl) (by kernel_rfl) (fun _ _ _ h => h) (.inl ⟨by rfl, fun w' _ => (by go_simp; rfl)⟩) hS ?_
              go_frame
              refine till_take 6 (some 93) rfl rfl (by kernel_rfl) (by kernel_rfl) (by kernel_rfl) (by kernel_rfl) (by kernel_rfl) (by kernel_rfl) (fun _ _ _ h => h) (yields_load (by rfl) 24 _ rfl (.pointer (some ⟨M, 12, none⟩)) rfl (.agg #[.int .u64 (uw0 mt), .int .u64 (uw1 mt), .int .u64 (uw2 mt), .int .u64 (uw3 mt)]) (fun w' hS' => run_loadAt_mid w' M 12 24 [.int .u64 (uw0 mt), .int .u64 (uw1 mt), .int .u64 (uw2 mt), .int .u64 (uw3 mt)] _ (range_of_heap (hS'.2) 12 _ rfl) Try.underlying24 rfl Try.sizeU)) hS ?_
              go_frame
              refine till_take 7 (some 94) rfl rfl (by kernel_rfl) (by kernel_rfl) (by kernel_rfl) (by kernel_rfl) (by kernel_rfl) (by kernel_rfl) (fun _ _ _ h => h) (.inl ⟨by rfl, fun w' _ => (by go_simp; rfl)⟩) hS ?_
              go_frame
              refine till_take 8 (some 95) rfl rfl (by kernel_rfl) (by kernel_rfl) (by kernel_rfl) (by kernel_rfl) (by kernel_rfl) (by kernel_rfl) (fun _ _ _ h => h) (.inl ⟨by rfl, fun w' _ => (by go_simp; rfl)⟩) hS ?_
              go_frame
              refine till_take 9 (some 96) rfl rfl (by kernel_rfl) (by kernel_rfl) (by kernel_rfl) (by kernel_rfl) (by kernel_rfl) (by kernel_rfl) (fun _ _ _ h => h) (.inl ⟨by rfl, fun w' _ => (by go_simp; rfl)⟩) hS ?_
              go_frame
              refine till_take 10 (some 97) rfl rfl (by kernel_rfl) (by kernel_rfl) (by kernel_rfl) (by kernel_rfl) (by kernel_rfl) (by kernel_rfl) (fun _ _ _ h => h) (.inl ⟨by rfl, fun w' _ => (by go_simp; rfl)⟩) hS ?_
              go_frame
              refine till_take 11 (some 98) rfl rfl (by kernel_rfl) (by kernel_rfl) (by kernel_rfl) (by kernel_rfl) (by kernel_rfl) (by kernel_rfl) (fun _ _ _ h => h) (.inl ⟨by rfl, fun w' _ => (by go_simp; rfl)⟩) hS ?_
              go_frame
              refine till_take 12 (some 99) rfl rfl (by kernel_rfl) (by kernel_rfl) (by kernel_rfl) (by kernel_rfl) (by kernel_rfl) (by kernel_rfl) (fun _ _ _ h => h) (yields_load (by rfl) 24 _ rfl (.pointer (some ⟨X, 0, none⟩)) rfl (.agg #[.int .u64 ya, .int .u64 yb, .int .u64 yc, .int .u64 yd]) (fun w' hS' => load_heap (hS'.1) Try.underlying24 rfl Try.sizeU)) hS ?_
              go_frame
              refine till_take 13 (some 100) rfl rfl (by kernel_rfl) (by kernel_rfl) (by kernel_rfl) (by kernel_rfl) (by kernel_rfl) (by kernel_rfl) (fun _ _ _ h => h) (.inl ⟨by rfl, fun w' _ => (by go_simp; rfl)⟩) hS ?_
              go_frame
              refine till_take 14 (some 101) rfl rfl (by kernel_rfl) (by kernel_rfl) (by kernel_rfl) (by kernel_rfl) (by kernel_rfl) (by kernel_rfl) (fun _ _ _ h => h) (.inl ⟨by rfl, fun w' _ => (by go_simp; rfl)⟩) hS ?_
              go_frame
              refine till_take 15 (some 102) rfl rfl (by kernel_rfl) (by kernel_rfl) (by kernel_rfl) (by kernel_rfl) (by kernel_rfl) (by kernel_rfl) (fun _ _ _ h => h) (.inl ⟨by rfl, fun w' _ => (by go_simp; rfl)⟩) hS ?_
              go_frame
              refine till_take 16 (some 103) rfl rfl (by kernel_rfl) (by kernel_rfl) (by kernel_rfl) (by kernel_rfl) (by kernel_rfl) (by kernel_rfl) (fun _ _ _ h => h) (.inl ⟨by rfl, fun w' _ => (by go_simp; rfl)⟩) hS ?_
              go_frame
              refine till_take 17 (some 104) rfl rfl (by kernel_rfl) (by kernel_rfl) (by kernel_rfl) (by kernel_rfl) (by kernel_rfl) (by kernel_rfl) (fun _ _ _ h => h) (.inl ⟨by rfl, fun w' _ => (by go_simp; rfl)⟩) hS ?_
              go_frame
              refine till_take 18 (some 105) rfl rfl (by kernel_rfl) (by kernel_rfl) (by kernel_rfl) (by kernel_rfl) (by kernel_rfl) (by kernel_rfl) (fun _ _ _ h => h) (.inl ⟨by rfl, fun w' _ => (by go_simp; rfl)⟩) hS ?_
              go_frame
              refine till_take 19 (some 106) rfl rfl (by kernel_rfl) (by kernel_rfl) (by kernel_rfl) (by kernel_rfl) (by kernel_rfl) (by kernel_rfl) (fun _ _ _ h => h) (.inl ⟨by rfl, fun w' _ => (by go_simp; rfl)⟩) hS ?_
              go_frame
              refine till_take 20 (some 107) rfl rfl (by kernel_rfl) (by kernel_rfl) (by kernel_rfl) (by kernel_rfl) (by kernel_rfl) (by kernel_rfl) (fun _ _ _ h => h) (.inl ⟨by rfl, fun w' _ => (by go_simp; rfl)⟩) hS ?_
              go_frame
              refine till_done (by kernel_rfl) ?_ _
              clear hS
              clear e1 e2 hlt0 hlt1 j1 j2 j3
              go_wp2_with fail
              go_roundw
              case rel => exact ⟨4, by go_num, by omega, by omega, OI, Lib.hid (by
                have h9 := HM.out
                rw [HD.out.1, HD.out.2.1, ← HMX.out, HD.out.2.2] at h9
                exact h9)⟩
              case measure => simp [intOf]
          · clear ht1 ht4
            go_wp2_with fail
            go_roundw
            case rel => exact ⟨i + 1, s2, m2, by go_num, HJL.out, HK2, OI, HM⟩
            case measure => have := HJL.out; simp [intOf]; omega
    · go_wp2_with fail
      clear hlt
      obtain ⟨wz, hwz⟩ : ∃ w1, w1 = wr.alloc (.cells #[.slice none 0 0, .slice none 0 0] 52) := ⟨_, rfl⟩
      obtain ⟨h, hh⟩ : ∃ h, h = wr.heap.size := ⟨_, rfl⟩
      rw [← hwz, ← hh]
      have hb4 : Below wr.heap.size wr wz := by rw [hwz]; exact below_new _ _
      have hx4 : wz.heap[h]? = some (.cells #[.slice none 0 0, .slice none 0 0] 52 (0, 0)) := by rw [hwz, hh]; exact heap_alloc_new _ _
      have hrs : RS wz h PS.new (rfoot h (.slice none 0 0) (.slice none 0 0)) := ⟨_, _, ⟨hx4, LO.nil _ _ _ _, LO.nil _ _ _ _, List.Pairwise.nil⟩, rfl⟩
      have HRS := Lib.hid hrs
      clear hwz hh hx4 hrs
      have OIm := Lib.hid (OI.out.later hb4)
      clear hb4 OI
      have OI := OIm
      clear OIm
      have hk : ByteArray.mk #[120] = bs [120] := rfl
      refine (ramount_any HRS.out (by decide) Fit.new [120]).mono ?_
      rw [show amtV (getP PS.new.t) [120] = 0 from rfl]
      rintro e f1 ⟨ya, yb, yc, yd, hu, rfl, hb⟩
      have HYU := Lib.hid hu
      clear hu hk
      have OIm := Lib.hid (OI.out.later hb)
      clear hb OI
      have OI := OIm
      clear OIm
      have e1 := Try.eqUn HYU.out UIs.zero
      rw [decide_eq_true rfl] at e1
      go_wp2_with fail
      refine (lives17_any _).mono ?_
      rintro e f2 ⟨rfl, hb⟩
      have OIm := Lib.hid (OI.out.later hb)
      clear hb OI
      have OI := OIm
      clear OIm
      go_wp2_with fail
      go_ret
      exact ⟨rfl, OI.out.below⟩
end Go.Proofs.Yteaigmoldlbjdaa
