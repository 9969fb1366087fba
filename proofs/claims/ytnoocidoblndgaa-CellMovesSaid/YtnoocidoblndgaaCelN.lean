/- Chapter 10: CellMoves: the walk. No condition. -/
import Derived.Test.YtnoocidoblndgaaCelM
import Derived.Test.YtnoocidoblndgaaAriJ
namespace Go.Proofs.Ytnoocidoblndgaa
open Go.RowKit

/-- An amount's cells. -/
def uE (n : Nat) : List Value := [.int .u64 (uw0 n), .int .u64 (uw1 n), .int .u64 (uw2 n), .int .u64 (uw3 n)]
theorem uE_len (n : Nat) : (uE n).length = 4 := rfl
theorem uE_one (n : Nat) : ∀ u ∈ uE n, u.oneCell' = true := by
  intro u hu
  simp only [uE, List.mem_cons, List.not_mem_nil, or_false] at hu
  rcases hu with rfl | rfl | rfl | rfl <;> rfl
theorem Rd.u {w : World} {ad : Option Addr} {n cap : Nat} {t : List Nat} (h : Rd w uE 4 (.slice ad n cap) t) (i : Nat) (hi : i < t.length) :
    ∃ g off, ad = some ⟨g, off, none⟩ ∧ g < w.heap.size ∧ w.cell? ⟨g, off + i * 4, none⟩ = some (.int .u64 (uw0 t[i])) ∧ w.cell? ⟨g, off + i * 4 + 1, none⟩ = some (.int .u64 (uw1 t[i])) ∧ w.cell? ⟨g, off + i * 4 + 2, none⟩ = some (.int .u64 (uw2 t[i])) ∧ w.cell? ⟨g, off + i * 4 + 3, none⟩ = some (.int .u64 (uw3 t[i])) := by
  have hne : t ≠ [] := by rintro rfl; simp at hi
  obtain ⟨ax, cx, e3, _, _, h3⟩ := h
  obtain ⟨b, off, e4, hb, h5⟩ := h3 hne
  exact ⟨b, off, (Value.slice.inj e3).1.trans e4, hb, h5 i hi 0 (by decide), h5 i hi 1 (by decide), h5 i hi 2 (by decide), h5 i hi 3 (by decide)⟩
/-- A store beside the store. -/
theorem one_cells {w w' w0 : World} {g : Nat} {s : PS} {X : Nat} {cs : Array Value} {T : TypeId} (h : One w0 w g s) (hX : w.heap[X]? = some (.cells cs T (0, 0))) (hT : stoKind (.cells cs T (0, 0)) = false) (hk : Keep (· = X) w w') (hw : w0.heap.size ≤ X) : One w0 w' g s := by
  obtain ⟨F, h1, h2, h3⟩ := h
  refine ⟨F, h1.keep hk fun x hx e => ?_, h2, h3.trans (hk.below (B := w0.heap.size) (fun y hy e => by omega) h3.size)⟩
  obtain ⟨o, ho, hs⟩ := h1.kind x hx
  subst e
  rw [hX] at ho
  cases ho
  rw [hT] at hs
  cases hs
theorem fits {a m : Nat} (h1 : a < uMax - uHalf) (h2 : m < uHalf) : a + m < uMax := by unfold uMax uHalf at *; omega
theorem fits0 {a : Nat} (h1 : a < uMax - uHalf) : a < uMax := by unfold uMax uHalf at *; omega
/-- What a change of the store leaves: all blocks but its own. -/
def OthS (w w' : World) : Prop := w.heap.size ≤ w'.heap.size ∧ ∀ (R : Nat) (o : Obj), w.heap[R]? = some o → stoKind o = false → w'.heap[R]? = some o
theorem One.stS {P : Program} {f : FuncId} {args : Array Value} {w0 w : World} {g : Nat} {s1 s' : PS} {v : Value} (t : One w0 w g s1) (hc : ∀ F, St w g s1 F → Calls P f args w (StRet w g F s' v)) :
    Calls P f args w (fun e w' => e = .returned v ∧ One w0 w' g s' ∧ OthS w w') := by
  obtain ⟨F, h1, h3, h5⟩ := t
  refine (hc F h1).mono ?_
  rintro e w' ⟨he, F', q1, q2, q3⟩
  refine ⟨he, ⟨F', q1, fun x hx => ?_, h5.trans (q2.below (B := w0.heap.size) (fun q hq e => by have := h3 q e; omega) h5.size)⟩, q2.size, fun R o ho k1 => q2.at ho fun hR => ?_⟩
  · rcases q3 x hx with h | h
    · exact h3 x h
    · exact Nat.le_trans h5.size h
  · obtain ⟨o', ho', k2⟩ := h1.kind R hR
    rw [ho] at ho'; cases ho'
    rw [k1] at k2; cases k2
theorem LO.oths {w w' : World} {v : Value} {t : Tab} (h : LO w 105 pairE 2 v t) (ho : OthS w w') : LO w' 105 pairE 2 v t := by
  rcases h with h | ⟨g, cap, cur, rfl, hh, r⟩
  · exact .inl h
  · exact .inr ⟨g, cap, cur, rfl, ho.2 g _ hh rfl, r⟩
/-- Whether the two upper words are noughts. -/
theorem upper_words {m : Nat} (h : m < uMax) : (m < uHalf → uw2 m = 0 ∧ uw3 m = 0) ∧ (¬ m < uHalf → (bits BinOp.or IntKind.u64 (uw2 m) (uw3 m) == 0) = false ∧ (bits BinOp.or IntKind.u64 (uw2 m) (uw3 m) != 0) = true) := by
  obtain ⟨A, B, C, E, e0, e1, e2, e3, ha, hb, hc, he, hn⟩ := (uw_is h).nats
  rw [e2, e3]
  constructor
  · intro hm
    unfold uHalf at hm
    constructor <;> omega
  · intro hm
    have hne : ¬ (C ||| E = 0) := fun h0 => by
      have := (or_zero_iff C E).1 h0
      unfold uHalf at hm
      omega
    have h2 : bits BinOp.or IntKind.u64 (C : Int) (E : Int) = ((C ||| E : Nat) : Int) := u64_or_nat C E hc he
    have h3 : (bits BinOp.or IntKind.u64 (C : Int) (E : Int) == 0) = false := by
      rw [h2]
      simpa using hne
    exact ⟨h3, by rw [bne, h3]; rfl⟩

set_option maxHeartbeats 64000000 in
set_option maxRecDepth 100000 in
theorem moves_any {w : World} {v1 v2 : Value} {fs : List Nat} {l : List Act10} (h1 : Rd w uE 4 v1 fs) (hfs : ∀ m ∈ fs, m < uMax) (h2 : Rd w act10E 9 v2 l) (hgd : ∀ a ∈ l, Good10 w a) :
    Calls Try.prog 3 #[v1, v2] w (Ret w (.bool true)) := by
  obtain ⟨ad, cap, e1, c1, c1'⟩ := h1.shape
  obtain ⟨p, hp⟩ : ∃ p, p = fs.length := ⟨_, rfl⟩
  rw [← hp] at e1 c1
  subst e1
  obtain ⟨ad2, cap2, e2, c2, c2'⟩ := h2.shape
  obtain ⟨n, hn⟩ : ∃ n, n = l.length := ⟨_, rfl⟩
  rw [← hn] at e2 c2
  subst e2
  have H1 := Lib.hid h1; have HP := Lib.hid hp; have HFS := Lib.hid hfs; have H2 := Lib.hid h2; have HN := Lib.hid hn; have HGD := Lib.hid hgd
  clear h1 hp hfs h2 hn hgd
  by_cases hbig : 10 < p
  · go_enter Try.func3, Try.ntmps3
    go_wp2_with fail
    refine (lives10_any _).mono ?_
    rintro e w2 ⟨rfl, hb⟩
    have HB := Lib.hid hb
    clear hb
    go_wp2_with fail
    go_ret
    exact ⟨rfl, HB.out⟩
  have P10 : Hid (p ≤ 10) := Lib.hid (by omega)
  go_enter Try.func3, Try.ntmps3
  go_wp2_with fail
  refine (light10_any H2.out).mono ?_
  rintro e w1 ⟨r, rfl, hr, hb⟩
  cases r with
  | false =>
    have HB := Lib.hid hb
    clear hr hb
    go_wp2_with fail
    refine (lives10_any _).mono ?_
    rintro e w2 ⟨rfl, hb2⟩
    have HB2 := Lib.hid (HB.out.trans (hb2.mono HB.out.size))
    clear hb2
    go_wp2_with fail
    go_ret
    exact ⟨rfl, HB2.out⟩
  | true =>
  have HL := Lib.hid (hr rfl); have HB := Lib.hid hb
  clear hr hb
  go_wp2_with fail
  clear hbig
  refine (snew_any _).mono ?_
  rintro e w3 ⟨g, F, rfl, q1, hb3, q3⟩
  have OI : Hid (One w w3 g PS.new) := Lib.hid ⟨F, q1, fun x hx => Nat.le_trans HB.out.size (q3 x hx), HB.out.trans (hb3.mono HB.out.size)⟩
  clear q1 hb3 q3 HB
  go_wp2_with (refine wpList_alloc_g rfl _ rfl _ _ Try.zeroUz rfl ?_)
  intro SM a1 hSM
  have WSM : Hid (w.heap.size ≤ SM) := Lib.hid (by rw [hSM.out.eq]; exact (OI.out.below).size)
  have HSMz := Lib.hid hSM.out.cells; have hbSM := hSM.out.below
  clear hSM
  have OIm := Lib.hid (OI.out.later hbSM)
  clear hbSM OI
  have OI := OIm
  clear OIm
  have HSM := HSMz
  clear HSMz
  go_wp2_with (refine wpList_store_row_g (t := 30) (old := u0) rfl 30 _ _ rfl SM u0 rfl rfl HSM.out Try.sizeU rfl (one_u64 _ _ _ _) ?_)
  intro a2 hxSM kSM zSM
  clear zSM
  have OIm := Lib.hid (one_cells OI.out HSM.out rfl kSM WSM.out)
  have HSMm := Lib.hid hxSM
  clear hxSM kSM OI HSM
  have OI := OIm
  have HSM := HSMm
  clear OIm HSMm
  have SUM : Hid (∃ sa sb sc sd : Int, UIs sa sb sc sd 0 ∧ a2.heap[SM]? = some (.cells #[.int .u64 sa, .int .u64 sb, .int .u64 sc, .int .u64 sd] 30 (0, 0))) := Lib.hid ⟨0, 0, 0, 0, UIs.zero, HSM.out⟩
  clear HSM
  go_wp2_with fail
  go_loopw [28] (fun vi wr => ∃ (i acc : Nat) (s : PS), vi = .int .i64 i ∧ i ≤ p ∧ Hid (Fill s i acc) ∧ Hid (One w wr g s) ∧ Hid (∃ sa sb sc sd : Int, UIs sa sb sc sd acc ∧ wr.heap[SM]? = some (.cells #[.int .u64 sa, .int .u64 sb, .int .u64 sc, .int .u64 sd] 30 (0, 0)))) (fun vi _ => p - (intOf vi).toNat)
  case atStart => exact ⟨0, 0, _, rfl, Nat.zero_le _, Lib.hid Fill.new, OI, SUM⟩
  case round =>
    clear OI SUM
    obtain ⟨i, acc, s, rfl, hin, FI, OI, SUM⟩ := hrel
    obtain ⟨sa, sb, sc, sd, hsu, hsm⟩ := SUM.out
    have HSU := Lib.hid hsu; have HSM := Lib.hid hsm
    clear hsu hsm SUM
    by_cases hlt : i < p
    · have hi : i < fs.length := by rw [← HP.out]; exact hlt
      obtain ⟨gL, off, rfl, hgL, q0, q1, q2, q3⟩ := Rd.u H1.out i hi
      have hbw := OI.out.below
      have q0' := (hbw.cell (p := ⟨gL, off + i * 4, none⟩) hgL).trans q0
      have q1' := (hbw.cell (p := ⟨gL, off + i * 4 + 1, none⟩) hgL).trans q1
      have q2' := (hbw.cell (p := ⟨gL, off + i * 4 + 2, none⟩) hgL).trans q2
      have q3' := (hbw.cell (p := ⟨gL, off + i * 4 + 3, none⟩) hgL).trans q3
      have hmx : fs[i] < uMax := HFS.out _ (List.getElem_mem hi)
      obtain ⟨m, hm⟩ : ∃ m, m = fs[i] := ⟨_, rfl⟩
      rw [← hm] at q0' q1' q2' q3' hmx
      have HLT := Lib.hid hlt; have HU := Lib.hid (uw_is hmx); have HUP := Lib.hid (upper_words hmx)
      clear hm q0 q1 q2 q3 hgL hi hmx hbw
      go_wp2_with (refine wpList_alloc_g rfl _ rfl _ _ Try.zeroUz rfl ?_)
      intro V b1 hV
      have WV : Hid (w.heap.size ≤ V) := Lib.hid (by rw [hV.out.eq]; exact (OI.out.below).size)
      have NSMV : Hid (SM ≠ V) := Lib.hid (by have := hV.out.eq; have := heap_lt HSM.out; omega)
      have HVz := Lib.hid hV.out.cells; have hbV := hV.out.below
      clear hV
      have OIm := Lib.hid (OI.out.later hbV)
      have HSMm := Lib.hid (below_at' hbV HSM.out)
      clear hbV OI HSM
      have OI := OIm
      have HSM := HSMm
      clear OIm HSMm
      have HV := HVz
      clear HVz
      go_wp2_with (refine wpList_store_row_g (t := 30) (old := u0) rfl 30 _ _ rfl V #[.int .u64 (uw0 m), .int .u64 (uw1 m), .int .u64 (uw2 m), .int .u64 (uw3 m)] rfl rfl HV.out Try.sizeU rfl (one_u64 _ _ _ _) ?_)
      intro b2 hxV kV zV
      clear zV
      have OIm := Lib.hid (one_cells OI.out HV.out rfl kV WV.out)
      have HSMm := Lib.hid (kV.at HSM.out NSMV.out)
      have HVm := Lib.hid hxV
      clear hxV kV OI HSM HV
      have OI := OIm
      have HSM := HSMm
      have HV := HVm
      clear OIm HSMm HVm
      clear q0' q1' q2' q3'
      by_cases hm : m < uHalf
      · have c2 : b2.cell? ⟨V, 2, none⟩ = some (.int .u64 0) := by rw [← (HUP.out.1 hm).1]; exact Lib.cell_of_heap HV.out 2
        have c3 : b2.cell? ⟨V, 3, none⟩ = some (.int .u64 0) := by rw [← (HUP.out.1 hm).2]; exact Lib.cell_of_heap HV.out 3
        have HM := Lib.hid hm
        clear hm
        go_wp2_with fail
        clear c2 c3
        have HI10 : Hid (i < 10) := Lib.hid (by have := HLT.out; have := P10.out; omega)
        obtain ⟨b3, hwz⟩ : ∃ wz, wz = b2.drew := ⟨_, rfl⟩
        have hbz : Below b2.heap.size b2 b3 := by rw [hwz]; exact (Below.refl _ _).drew
        have OIm := Lib.hid (OI.out.later hbz)
        have HSMm := Lib.hid (below_at' hbz HSM.out)
        have HVm := Lib.hid (below_at' hbz HV.out)
        clear hbz OI HSM HV
        have OI := OIm
        have HSM := HSMm
        have HV := HVm
        clear OIm HSMm HVm
        have hS : b3.heap[V]? = some (.cells #[.int .u64 (uw0 m), .int .u64 (uw1 m), .int .u64 (uw2 m), .int .u64 (uw3 m)] 30 (0, 0)) := HV.out
        refine wp_region_till (fun w' => w'.heap[V]? = some (.cells #[.int .u64 (uw0 m), .int .u64 (uw1 m), .int .u64 (uw2 m), .int .u64 (uw3 m)] 30 (0, 0))) 5 5 (by kernel_rfl) rfl ?_
        rw [← hwz]
        clear hwz
        refine till_take 0 (some 40) rfl rfl (by kernel_rfl) (by kernel_rfl) (by kernel_rfl) (by kernel_rfl) (by kernel_rfl) (by kernel_rfl) (fun _ _ _ h => h) (.inl ⟨by rfl, fun w' _ => (by go_simp; rfl)⟩) hS ?_
        go_frame
        refine till_take 1 (some 41) rfl rfl (by kernel_rfl) (by kernel_rfl) (by kernel_rfl) (by kernel_rfl) (by kernel_rfl) (by kernel_rfl) (fun _ _ _ h => h) (.inl ⟨by rfl, fun w' _ => (by go_simp; rfl)⟩) hS ?_
        go_frame
        refine till_take 3 (some 43) rfl rfl (by kernel_rfl) (by kernel_rfl) (by kernel_rfl) (by kernel_rfl) (by kernel_rfl) (by kernel_rfl) (fun _ _ _ h => h) (yields_load (by rfl) 30 _ rfl (.pointer (some ⟨V, 0, none⟩)) rfl (.agg #[.int .u64 (uw0 m), .int .u64 (uw1 m), .int .u64 (uw2 m), .int .u64 (uw3 m)]) (fun w' hS' => load_heap (hS') Try.underlying30 rfl Try.sizeU)) hS ?_
        go_frame
        refine till_one 2 rfl (by kernel_rfl) fun K hK => ?_
        simp only [List.getElem_toArray, List.getElem_cons_succ, List.getElem_cons_zero]
        rw [if_pos (by rfl)]
        go_simp
        refine (ckey_any (i : Int) _).mono ?_
        rintro e b4 ⟨rfl, hb⟩
        have OIm := Lib.hid (OI.out.later hb)
        have HSMm := Lib.hid (below_at' hb HSM.out)
        have HVm := Lib.hid (below_at' hb HV.out)
        clear hb OI HSM HV
        have OI := OIm
        have HSM := HSMm
        have HV := HVm
        clear OIm HSMm HVm
        have hS2 : b4.heap[V]? = some (.cells #[.int .u64 (uw0 m), .int .u64 (uw1 m), .int .u64 (uw2 m), .int .u64 (uw3 m)] 30 (0, 0)) := HV.out
        refine hK _ _ (fun _ _ => hS2) ?_
        clear hK hS
        have hS := hS2
        clear hS2
        refine till_one 4 rfl (by kernel_rfl) fun K hK => ?_
        simp only [List.getElem_toArray, List.getElem_cons_succ, List.getElem_cons_zero]
        rw [if_pos (by rfl)]
        go_simp
        refine (OI.out.stS fun F hs => csetAmount_any hs (by have := FI.out.sz; have := HLT.out; have := P10.out; omega) (ckey (i : Int)) HU.out).mono ?_
        rintro e b5 ⟨rfl, o, hoth⟩
        have OIm := Lib.hid o
        have HSMm := Lib.hid (hoth.2 SM _ HSM.out rfl)
        have HVm := Lib.hid (hoth.2 V _ HV.out rfl)
        clear o hoth OI HSM HV
        have OI := OIm
        have HSM := HSMm
        have HV := HVm
        clear OIm HSMm HVm
        have hS2 : b5.heap[V]? = some (.cells #[.int .u64 (uw0 m), .int .u64 (uw1 m), .int .u64 (uw2 m), .int .u64 (uw3 m)] 30 (0, 0)) := HV.out
        refine hK _ _ (fun _ _ => hS2) ?_
        clear hK hS
        have hS := hS2
        clear hS2
        refine till_done (by kernel_rfl) ?_ _
        clear hS
        go_wp2_with (first
          | (refine wpList_load_row rfl 30 _ rfl SM rfl 30 _ _ _ HSM.out Try.underlying30 rfl Try.sizeU ?_)
          | (refine wpList_load_row rfl 30 _ rfl V rfl 30 _ _ _ HV.out Try.underlying30 rfl Try.sizeU ?_))
        refine (radd_any HSU.out HU.out _).mono ?_
        rw [decide_eq_true (fits FI.out.le HM.out)]
        rintro e b6 ⟨ta, tb, tc, td, hu, rfl, hb⟩
        have HU2 := Lib.hid hu
        clear hu
        have OIm := Lib.hid (OI.out.later hb)
        have HSMm := Lib.hid (below_at' hb HSM.out)
        have HVm := Lib.hid (below_at' hb HV.out)
        clear hb OI HSM HV
        have OI := OIm
        have HSM := HSMm
        have HV := HVm
        clear OIm HSMm HVm
        go_wp2_with (refine wpList_store_row_g (t := 30) (old := #[.int .u64 sa, .int .u64 sb, .int .u64 sc, .int .u64 sd]) rfl 30 _ _ rfl SM #[.int .u64 ta, .int .u64 tb, .int .u64 tc, .int .u64 td] rfl rfl HSM.out Try.sizeU rfl (one_u64 _ _ _ _) ?_)
        intro b7 hxSM kSM zSM
        clear zSM
        have OIm := Lib.hid (one_cells OI.out HSM.out rfl kSM WSM.out)
        have HVm := Lib.hid (kSM.at HV.out (fun e => NSMV.out e.symm))
        have HSMm := Lib.hid hxSM
        clear hxSM kSM OI HSM HV
        have OI := OIm
        have HSM := HSMm
        have HV := HVm
        clear OIm HSMm HVm
        go_wp2_with fail
        go_roundw
        case rel => exact ⟨i + 1, acc + m, _, by go_num, HLT.out, Lib.hid (FI.out.next HI10.out HM.out), OI, Lib.hid ⟨ta, tb, tc, td, HU2.out, HSM.out⟩⟩
        case measure => have := HLT.out; simp [intOf]; omega
      · have c2 : b2.cell? ⟨V, 2, none⟩ = some (.int .u64 (uw2 m)) := Lib.cell_of_heap HV.out 2
        have c3 : b2.cell? ⟨V, 3, none⟩ = some (.int .u64 (uw3 m)) := Lib.cell_of_heap HV.out 3
        have z1 := (HUP.out.2 hm).1
        have z2 := (HUP.out.2 hm).2
        clear hm
        go_wp2_with fail
        refine (lives10_any _).mono ?_
        rintro e wz ⟨rfl, hb⟩
        have HBF := Lib.hid (OI.out.below.trans (hb.mono OI.out.below.size))
        clear hb
        go_wp2_with fail
        go_ret
        exact ⟨rfl, HBF.out⟩
    · have HO : Hid (Hold s 0 acc) := Lib.hid (FI.out.hold (by have := P10.out; omega))
      clear hin
      have SUM : Hid (∃ sa sb sc sd : Int, UIs sa sb sc sd acc ∧ wr.heap[SM]? = some (.cells #[.int .u64 sa, .int .u64 sb, .int .u64 sc, .int .u64 sd] 30 (0, 0))) := Lib.hid ⟨sa, sb, sc, sd, HSU.out, HSM.out⟩
      clear HSM FI HSU
      obtain ⟨wL, hwL⟩ : ∃ x, x = wr := ⟨_, rfl⟩
      rw [← hwL] at OI SUM ⊢
      clear hwL wr
      go_wp2_with fail
      clear hlt
      go_loopw [54] (fun vi wr => ∃ (j : Nat) (s : PS), vi = .int .i64 j ∧ j ≤ n ∧ Hid (Hold s j acc) ∧ Hid (One w wr g s) ∧ Hid (∃ sa sb sc sd : Int, UIs sa sb sc sd acc ∧ wr.heap[SM]? = some (.cells #[.int .u64 sa, .int .u64 sb, .int .u64 sc, .int .u64 sd] 30 (0, 0)))) (fun vi _ => n - (intOf vi).toNat)
      case atStart => exact ⟨0, _, rfl, Nat.zero_le _, HO, OI, SUM⟩
      case round =>
        clear HO OI SUM
        obtain ⟨j, s, rfl, hjn, HO, OI, SUM⟩ := hrel
        obtain ⟨sa, sb, sc, sd, hsu, hsm⟩ := SUM.out
        have HSU := Lib.hid hsu; have HSM := Lib.hid hsm
        clear hsu hsm SUM
        by_cases hjlt : j < n
        · have hj : j < l.length := by rw [← HN.out]; exact hjlt
          obtain ⟨gL, off, rfl, hgL, q0, q1, q2, q3, q4, q5, q6, q7, q8⟩ := Rd.act10 H2.out j hj
          have hbw := OI.out.below
          have q0' := (hbw.cell (p := ⟨gL, off + j * 9, none⟩) hgL).trans q0
          have q1' := (hbw.cell (p := ⟨gL, off + j * 9 + 1, none⟩) hgL).trans q1
          have q2' := (hbw.cell (p := ⟨gL, off + j * 9 + 2, none⟩) hgL).trans q2
          have q3' := (hbw.cell (p := ⟨gL, off + j * 9 + 3, none⟩) hgL).trans q3
          have q4' := (hbw.cell (p := ⟨gL, off + j * 9 + 4, none⟩) hgL).trans q4
          have q5' := (hbw.cell (p := ⟨gL, off + j * 9 + 5, none⟩) hgL).trans q5
          have q6' := (hbw.cell (p := ⟨gL, off + j * 9 + 6, none⟩) hgL).trans q6
          have q7' := (hbw.cell (p := ⟨gL, off + j * 9 + 7, none⟩) hgL).trans q7
          have q8' := (hbw.cell (p := ⟨gL, off + j * 9 + 8, none⟩) hgL).trans q8
          have hmem : l[j] ∈ l := List.getElem_mem hj
          obtain ⟨a, ha⟩ : ∃ a, a = l[j] := ⟨_, rfl⟩
          rw [← ha] at hmem q0' q1' q2' q3' q4' q5' q6' q7' q8'
          have HJL := Lib.hid hjlt; have HGX := Lib.hid (HGD.out a hmem)
          have J200 : Hid (j < 200) := Lib.hid (by have h8 := HL.out.1; rw [← HN.out] at h8; omega)
          clear ha q0 q1 q2 q3 q4 q5 q6 q7 q8 hgL hj hmem hbw
          go_wp2_with (refine wpList_alloc_g rfl _ rfl _ _ Try.zeroAct10 rfl ?_)
          intro R d1 hR
          have WR : Hid (w.heap.size ≤ R) := Lib.hid (by rw [hR.out.eq]; exact (OI.out.below).size)
          have NSMR : Hid (SM ≠ R) := Lib.hid (by have := hR.out.eq; have := heap_lt HSM.out; omega)
          have HRz := Lib.hid hR.out.cells; have hbR := hR.out.below
          clear hR
          have OIm := Lib.hid (OI.out.later hbR)
          have HSMm := Lib.hid (below_at' hbR HSM.out)
          clear hbR OI HSM
          have OI := OIm
          have HSM := HSMm
          clear OIm HSMm
          have HR := HRz
          clear HRz
          go_wp2_with (refine wpList_store_row_g (t := 37) (old := #[.int .i64 0, .int .i64 0, .int .i64 0, .int .i64 0, .int .u64 0, .int .u64 0, .int .u64 0, .int .u64 0, .slice none 0 0]) rfl 37 _ _ rfl R #[.int .i64 a.kd, .int .i64 a.k, .int .i64 a.q, .int .i64 a.n, .int .u64 (uw0 a.m), .int .u64 (uw1 a.m), .int .u64 (uw2 a.m), .int .u64 (uw3 a.m), .slice a.ld a.l.length a.lc] rfl rfl HR.out Try.sizeAct10 rfl (by simp [Value.oneCell']) ?_)
          intro d2 hxR kR zR
          clear zR
          have OIm := Lib.hid (one_cells OI.out HR.out rfl kR WR.out)
          have HSMm := Lib.hid (kR.at HSM.out NSMR.out)
          have HRm := Lib.hid hxR
          clear hxR kR OI HSM HR
          have OI := OIm
          have HSM := HSMm
          have HR := HRm
          clear OIm HSMm HRm
          clear q0' q1' q2' q3' q4' q5' q6' q7' q8'
          have c1 : d2.cell? ⟨R, 1, none⟩ = some (.int .i64 a.k) := Lib.cell_of_heap HR.out 1
          have c2 : d2.cell? ⟨R, 2, none⟩ = some (.int .i64 a.q) := Lib.cell_of_heap HR.out 2
          by_cases k0 : a.k < 0
          · skip
            go_wp2_with fail
            go_roundw
            case rel => exact ⟨j + 1, s, by go_num, HJL.out, Lib.hid HO.out.skip, OI, Lib.hid ⟨sa, sb, sc, sd, HSU.out, HSM.out⟩⟩
            case measure => have := HJL.out; simp [intOf]; omega
          by_cases k9 : 9 < a.k
          · skip
            go_wp2_with fail
            go_roundw
            case rel => exact ⟨j + 1, s, by go_num, HJL.out, Lib.hid HO.out.skip, OI, Lib.hid ⟨sa, sb, sc, sd, HSU.out, HSM.out⟩⟩
            case measure => have := HJL.out; simp [intOf]; omega
          by_cases p0 : a.q < 0
          · skip
            go_wp2_with fail
            go_roundw
            case rel => exact ⟨j + 1, s, by go_num, HJL.out, Lib.hid HO.out.skip, OI, Lib.hid ⟨sa, sb, sc, sd, HSU.out, HSM.out⟩⟩
            case measure => have := HJL.out; simp [intOf]; omega
          by_cases p9 : 9 < a.q
          · skip
            go_wp2_with fail
            go_roundw
            case rel => exact ⟨j + 1, s, by go_num, HJL.out, Lib.hid HO.out.skip, OI, Lib.hid ⟨sa, sb, sc, sd, HSU.out, HSM.out⟩⟩
            case measure => have := HJL.out; simp [intOf]; omega
          have KQ : Hid ((0 ≤ a.k ∧ a.k ≤ 9) ∧ (0 ≤ a.q ∧ a.q ≤ 9)) := Lib.hid (by omega)
          go_wp2_with fail
          clear k0 k9 p0 p9 c1 c2
          obtain ⟨FQ, hst⟩ := OI.out.get
          refine (sall_any hst (by have h8 := HO.out.sz; unfold PS.sz at h8; have h9 := J200.out; omega)).mono ?_
          rintro e d3 ⟨vw, rfl, lw, hb, _⟩
          have HLW := Lib.hid lw
          clear lw hst
          have OIm := Lib.hid (OI.out.later hb)
          have HSMm := Lib.hid (below_at' hb HSM.out)
          have HRm := Lib.hid (below_at' hb HR.out)
          clear hb OI HSM HR
          have OI := OIm
          have HSM := HSMm
          have HR := HRm
          clear OIm HSMm HRm
          go_wp2_with fail
          obtain ⟨er, her⟩ : ∃ er, er = moveE (getP s.t) (ckey a.k) (ckey a.q) a.m := ⟨_, rfl⟩
          have HER := Lib.hid her
          have HO2 : Hid (Hold (s.moveA (ckey a.k) (ckey a.q) a.m) (j + 1) acc) := Lib.hid (HO.out.move KQ.out.1.1 KQ.out.1.2 KQ.out.2.1 KQ.out.2.2)
          have HSTAY : Hid (er ≠ 0 → s.moveA (ckey a.k) (ckey a.q) a.m = s) := Lib.hid (fun h => move_stay (by rw [← HER.out]; exact h))
          obtain ⟨s2, hs2⟩ : ∃ s2, s2 = s.moveA (ckey a.k) (ckey a.q) a.m := ⟨_, rfl⟩
          rw [← hs2] at HO2 HSTAY
          have HS2 := Lib.hid hs2
          clear her hs2
          obtain ⟨d4, hwz⟩ : ∃ wz, wz = d3.drew := ⟨_, rfl⟩
          have hbz : Below d3.heap.size d3 d4 := by rw [hwz]; exact (Below.refl _ _).drew
          have OIm := Lib.hid (OI.out.later hbz)
          have HSMm := Lib.hid (below_at' hbz HSM.out)
          have HRm := Lib.hid (below_at' hbz HR.out)
          have HLWm := Lib.hid (HLW.out.later hbz)
          clear hbz OI HSM HR HLW
          have OI := OIm
          have HSM := HSMm
          have HR := HRm
          have HLW := HLWm
          clear OIm HSMm HRm HLWm
          have hS : d4.heap[R]? = some (.cells #[.int .i64 a.kd, .int .i64 a.k, .int .i64 a.q, .int .i64 a.n, .int .u64 (uw0 a.m), .int .u64 (uw1 a.m), .int .u64 (uw2 a.m), .int .u64 (uw3 a.m), .slice a.ld a.l.length a.lc] 37 (0, 0)) := HR.out
          refine wp_region_till (fun w' => w'.heap[R]? = some (.cells #[.int .i64 a.kd, .int .i64 a.k, .int .i64 a.q, .int .i64 a.n, .int .u64 (uw0 a.m), .int .u64 (uw1 a.m), .int .u64 (uw2 a.m), .int .u64 (uw3 a.m), .slice a.ld a.l.length a.lc] 37 (0, 0))) 11 11 (by kernel_rfl) rfl ?_
          rw [← hwz]
          clear hwz
          refine till_take 0 (some 78) rfl rfl (by kernel_rfl) (by kernel_rfl) (by kernel_rfl) (by kernel_rfl) (by kernel_rfl) (by kernel_rfl) (fun _ _ _ h => h) (.inl ⟨by rfl, fun w' _ => (by go_simp; rfl)⟩) hS ?_
          go_frame
          refine till_take 1 (some 79) rfl rfl (by kernel_rfl) (by kernel_rfl) (by kernel_rfl) (by kernel_rfl) (by kernel_rfl) (by kernel_rfl) (fun _ _ _ h => h) (.inl ⟨by rfl, fun w' _ => (by go_simp; rfl)⟩) hS ?_
          go_frame
          refine till_take 2 (some 80) rfl rfl (by kernel_rfl) (by kernel_rfl) (by kernel_rfl) (by kernel_rfl) (by kernel_rfl) (by kernel_rfl) (fun _ _ _ h => h) (.inl ⟨by rfl, fun w' hS' => (by have hc : w'.cell? ⟨R, 1, none⟩ = some (.int .i64 a.k) := Lib.cell_of_heap (hS') 1; go_simp; rfl)⟩) hS ?_
          go_frame
          refine till_take 4 (some 82) rfl rfl (by kernel_rfl) (by kernel_rfl) (by kernel_rfl) (by kernel_rfl) (by kernel_rfl) (by kernel_rfl) (fun _ _ _ h => h) (.inl ⟨by rfl, fun w' _ => (by go_simp; rfl)⟩) hS ?_
          go_frame
          refine till_take 5 (some 83) rfl rfl (by kernel_rfl) (by kernel_rfl) (by kernel_rfl) (by kernel_rfl) (by kernel_rfl) (by kernel_rfl) (fun _ _ _ h => h) (.inl ⟨by rfl, fun w' hS' => (by have hc : w'.cell? ⟨R, 2, none⟩ = some (.int .i64 a.q) := Lib.cell_of_heap (hS') 2; go_simp; rfl)⟩) hS ?_
          go_frame
          refine till_take 7 (some 85) rfl rfl (by kernel_rfl) (by kernel_rfl) (by kernel_rfl) (by kernel_rfl) (by kernel_rfl) (by kernel_rfl) (fun _ _ _ h => h) (.inl ⟨by rfl, fun w' _ => (by go_simp; rfl)⟩) hS ?_
          go_frame
          refine till_take 8 (some 86) rfl rfl (by kernel_rfl) (by kernel_rfl) (by kernel_rfl) (by kernel_rfl) (by kernel_rfl) (by kernel_rfl) (fun _ _ _ h => h) (yields_load (by rfl) 30 _ rfl (.pointer (some ⟨R, 4, none⟩)) rfl (.agg #[.int .u64 (uw0 a.m), .int .u64 (uw1 a.m), .int .u64 (uw2 a.m), .int .u64 (uw3 a.m)]) (fun w' hS' => run_loadAt_mid w' R 4 30 [.int .u64 (uw0 a.m), .int .u64 (uw1 a.m), .int .u64 (uw2 a.m), .int .u64 (uw3 a.m)] _ (range_of_heap (hS') 4 _ rfl) Try.underlying30 rfl Try.sizeU)) hS ?_
          go_frame
          refine till_one 3 rfl (by kernel_rfl) fun K hK => ?_
          simp only [List.getElem_toArray, List.getElem_cons_succ, List.getElem_cons_zero]
          rw [if_pos (by rfl)]
          go_simp
          refine (ckey_any a.k _).mono ?_
          rintro e d5 ⟨rfl, hb⟩
          have OIm := Lib.hid (OI.out.later hb)
          have HSMm := Lib.hid (below_at' hb HSM.out)
          have HRm := Lib.hid (below_at' hb HR.out)
          have HLWm := Lib.hid (HLW.out.later hb)
          clear hb OI HSM HR HLW
          have OI := OIm
          have HSM := HSMm
          have HR := HRm
          have HLW := HLWm
          clear OIm HSMm HRm HLWm
          have hS2 : d5.heap[R]? = some (.cells #[.int .i64 a.kd, .int .i64 a.k, .int .i64 a.q, .int .i64 a.n, .int .u64 (uw0 a.m), .int .u64 (uw1 a.m), .int .u64 (uw2 a.m), .int .u64 (uw3 a.m), .slice a.ld a.l.length a.lc] 37 (0, 0)) := HR.out
          refine hK _ _ (fun _ _ => hS2) ?_
          clear hK hS
          have hS := hS2
          clear hS2
          refine till_one 6 rfl (by kernel_rfl) fun K hK => ?_
          simp only [List.getElem_toArray, List.getElem_cons_succ, List.getElem_cons_zero]
          rw [if_pos (by rfl)]
          go_simp
          refine (ckey_any a.q _).mono ?_
          rintro e d6 ⟨rfl, hb⟩
          have OIm := Lib.hid (OI.out.later hb)
          have HSMm := Lib.hid (below_at' hb HSM.out)
          have HRm := Lib.hid (below_at' hb HR.out)
          have HLWm := Lib.hid (HLW.out.later hb)
          clear hb OI HSM HR HLW
          have OI := OIm
          have HSM := HSMm
          have HR := HRm
          have HLW := HLWm
          clear OIm HSMm HRm HLWm
          have hS2 : d6.heap[R]? = some (.cells #[.int .i64 a.kd, .int .i64 a.k, .int .i64 a.q, .int .i64 a.n, .int .u64 (uw0 a.m), .int .u64 (uw1 a.m), .int .u64 (uw2 a.m), .int .u64 (uw3 a.m), .slice a.ld a.l.length a.lc] 37 (0, 0)) := HR.out
          refine hK _ _ (fun _ _ => hS2) ?_
          clear hK hS
          have hS := hS2
          clear hS2
          refine till_one 9 rfl (by kernel_rfl) fun K hK => ?_
          simp only [List.getElem_toArray, List.getElem_cons_succ, List.getElem_cons_zero]
          rw [if_pos (by rfl)]
          go_simp
          have KF := HGX.out.lt_m
          refine (OI.out.stS fun F hs => cmove_any hs (by have := HO.out.sz; have := J200.out; omega) HO.out.fit (ckey a.k) (ckey a.q) (uw_is HGX.out.lt_m)).mono ?_
          rw [← HER.out, ← HS2.out]
          rintro e d7 ⟨rfl, o, hoth⟩
          have OIm := Lib.hid o
          have HSMm := Lib.hid (hoth.2 SM _ HSM.out rfl)
          have HRm := Lib.hid (hoth.2 R _ HR.out rfl)
          have HLWm := Lib.hid (HLW.out.oths hoth)
          clear o hoth OI HSM HR HLW
          have OI := OIm
          have HSM := HSMm
          have HR := HRm
          have HLW := HLWm
          clear OIm HSMm HRm HLWm
          clear KF
          have hS2 : d7.heap[R]? = some (.cells #[.int .i64 a.kd, .int .i64 a.k, .int .i64 a.q, .int .i64 a.n, .int .u64 (uw0 a.m), .int .u64 (uw1 a.m), .int .u64 (uw2 a.m), .int .u64 (uw3 a.m), .slice a.ld a.l.length a.lc] 37 (0, 0)) := HR.out
          refine hK _ _ (fun _ _ => hS2) ?_
          clear hK hS
          have hS := hS2
          clear hS2
          refine till_take 10 (some 12) rfl rfl (by kernel_rfl) (by kernel_rfl) (by kernel_rfl) (by kernel_rfl) (by kernel_rfl) (by kernel_rfl) (fun _ _ _ h => h) (.inl ⟨by rfl, fun w' _ => (by go_simp; rfl)⟩) hS ?_
          go_frame
          refine till_done (by kernel_rfl) ?_ _
          clear hS
          clear HR HGX HER HS2 HO KQ
          by_cases he : er = 0
          · subst he
            clear HLW HSTAY
            go_wp2_with (refine wpList_alloc_g rfl _ rfl _ _ Try.zeroUz rfl ?_)
            intro NW d8 hNW
            have WNW : Hid (w.heap.size ≤ NW) := Lib.hid (by rw [hNW.out.eq]; exact (OI.out.below).size)
            have NSMNW : Hid (SM ≠ NW) := Lib.hid (by have := hNW.out.eq; have := heap_lt HSM.out; omega)
            have HNWz := Lib.hid hNW.out.cells; have hbNW := hNW.out.below
            clear hNW
            have OIm := Lib.hid (OI.out.later hbNW)
            have HSMm := Lib.hid (below_at' hbNW HSM.out)
            clear hbNW OI HSM
            have OI := OIm
            have HSM := HSMm
            clear OIm HSMm
            have HNW := HNWz
            clear HNWz
            go_wp2_with (refine wpList_store_row_g (t := 30) (old := u0) rfl 30 _ _ rfl NW u0 rfl rfl HNW.out Try.sizeU rfl (one_u64 _ _ _ _) ?_)
            intro d9 hxNW kNW zNW
            clear zNW
            have OIm := Lib.hid (one_cells OI.out HNW.out rfl kNW WNW.out)
            have HSMm := Lib.hid (kNW.at HSM.out NSMNW.out)
            have HNWm := Lib.hid hxNW
            clear hxNW kNW OI HSM HNW
            have OI := OIm
            have HSM := HSMm
            have HNW := HNWm
            clear OIm HSMm HNWm
            have NOW : Hid (∃ na nb nc nd : Int, UIs na nb nc nd (sumK (getP s2.t) 0) ∧ d9.heap[NW]? = some (.cells #[.int .u64 na, .int .u64 nb, .int .u64 nc, .int .u64 nd] 30 (0, 0))) := Lib.hid ⟨0, 0, 0, 0, UIs.zero, HNW.out⟩
            have SUM : Hid (d9.heap[SM]? = some (.cells #[.int .u64 sa, .int .u64 sb, .int .u64 sc, .int .u64 sd] 30 (0, 0))) := HSM
            clear HNW HSM
            go_wp2_with fail
            obtain ⟨wK, hwK⟩ : ∃ x, x = d9 := ⟨_, rfl⟩
            rw [← hwK] at OI SUM NOW ⊢
            clear hwK
            go_loopw [14] (fun vi wq => ∃ q : Nat, vi = .int .i64 q ∧ q ≤ 10 ∧ Hid (One w wq g s2) ∧ Hid (wq.heap[SM]? = some (.cells #[.int .u64 sa, .int .u64 sb, .int .u64 sc, .int .u64 sd] 30 (0, 0))) ∧ Hid (∃ na nb nc nd : Int, UIs na nb nc nd (sumK (getP s2.t) q) ∧ wq.heap[NW]? = some (.cells #[.int .u64 na, .int .u64 nb, .int .u64 nc, .int .u64 nd] 30 (0, 0)))) (fun vi _ => 10 - (intOf vi).toNat)
            case atStart => exact ⟨0, rfl, Nat.zero_le _, OI, SUM, NOW⟩
            case round =>
              clear OI SUM NOW
              obtain ⟨q, rfl, hq10, OI, HSM, NOW⟩ := hrel
              obtain ⟨na, nb, nc, nd, hnu, hnw⟩ := NOW.out
              have HNU := Lib.hid hnu; have HNW := Lib.hid hnw
              clear hnu hnw NOW
              by_cases hq : q < 10
              · have HQ := Lib.hid hq
                go_wp2_with fail
                clear hq
                obtain ⟨e1, hwz⟩ : ∃ wz, wz = wr.drew := ⟨_, rfl⟩
                have hbz : Below wr.heap.size wr e1 := by rw [hwz]; exact (Below.refl _ _).drew
                have OIm := Lib.hid (OI.out.later hbz)
                have HSMm := Lib.hid (below_at' hbz HSM.out)
                have HNWm := Lib.hid (below_at' hbz HNW.out)
                clear hbz OI HSM HNW
                have OI := OIm
                have HSM := HSMm
                have HNW := HNWm
                clear OIm HSMm HNWm
                have hS : e1.heap[NW]? = some (.cells #[.int .u64 na, .int .u64 nb, .int .u64 nc, .int .u64 nd] 30 (0, 0)) := HNW.out
                refine wp_region_till (fun w' => w'.heap[NW]? = some (.cells #[.int .u64 na, .int .u64 nb, .int .u64 nc, .int .u64 nd] 30 (0, 0))) 9 10 (by kernel_rfl) rfl ?_
                rw [← hwz]
                clear hwz
                refine till_take 0 (some 103) rfl rfl (by kernel_rfl) (by kernel_rfl) (by kernel_rfl) (by kernel_rfl) (by kernel_rfl) (by kernel_rfl) (fun _ _ _ h => h) (yields_load (by rfl) 30 _ rfl (.pointer (some ⟨NW, 0, none⟩)) rfl (.agg #[.int .u64 na, .int .u64 nb, .int .u64 nc, .int .u64 nd]) (fun w' hS' => load_heap (hS') Try.underlying30 rfl Try.sizeU)) hS ?_
                go_frame
                refine till_take 1 (some 104) rfl rfl (by kernel_rfl) (by kernel_rfl) (by kernel_rfl) (by kernel_rfl) (by kernel_rfl) (by kernel_rfl) (fun _ _ _ h => h) (.inl ⟨by rfl, fun w' _ => (by go_simp; rfl)⟩) hS ?_
                go_frame
                refine till_take 2 (some 105) rfl rfl (by kernel_rfl) (by kernel_rfl) (by kernel_rfl) (by kernel_rfl) (by kernel_rfl) (by kernel_rfl) (fun _ _ _ h => h) (.inl ⟨by rfl, fun w' _ => (by go_simp; rfl)⟩) hS ?_
                go_frame
                refine till_one 3 rfl (by kernel_rfl) fun K hK => ?_
                simp only [List.getElem_toArray, List.getElem_cons_succ, List.getElem_cons_zero]
                rw [if_pos (by rfl)]
                go_simp
                refine (ckey_any (q : Int) _).mono ?_
                rintro e e2 ⟨rfl, hb⟩
                have OIm := Lib.hid (OI.out.later hb)
                have HSMm := Lib.hid (below_at' hb HSM.out)
                have HNWm := Lib.hid (below_at' hb HNW.out)
                clear hb OI HSM HNW
                have OI := OIm
                have HSM := HSMm
                have HNW := HNWm
                clear OIm HSMm HNWm
                have hS2 : e2.heap[NW]? = some (.cells #[.int .u64 na, .int .u64 nb, .int .u64 nc, .int .u64 nd] 30 (0, 0)) := HNW.out
                refine hK _ _ (fun _ _ => hS2) ?_
                clear hK hS
                have hS := hS2
                clear hS2
                refine till_one 4 rfl (by kernel_rfl) fun K hK => ?_
                simp only [List.getElem_toArray, List.getElem_cons_succ, List.getElem_cons_zero]
                rw [if_pos (by rfl)]
                go_simp
                obtain ⟨Fq, hst⟩ := OI.out.get
                refine (camount_any (Look.of_st hst) HO2.out.fit.f (ckey (q : Int))).mono ?_
                rintro e e3 ⟨ya, yb, yc, yd, hu, rfl, hb⟩
                have HY := Lib.hid hu
                clear hu hst
                have OIm := Lib.hid (OI.out.later hb)
                have HSMm := Lib.hid (below_at' hb HSM.out)
                have HNWm := Lib.hid (below_at' hb HNW.out)
                clear hb OI HSM HNW
                have OI := OIm
                have HSM := HSMm
                have HNW := HNWm
                clear OIm HSMm HNWm
                have hS2 : e3.heap[NW]? = some (.cells #[.int .u64 na, .int .u64 nb, .int .u64 nc, .int .u64 nd] 30 (0, 0)) := HNW.out
                refine hK _ _ (fun _ _ => hS2) ?_
                clear hK hS
                have hS := hS2
                clear hS2
                refine till_one 5 rfl (by kernel_rfl) fun K hK => ?_
                simp only [List.getElem_toArray, List.getElem_cons_succ, List.getElem_cons_zero]
                rw [if_pos (by rfl)]
                go_simp
                have hle : sumK (getP s2.t) q + amtV (getP s2.t) (ckey (q : Int)) < uMax := fits0 (HO2.out.le (q + 1) (by have := HQ.out; omega))
                refine (radd_any HNU.out HY.out _).mono ?_
                rw [decide_eq_true hle]
                rintro e e4 ⟨ta, tb, tc, td, hu, rfl, hb⟩
                have HU2 := Lib.hid hu
                clear hu hle
                have OIm := Lib.hid (OI.out.later hb)
                have HSMm := Lib.hid (below_at' hb HSM.out)
                have HNWm := Lib.hid (below_at' hb HNW.out)
                clear hb OI HSM HNW
                have OI := OIm
                have HSM := HSMm
                have HNW := HNWm
                clear OIm HSMm HNWm
                have hS2 : e4.heap[NW]? = some (.cells #[.int .u64 na, .int .u64 nb, .int .u64 nc, .int .u64 nd] 30 (0, 0)) := HNW.out
                refine hK _ _ (fun _ _ => hS2) ?_
                clear hK hS
                have hS := hS2
                clear hS2
                refine till_take 6 (some 102) rfl rfl (by kernel_rfl) (by kernel_rfl) (by kernel_rfl) (by kernel_rfl) (by kernel_rfl) (by kernel_rfl) (fun _ _ _ h => h) (.inl ⟨by rfl, fun w' _ => (by go_simp; rfl)⟩) hS ?_
                go_frame
                refine till_take 7 (some 109) rfl rfl (by kernel_rfl) (by kernel_rfl) (by kernel_rfl) (by kernel_rfl) (by kernel_rfl) (by kernel_rfl) (fun _ _ _ h => h) (.inl ⟨by rfl, fun w' _ => (by go_simp; rfl)⟩) hS ?_
                go_frame
                refine till_two 8 9 rfl rfl (by kernel_rfl) (fun K hK => ?_) (fun K hK => ?_)
                · simp only [List.getElem_toArray, List.getElem_cons_succ, List.getElem_cons_zero]
                  rw [if_pos (by rfl)]
                  go_simp
                  refine hK _ _ (fun _ _ => hS) ?_
                  clear hK
                  refine till_one 9 rfl (by kernel_rfl) fun K hK => ?_
                  simp only [List.getElem_toArray, List.getElem_cons_succ, List.getElem_cons_zero]
                  rw [if_pos (by rfl)]
                  refine wp_store_row_g (t := 30) (old := #[.int .u64 na, .int .u64 nb, .int .u64 nc, .int .u64 nd]) 30 _ _ rfl NW #[.int .u64 ta, .int .u64 tb, .int .u64 tc, .int .u64 td] rfl rfl HNW.out Try.sizeU rfl (one_u64 _ _ _ _) ?_
                  intro e5 hxNW kNW zNW
                  clear zNW
                  have OIm := Lib.hid (one_cells OI.out HNW.out rfl kNW WNW.out)
                  have HSMm := Lib.hid (kNW.at HSM.out NSMNW.out)
                  have HNWm := Lib.hid hxNW
                  clear hxNW kNW OI HSM HNW
                  have OI := OIm
                  have HSM := HSMm
                  have HNW := HNWm
                  clear OIm HSMm HNWm
                  refine hK _ _ (fun h => absurd rfl h) ?_
                  clear hK
                  refine till_done (by kernel_rfl) ?_ _
                  clear hS
                  go_wp2_with fail
                  go_roundw
                  case rel => exact ⟨q + 1, by go_num, HQ.out, OI, HSM, Lib.hid ⟨ta, tb, tc, td, HU2.out, HNW.out⟩⟩
                  case measure => have := HQ.out; simp [intOf]; omega
                · simp only [List.getElem_toArray, List.getElem_cons_succ, List.getElem_cons_zero]
                  rw [if_pos (by rfl)]
                  refine wp_store_row_g (t := 30) (old := #[.int .u64 na, .int .u64 nb, .int .u64 nc, .int .u64 nd]) 30 _ _ rfl NW #[.int .u64 ta, .int .u64 tb, .int .u64 tc, .int .u64 td] rfl rfl HNW.out Try.sizeU rfl (one_u64 _ _ _ _) ?_
                  intro e5 hxNW kNW zNW
                  clear zNW
                  have OIm := Lib.hid (one_cells OI.out HNW.out rfl kNW WNW.out)
                  have HSMm := Lib.hid (kNW.at HSM.out NSMNW.out)
                  have HNWm := Lib.hid hxNW
                  clear hxNW kNW OI HSM HNW
                  have OI := OIm
                  have HSM := HSMm
                  have HNW := HNWm
                  clear OIm HSMm HNWm
                  refine hK _ _ (fun h => absurd rfl h) ?_
                  clear hK
                  refine till_one 8 rfl (by kernel_rfl) fun K hK => ?_
                  simp only [List.getElem_toArray, List.getElem_cons_succ, List.getElem_cons_zero]
                  rw [if_pos (by rfl)]
                  go_simp
                  refine hK _ _ (fun _ h => by cases h) ?_
                  clear hK
                  refine till_done (by kernel_rfl) ?_ _
                  clear hS
                  go_wp2_with fail
                  go_roundw
                  case rel => exact ⟨q + 1, by go_num, HQ.out, OI, HSM, Lib.hid ⟨ta, tb, tc, td, HU2.out, HNW.out⟩⟩
                  case measure => have := HQ.out; simp [intOf]; omega
              · obtain rfl : q = 10 := by omega
                have hqu := Try.eqUn HNU.out HSU.out
                rw [decide_eq_true HO2.out.sum] at hqu
                go_wp2_with (first
                  | (refine wpList_load_row rfl 30 _ rfl NW rfl 30 _ _ _ HNW.out Try.underlying30 rfl Try.sizeU ?_)
                  | (refine wpList_load_row rfl 30 _ rfl SM rfl 30 _ _ _ HSM.out Try.underlying30 rfl Try.sizeU ?_))
                go_roundw
                case rel => exact ⟨j + 1, s2, by go_num, HJL.out, HO2, OI, Lib.hid ⟨sa, sb, sc, sd, HSU.out, HSM.out⟩⟩
                case measure => have := HJL.out; simp [intOf]; omega
          · have hne : (er == 0) = false := by simpa using he
            have hne2 : (er != 0) = true := by simpa using he
            have hs2 : s2 = s := HSTAY.out he
            have HE2 := Lib.hid hs2
            clear hs2
            go_wp2_with fail
            obtain ⟨FQ, hst⟩ := OI.out.get
            have hsl : s2.t.length < 1099511627776 := by have h8 := HO2.out.sz; unfold PS.sz at h8; have h9 := J200.out; omega
            have HSL := Lib.hid hsl
            clear hsl
            refine (sall_any hst HSL.out).mono ?_
            rintro e d8 ⟨vx, rfl, lx, hb, _⟩
            have HLX := Lib.hid lx
            clear lx hst
            have OIm := Lib.hid (OI.out.later hb)
            have HSMm := Lib.hid (below_at' hb HSM.out)
            have HLWm := Lib.hid (HLW.out.later hb)
            clear hb OI HSM HLW
            have OI := OIm
            have HSM := HSMm
            have HLW := HLWm
            clear OIm HSMm HLWm
            go_wp2_with fail
            have hsm := rsame_any (HLX.out.rd pairE_len) (HLW.out.rd pairE_len) HSL.out (by rw [← HE2.out]; exact HSL.out)
            rw [decide_eq_true (by rw [HE2.out])] at hsm
            refine (hsm).mono ?_
            rintro e d9 ⟨rfl, hb⟩
            have OIm := Lib.hid (OI.out.later hb)
            have HSMm := Lib.hid (below_at' hb HSM.out)
            have HLWm := Lib.hid (HLW.out.later hb)
            have HLXm := Lib.hid (HLX.out.later hb)
            clear hb OI HSM HLW HLX
            have OI := OIm
            have HSM := HSMm
            have HLW := HLWm
            have HLX := HLXm
            clear OIm HSMm HLWm HLXm
            clear hsm HLX
            clear HLW HSTAY
            go_wp2_with (refine wpList_alloc_g rfl _ rfl _ _ Try.zeroUz rfl ?_)
            intro NW d10 hNW
            have WNW : Hid (w.heap.size ≤ NW) := Lib.hid (by rw [hNW.out.eq]; exact (OI.out.below).size)
            have NSMNW : Hid (SM ≠ NW) := Lib.hid (by have := hNW.out.eq; have := heap_lt HSM.out; omega)
            have HNWz := Lib.hid hNW.out.cells; have hbNW := hNW.out.below
            clear hNW
            have OIm := Lib.hid (OI.out.later hbNW)
            have HSMm := Lib.hid (below_at' hbNW HSM.out)
            clear hbNW OI HSM
            have OI := OIm
            have HSM := HSMm
            clear OIm HSMm
            have HNW := HNWz
            clear HNWz
            clear hne hne2 he
            go_wp2_with (refine wpList_store_row_g (t := 30) (old := u0) rfl 30 _ _ rfl NW u0 rfl rfl HNW.out Try.sizeU rfl (one_u64 _ _ _ _) ?_)
            intro d11 hxNW kNW zNW
            clear zNW
            have OIm := Lib.hid (one_cells OI.out HNW.out rfl kNW WNW.out)
            have HSMm := Lib.hid (kNW.at HSM.out NSMNW.out)
            have HNWm := Lib.hid hxNW
            clear hxNW kNW OI HSM HNW
            have OI := OIm
            have HSM := HSMm
            have HNW := HNWm
            clear OIm HSMm HNWm
            have NOW : Hid (∃ na nb nc nd : Int, UIs na nb nc nd (sumK (getP s2.t) 0) ∧ d11.heap[NW]? = some (.cells #[.int .u64 na, .int .u64 nb, .int .u64 nc, .int .u64 nd] 30 (0, 0))) := Lib.hid ⟨0, 0, 0, 0, UIs.zero, HNW.out⟩
            have SUM : Hid (d11.heap[SM]? = some (.cells #[.int .u64 sa, .int .u64 sb, .int .u64 sc, .int .u64 sd] 30 (0, 0))) := HSM
            clear HNW HSM
            go_wp2_with fail
            obtain ⟨wK, hwK⟩ : ∃ x, x = d11 := ⟨_, rfl⟩
            rw [← hwK] at OI SUM NOW ⊢
            clear hwK
            go_loopw [14] (fun vi wq => ∃ q : Nat, vi = .int .i64 q ∧ q ≤ 10 ∧ Hid (One w wq g s2) ∧ Hid (wq.heap[SM]? = some (.cells #[.int .u64 sa, .int .u64 sb, .int .u64 sc, .int .u64 sd] 30 (0, 0))) ∧ Hid (∃ na nb nc nd : Int, UIs na nb nc nd (sumK (getP s2.t) q) ∧ wq.heap[NW]? = some (.cells #[.int .u64 na, .int .u64 nb, .int .u64 nc, .int .u64 nd] 30 (0, 0)))) (fun vi _ => 10 - (intOf vi).toNat)
            case atStart => exact ⟨0, rfl, Nat.zero_le _, OI, SUM, NOW⟩
            case round =>
              clear OI SUM NOW
              obtain ⟨q, rfl, hq10, OI, HSM, NOW⟩ := hrel
              obtain ⟨na, nb, nc, nd, hnu, hnw⟩ := NOW.out
              have HNU := Lib.hid hnu; have HNW := Lib.hid hnw
              clear hnu hnw NOW
              by_cases hq : q < 10
              · have HQ := Lib.hid hq
                go_wp2_with fail
                clear hq
                obtain ⟨e1, hwz⟩ : ∃ wz, wz = wr.drew := ⟨_, rfl⟩
                have hbz : Below wr.heap.size wr e1 := by rw [hwz]; exact (Below.refl _ _).drew
                have OIm := Lib.hid (OI.out.later hbz)
                have HSMm := Lib.hid (below_at' hbz HSM.out)
                have HNWm := Lib.hid (below_at' hbz HNW.out)
                clear hbz OI HSM HNW
                have OI := OIm
                have HSM := HSMm
                have HNW := HNWm
                clear OIm HSMm HNWm
                have hS : e1.heap[NW]? = some (.cells #[.int .u64 na, .int .u64 nb, .int .u64 nc, .int .u64 nd] 30 (0, 0)) := HNW.out
                refine wp_region_till (fun w' => w'.heap[NW]? = some (.cells #[.int .u64 na, .int .u64 nb, .int .u64 nc, .int .u64 nd] 30 (0, 0))) 9 10 (by kernel_rfl) rfl ?_
                rw [← hwz]
                clear hwz
                refine till_take 0 (some 103) rfl rfl (by kernel_rfl) (by kernel_rfl) (by kernel_rfl) (by kernel_rfl) (by kernel_rfl) (by kernel_rfl) (fun _ _ _ h => h) (yields_load (by rfl) 30 _ rfl (.pointer (some ⟨NW, 0, none⟩)) rfl (.agg #[.int .u64 na, .int .u64 nb, .int .u64 nc, .int .u64 nd]) (fun w' hS' => load_heap (hS') Try.underlying30 rfl Try.sizeU)) hS ?_
                go_frame
                refine till_take 1 (some 104) rfl rfl (by kernel_rfl) (by kernel_rfl) (by kernel_rfl) (by kernel_rfl) (by kernel_rfl) (by kernel_rfl) (fun _ _ _ h => h) (.inl ⟨by rfl, fun w' _ => (by go_simp; rfl)⟩) hS ?_
                go_frame
                refine till_take 2 (some 105) rfl rfl (by kernel_rfl) (by kernel_rfl) (by kernel_rfl) (by kernel_rfl) (by kernel_rfl) (by kernel_rfl) (fun _ _ _ h => h) (.inl ⟨by rfl, fun w' _ => (by go_simp; rfl)⟩) hS ?_
                go_frame
                refine till_one 3 rfl (by kernel_rfl) fun K hK => ?_
                simp only [List.getElem_toArray, List.getElem_cons_succ, List.getElem_cons_zero]
                rw [if_pos (by rfl)]
                go_simp
                refine (ckey_any (q : Int) _).mono ?_
                rintro e e2 ⟨rfl, hb⟩
                have OIm := Lib.hid (OI.out.later hb)
                have HSMm := Lib.hid (below_at' hb HSM.out)
                have HNWm := Lib.hid (below_at' hb HNW.out)
                clear hb OI HSM HNW
                have OI := OIm
                have HSM := HSMm
                have HNW := HNWm
                clear OIm HSMm HNWm
                have hS2 : e2.heap[NW]? = some (.cells #[.int .u64 na, .int .u64 nb, .int .u64 nc, .int .u64 nd] 30 (0, 0)) := HNW.out
                refine hK _ _ (fun _ _ => hS2) ?_
                clear hK hS
                have hS := hS2
                clear hS2
                refine till_one 4 rfl (by kernel_rfl) fun K hK => ?_
                simp only [List.getElem_toArray, List.getElem_cons_succ, List.getElem_cons_zero]
                rw [if_pos (by rfl)]
                go_simp
                obtain ⟨Fq, hst⟩ := OI.out.get
                refine (camount_any (Look.of_st hst) HO2.out.fit.f (ckey (q : Int))).mono ?_
                rintro e e3 ⟨ya, yb, yc, yd, hu, rfl, hb⟩
                have HY := Lib.hid hu
                clear hu hst
                have OIm := Lib.hid (OI.out.later hb)
                have HSMm := Lib.hid (below_at' hb HSM.out)
                have HNWm := Lib.hid (below_at' hb HNW.out)
                clear hb OI HSM HNW
                have OI := OIm
                have HSM := HSMm
                have HNW := HNWm
                clear OIm HSMm HNWm
                have hS2 : e3.heap[NW]? = some (.cells #[.int .u64 na, .int .u64 nb, .int .u64 nc, .int .u64 nd] 30 (0, 0)) := HNW.out
                refine hK _ _ (fun _ _ => hS2) ?_
                clear hK hS
                have hS := hS2
                clear hS2
                refine till_one 5 rfl (by kernel_rfl) fun K hK => ?_
                simp only [List.getElem_toArray, List.getElem_cons_succ, List.getElem_cons_zero]
                rw [if_pos (by rfl)]
                go_simp
                have hle : sumK (getP s2.t) q + amtV (getP s2.t) (ckey (q : Int)) < uMax := fits0 (HO2.out.le (q + 1) (by have := HQ.out; omega))
                refine (radd_any HNU.out HY.out _).mono ?_
                rw [decide_eq_true hle]
                rintro e e4 ⟨ta, tb, tc, td, hu, rfl, hb⟩
                have HU2 := Lib.hid hu
                clear hu hle
                have OIm := Lib.hid (OI.out.later hb)
                have HSMm := Lib.hid (below_at' hb HSM.out)
                have HNWm := Lib.hid (below_at' hb HNW.out)
                clear hb OI HSM HNW
                have OI := OIm
                have HSM := HSMm
                have HNW := HNWm
                clear OIm HSMm HNWm
                have hS2 : e4.heap[NW]? = some (.cells #[.int .u64 na, .int .u64 nb, .int .u64 nc, .int .u64 nd] 30 (0, 0)) := HNW.out
                refine hK _ _ (fun _ _ => hS2) ?_
                clear hK hS
                have hS := hS2
                clear hS2
                refine till_take 6 (some 102) rfl rfl (by kernel_rfl) (by kernel_rfl) (by kernel_rfl) (by kernel_rfl) (by kernel_rfl) (by kernel_rfl) (fun _ _ _ h => h) (.inl ⟨by rfl, fun w' _ => (by go_simp; rfl)⟩) hS ?_
                go_frame
                refine till_take 7 (some 109) rfl rfl (by kernel_rfl) (by kernel_rfl) (by kernel_rfl) (by kernel_rfl) (by kernel_rfl) (by kernel_rfl) (fun _ _ _ h => h) (.inl ⟨by rfl, fun w' _ => (by go_simp; rfl)⟩) hS ?_
                go_frame
                refine till_two 8 9 rfl rfl (by kernel_rfl) (fun K hK => ?_) (fun K hK => ?_)
                · simp only [List.getElem_toArray, List.getElem_cons_succ, List.getElem_cons_zero]
                  rw [if_pos (by rfl)]
                  go_simp
                  refine hK _ _ (fun _ _ => hS) ?_
                  clear hK
                  refine till_one 9 rfl (by kernel_rfl) fun K hK => ?_
                  simp only [List.getElem_toArray, List.getElem_cons_succ, List.getElem_cons_zero]
                  rw [if_pos (by rfl)]
                  refine wp_store_row_g (t := 30) (old := #[.int .u64 na, .int .u64 nb, .int .u64 nc, .int .u64 nd]) 30 _ _ rfl NW #[.int .u64 ta, .int .u64 tb, .int .u64 tc, .int .u64 td] rfl rfl HNW.out Try.sizeU rfl (one_u64 _ _ _ _) ?_
                  intro e5 hxNW kNW zNW
                  clear zNW
                  have OIm := Lib.hid (one_cells OI.out HNW.out rfl kNW WNW.out)
                  have HSMm := Lib.hid (kNW.at HSM.out NSMNW.out)
                  have HNWm := Lib.hid hxNW
                  clear hxNW kNW OI HSM HNW
                  have OI := OIm
                  have HSM := HSMm
                  have HNW := HNWm
                  clear OIm HSMm HNWm
                  refine hK _ _ (fun h => absurd rfl h) ?_
                  clear hK
                  refine till_done (by kernel_rfl) ?_ _
                  clear hS
                  go_wp2_with fail
                  go_roundw
                  case rel => exact ⟨q + 1, by go_num, HQ.out, OI, HSM, Lib.hid ⟨ta, tb, tc, td, HU2.out, HNW.out⟩⟩
                  case measure => have := HQ.out; simp [intOf]; omega
                · simp only [List.getElem_toArray, List.getElem_cons_succ, List.getElem_cons_zero]
                  rw [if_pos (by rfl)]
                  refine wp_store_row_g (t := 30) (old := #[.int .u64 na, .int .u64 nb, .int .u64 nc, .int .u64 nd]) 30 _ _ rfl NW #[.int .u64 ta, .int .u64 tb, .int .u64 tc, .int .u64 td] rfl rfl HNW.out Try.sizeU rfl (one_u64 _ _ _ _) ?_
                  intro e5 hxNW kNW zNW
                  clear zNW
                  have OIm := Lib.hid (one_cells OI.out HNW.out rfl kNW WNW.out)
                  have HSMm := Lib.hid (kNW.at HSM.out NSMNW.out)
                  have HNWm := Lib.hid hxNW
                  clear hxNW kNW OI HSM HNW
                  have OI := OIm
                  have HSM := HSMm
                  have HNW := HNWm
                  clear OIm HSMm HNWm
                  refine hK _ _ (fun h => absurd rfl h) ?_
                  clear hK
                  refine till_one 8 rfl (by kernel_rfl) fun K hK => ?_
                  simp only [List.getElem_toArray, List.getElem_cons_succ, List.getElem_cons_zero]
                  rw [if_pos (by rfl)]
                  go_simp
                  refine hK _ _ (fun _ h => by cases h) ?_
                  clear hK
                  refine till_done (by kernel_rfl) ?_ _
                  clear hS
                  go_wp2_with fail
                  go_roundw
                  case rel => exact ⟨q + 1, by go_num, HQ.out, OI, HSM, Lib.hid ⟨ta, tb, tc, td, HU2.out, HNW.out⟩⟩
                  case measure => have := HQ.out; simp [intOf]; omega
              · obtain rfl : q = 10 := by omega
                have hqu := Try.eqUn HNU.out HSU.out
                rw [decide_eq_true HO2.out.sum] at hqu
                go_wp2_with (first
                  | (refine wpList_load_row rfl 30 _ rfl NW rfl 30 _ _ _ HNW.out Try.underlying30 rfl Try.sizeU ?_)
                  | (refine wpList_load_row rfl 30 _ rfl SM rfl 30 _ _ _ HSM.out Try.underlying30 rfl Try.sizeU ?_))
                go_roundw
                case rel => exact ⟨j + 1, s2, by go_num, HJL.out, HO2, OI, Lib.hid ⟨sa, sb, sc, sd, HSU.out, HSM.out⟩⟩
                case measure => have := HJL.out; simp [intOf]; omega
        · clear hjn
          go_wp2_with fail
          refine (lives10_any _).mono ?_
          rintro e wz ⟨rfl, hb⟩
          have HBF := Lib.hid (OI.out.below.trans (hb.mono OI.out.below.size))
          clear hb
          go_wp2_with fail
          go_ret
          exact ⟨rfl, HBF.out⟩
end Go.Proofs.Ytnoocidoblndgaa
