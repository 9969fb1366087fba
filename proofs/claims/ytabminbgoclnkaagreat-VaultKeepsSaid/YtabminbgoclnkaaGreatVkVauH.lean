/- Law 19: VaultKeeps. No condition. -/
import Derived.Test.YtabminbgoclnkaaGreatVk15
import Derived.Deep.Cut
import Derived.Deep.CutRange
namespace Go.Proofs.YtabminbgoclnkaaGreat
set_option maxHeartbeats 16000000
set_option maxRecDepth 100000
open Go.RowKit

def Ows (V : Value) (LT : Tab) (w0 w : World) (g : Nat) (s : PS) : Prop := ∃ F, St w g s F ∧ (∀ x ∈ F, w0.heap.size ≤ x) ∧ Below w0.heap.size w0 w ∧ LO w 106 pairE 2 V LT ∧ ∀ k, V.ownBlock = some k → k < w.heap.size ∧ k ∉ F
theorem Ows.one {V : Value} {LT : Tab} {w0 w : World} {g : Nat} {s : PS} (t : Ows V LT w0 w g s) : One w0 w g s := by
 obtain ⟨F, h1, h3, h5, _⟩ := t; exact ⟨F, h1, h3, h5⟩
theorem Ows.was {V : Value} {LT : Tab} {w0 w : World} {g : Nat} {s : PS} (t : Ows V LT w0 w g s) : LO w 106 pairE 2 V LT := by
 obtain ⟨F, h1, h3, h5, h6, _⟩ := t; exact h6
theorem Ows.below {V : Value} {LT : Tab} {w0 w : World} {g : Nat} {s : PS} (t : Ows V LT w0 w g s) : Below w0.heap.size w0 w := t.one.below
theorem Ows.later {V : Value} {LT : Tab} {w0 w w' : World} {g : Nat} {s : PS} (t : Ows V LT w0 w g s) (hk : Below w.heap.size w w') : Ows V LT w0 w' g s := by
 obtain ⟨F, h1, h3, h5, h6, h7⟩ := t
 exact ⟨F, h1.later hk, h3, h5.trans (hk.mono h5.size), h6.later hk, fun k hv => ⟨Nat.lt_of_lt_of_le (h7 k hv).1 hk.size, (h7 k hv).2⟩⟩
theorem Ows.st {V : Value} {LT : Tab} {P : Program} {f : FuncId} {args : Array Value} {w0 w : World} {g : Nat} {s s' : PS} {v : Value} (t : Ows V LT w0 w g s) (hc : ∀ F, St w g s F → Calls P f args w (StRet w g F s' v)) :
  Calls P f args w (fun e w' => e = .returned v ∧ Ows V LT w0 w' g s' ∧ Oth w w') := by
 obtain ⟨F, h1, h3, h5, h6, h7⟩ := t; refine (hc F h1).mono ?_; rintro e w' ⟨he, F', q1, q2, q3⟩; refine ⟨he, ⟨F', q1, fun x hx => ?_, h5.trans (q2.below (B := w0.heap.size) (fun q hq e => by have := h3 q e; omega) h5.size), h6.keep q2 (fun k hv => (h7 k hv).2), fun k hv => ⟨Nat.lt_of_lt_of_le (h7 k hv).1 q2.size, fun hx => ?_⟩⟩, Oth.of_st h1 q2⟩
 ·rcases q3 x hx with h | h
  ·exact h3 x h
  ·exact Nat.le_trans h5.size h
 ·rcases q3 k hx with h | h
  ·exact (h7 k hv).2 h
  ·have := (h7 k hv).1; omega
theorem One.ows {V : Value} {LT : Tab} {w0 w w' : World} {g : Nat} {s : PS} (t : One w0 w g s) (hk : Below w.heap.size w w') (hl : LO w' 106 pairE 2 V LT) (hn : ∀ k, V.ownBlock = some k → w.heap.size ≤ k) : Ows V LT w0 w' g s := by
 obtain ⟨F, h1, h3, h5⟩ := t; refine ⟨F, h1.later hk, h3, h5.trans (hk.mono h5.size), hl, fun k hv => ⟨?_, fun hx => ?_⟩⟩
 ·obtain ⟨cs, hc⟩ := hl.kind hv
  exact heap_lt hc
 ·obtain ⟨o, ho, _⟩ := h1.kind k hx; have := heap_lt ho; have := hn k hv; omega
theorem ows_cells {V : Value} {LT : Tab} {w w' w0 : World} {g : Nat} {s : PS} {X : Nat} {cs : Array Value} {T : TypeId} (h : Ows V LT w0 w g s) (hX : w.heap[X]? = some (.cells cs T (0, 0))) (hT : stoKind (.cells cs T (0, 0)) = false) (hP : 106 ≠ T) (hk : Keep (· = X) w w') (hw : w0.heap.size ≤ X) : Ows V LT w0 w' g s := by
 obtain ⟨F, h1, h3, h5, h6, h7⟩ := h; refine ⟨F, h1.keep hk fun x hx e => ?_, h3, h5.trans (hk.below (B := w0.heap.size) (fun y hy e => by omega) h5.size), h6.keep hk (fun k hv e => h6.apart hX hP (e ▸ hv)), fun k hv => ⟨Nat.lt_of_lt_of_le (h7 k hv).1 hk.size, (h7 k hv).2⟩⟩; obtain ⟨o, ho, hs⟩ := h1.kind x hx; subst e; rw [hX] at ho
 cases ho
 rw [hT] at hs
 cases hs
theorem U_zero : #[Value.int .u64 (uw0 0), .int .u64 (uw1 0), .int .u64 (uw2 0), .int .u64 (uw3 0)] = u0 := by kernel_rfl

theorem keeps19_any {w : World} {v : Value} {l : List Act19} (h1 : Rd w act19E 9 v l) (hgd : ∀ a ∈ l, Good19 w a) :
  Calls Tryz.prog 5 #[v] w (Ret w (.bool true)) := by
 obtain ⟨ad, cap, e1, c1, c1'⟩ := h1.shape; obtain ⟨n, hn⟩ := nm (l.length); rw [← hn] at e1 c1; subst e1; have H1 := hh h1; have HN := hh hn; have HGD := hh hgd; clear h1 hn hgd
 by_cases hbig : 80 < n
 ·go_enter Tryz.func5, Tryz.ntmps5
  go_wp2_with fail; refine (lives19_any _).mono ?_; rintro e w2 ⟨rfl, hb⟩; have HB := hh hb; clear hb; go_wp2_with fail
  go_ret
  exact ⟨rfl, HB.out⟩
 have P80 : Hid (n ≤ 80) := hh (by omega)
 go_enter Tryz.func5, Tryz.ntmps5
 go_wp2_with fail; clear hbig; refine (snew_any _).mono ?_; rintro e w3 ⟨g, F, rfl, q1, hb3, q3⟩; have OI : Hid (One w w3 g PS.new) := hh ⟨F, q1, q3, hb3⟩; clear q1 hb3 q3
 go_wp2_with (refine sA _ Tryz.zeroUz ?_)
 intro M b1 hM; have WM := mGe hM OI.out.below.size; have HM := hh hM.out.cells; have hbM := hM.out.below; clear hM; replace OI := hh (OI.out.later hbM); clear hbM
 go_wp2_with (refine wpList_store_row_g (t := 25) (old := u0) rfl 25 _ _ rfl M u0 rfl rfl HM.out Tryz.sizeU rfl (one_u64 _ _ _ _) ?_)
 intro b2 hxM kM zM; clear zM; replace OI := hh (one_cells OI.out HM.out rfl kM WM.out); replace HM := hh hxM; clear hxM kM; go_wp2_with fail
 go_loopw [20] (fun vi wr => ∃ (i : Nat) (s : PS) (m : Nat), vi = .int .i64 i ∧ i ≤ n ∧ Hid (Kv s m i) ∧ Hid (One w wr g s) ∧ Hid (wr.heap[M]? = some (.cells #[.int .u64 (uw0 m), .int .u64 (uw1 m), .int .u64 (uw2 m), .int .u64 (uw3 m)] 25 (0, 0)))) (fun vi _ => n - (intOf vi).toNat)
 case atStart => exact ⟨0, _, 0, rfl, Nat.zero_le _, hh Kv.new, OI, hh (by rw [U_zero]; exact HM.out)⟩
 case round =>
  clear OI HM; obtain ⟨i, s, m, rfl, hin, HK, OI, HM⟩ := hrel
  by_cases hlt : i < n
  ·have hj : i < l.length := by rw [← HN.out]; exact hlt
   obtain ⟨gL, off, rfl, hgL, q0, q1, q2, q3, q4, q5, q6, q7, q8⟩ := Rd.act19 H1.out i hj; have hbw := OI.out.below; have q0' := (hbw.cell (p := ⟨gL, off + i * 9, none⟩) hgL).trans q0; have q1' := (hbw.cell (p := ⟨gL, off + i * 9 + 1, none⟩) hgL).trans q1; have q2' := (hbw.cell (p := ⟨gL, off + i * 9 + 2, none⟩) hgL).trans q2; have q3' := (hbw.cell (p := ⟨gL, off + i * 9 + 3, none⟩) hgL).trans q3; have q4' := (hbw.cell (p := ⟨gL, off + i * 9 + 4, none⟩) hgL).trans q4; have q5' := (hbw.cell (p := ⟨gL, off + i * 9 + 5, none⟩) hgL).trans q5; have q6' := (hbw.cell (p := ⟨gL, off + i * 9 + 6, none⟩) hgL).trans q6; have q7' := (hbw.cell (p := ⟨gL, off + i * 9 + 7, none⟩) hgL).trans q7; have q8' := (hbw.cell (p := ⟨gL, off + i * 9 + 8, none⟩) hgL).trans q8; have hmem : l[i] ∈ l := List.getElem_mem hj; obtain ⟨a, ha⟩ := nm (l[i]); rw [← ha] at hmem q0' q1' q2' q3' q4' q5' q6' q7' q8'; have HJL := hh hlt; have HGX := hh (HGD.out a hmem); have HSZ : Hid (s.sz < 1000) := hh (by have h8 := HK.out.sz; have h9 := P80.out; omega); clear ha q0 q1 q2 q3 q4 q5 q6 q7 q8 hgL hj hmem hbw hin
   go_wp2_with (refine sA _ Tryz.zeroAct19 ?_)
   intro R d1 hR; have WR := mGe hR OI.out.below.size; have NMR := mNe hR HM; have HR := hh hR.out.cells; have hbR := hR.out.below; clear hR; replace OI := hh (OI.out.later hbR); replace HM := hh (below_at' hbR HM.out); clear hbR
   go_wp2_with (refine sR 35 #[.int .i64 a.k, .int .i64 a.g, .int .i64 a.n, .int .i64 a.who, .bool a.on, .int .u64 (uw0 a.m), .int .u64 (uw1 a.m), .int .u64 (uw2 a.m), .int .u64 (uw3 a.m)] HR Tryz.sizeAct19 ?_)
   intro d2 hxR kR zR; clear zR; replace OI := hh (one_cells OI.out HR.out rfl kR WR.out); replace HM := hh (kR.at HM.out NMR.out); replace HR := hh hxR; clear hxR kR; clear q0' q1' q2' q3' q4' q5' q6' q7' q8' hlt; have c0 : d2.cell? ⟨R, 0, none⟩ = some (.int .i64 a.k) := Lib.cell_of_heap HR.out 0
   go_upto_if 26 with fail
   clear c0
   go_cut [20] from 20 to 146 (fun s20 wx => ∃ nn : Int, s20 = .int .i64 i ∧ Hid (One w wx g s) ∧ Hid (wx.heap[M]? = some (.cells #[.int .u64 (uw0 m), .int .u64 (uw1 m), .int .u64 (uw2 m), .int .u64 (uw3 m)] 25 (0, 0))) ∧ Hid (wx.heap[R]? = some (.cells #[.int .i64 a.k, .int .i64 a.g, .int .i64 nn, .int .i64 a.who, .bool a.on, .int .u64 (uw0 a.m), .int .u64 (uw1 a.m), .int .u64 (uw2 a.m), .int .u64 (uw3 a.m)] 35 (0, 0))))
   case first =>
    by_cases hk2 : a.k < 2
    ·go_wp2_with (refine wpList_store1_g rfl 3 _ _ rfl R 2 _ rfl rfl rfl rfl 35 _ HR.out (by kernel_rfl) (by simp) #[.int .i64 a.k, .int .i64 a.g, .int .i64 1, .int .i64 a.who, .bool a.on, .int .u64 (uw0 a.m), .int .u64 (uw1 a.m), .int .u64 (uw2 a.m), .int .u64 (uw3 a.m)] rfl ?_)
     intro d3 hxR kR zR; clear zR hk2; replace OI := hh (one_cells OI.out HR.out rfl kR WR.out); replace HM := hh (kR.at HM.out NMR.out); replace HR := hh hxR; clear hxR kR; go_wp2_with fail
     go_meet
     case rel => exact ⟨1, rfl, OI, HM, HR⟩
    ·go_wp2_with fail; clear hk2
     go_meet
     case rel => exact ⟨a.n, rfl, OI, HM, HR⟩
   case rest =>
    clear OI HM HR; obtain ⟨nn, rfl, OI, HM, HR⟩ := hcut; go_wp2_with fail; have HSL : Hid (s.t.length < 1099511627776) := hh (by have h9 := HSZ.out; unfold PS.sz at h9; omega); obtain ⟨F9, h9⟩ := OI.out.get; refine (sall_any h9 HSL.out).mono ?_; rintro e f1 ⟨vC, rfl, hlC, hb, hoC⟩; have HTW : Hid (Ows vC s.t w f1 g s) := hh (OI.out.ows hb hlC hoC); clear hlC hoC h9; replace OI := hh (OI.out.later hb); replace HM := hh (below_at' hb HM.out); replace HR := hh (below_at' hb HR.out); clear hb; clear OI; obtain ⟨ad9, n9, cap9, hv9⟩ : ∃ ad n cap, vC = .slice ad n cap := by obtain ⟨a9, c9, e9, _⟩ := (HTW.out.was.rd pairE_len).shape; exact ⟨_, _, _, e9⟩
    subst hv9
    go_upto_region 11 with fail
    iterate 8 (first | go_values | go_skip | go_guarded | go_step | go_upon | go_back)
    go_cut [8, 20] from 20 to 146 (fun s8 s20 wx => ∃ (er : Int) (s' : PS) (m' : Nat), s8 = .int .i64 er ∧ s20 = .int .i64 i ∧ Hid (Kv s' m' (i + 1)) ∧ Hid (er ≠ 0 → s' = s) ∧ Hid (Ows (.slice ad9 n9 cap9) s.t w wx g s') ∧ Hid (wx.heap[M]? = some (.cells #[.int .u64 (uw0 m'), .int .u64 (uw1 m'), .int .u64 (uw2 m'), .int .u64 (uw3 m')] 25 (0, 0))))
    case first =>
     by_cases h0 : a.k = 0
     ·have hk := h0; clear h0; have b0 : (a.k == 0) = true := by rw [hk]; rfl
      clear hk; obtain ⟨er, her⟩ := nm (mintE s 1 a.who a.m); have HER := hh her; clear her; have cR0 : f1.cell? ⟨R, 0, none⟩ = some (.int .i64 a.k) := Lib.cell_of_heap HR.out 0; have cR3 : f1.cell? ⟨R, 3, none⟩ = some (.int .i64 a.who) := Lib.cell_of_heap HR.out 3; have cR5 : f1.cell? ⟨R, 5, none⟩ = some (.int .u64 (uw0 a.m)) := Lib.cell_of_heap HR.out 5; have cR6 : f1.cell? ⟨R, 6, none⟩ = some (.int .u64 (uw1 a.m)) := Lib.cell_of_heap HR.out 6; have cR7 : f1.cell? ⟨R, 7, none⟩ = some (.int .u64 (uw2 a.m)) := Lib.cell_of_heap HR.out 7; have cR8 : f1.cell? ⟨R, 8, none⟩ = some (.int .u64 (uw3 a.m)) := Lib.cell_of_heap HR.out 8; go_wp2_with fail; clear b0; clear cR0 cR3 cR5 cR6 cR7 cR8; refine (HTW.out.st fun F hs => mint_any hs (by have := HSZ.out; omega) HK.out.fit (t := 1) (by unfold I64; omega) HGX.out.b_who (uw_is HGX.out.lt_m)).mono ?_; rw [← HER.out]; rintro e f2 ⟨rfl, o, hoth⟩; replace HM := hh (hoth.2 M _ HM.out rfl rfl); replace HR := hh (hoth.2 R _ HR.out rfl rfl); replace HTW := hh o; clear o hoth; have HKM := hh (HK.out.mint a.who a.m); rw [← HER.out] at HKM
      by_cases he : er = 0
      ·have HKN : Hid (m + a.m < uHalf ∧ Kv (s.mint 1 a.who a.m) (m + a.m) (i + 1)) := hh (by
        rcases HKM.out with h9 | h9
        ·exact h9.2
        ·exact absurd he h9.1)
       have HLF : Hid (m + a.m < uMax ∧ m < uMax) := hh (by have := uHalf_max HKN.out.1; omega); have be : (er == 0) = true := by rw [he]; rfl
       have cR5 : f2.cell? ⟨R, 5, none⟩ = some (.int .u64 (uw0 a.m)) := Lib.cell_of_heap HR.out 5; have cR6 : f2.cell? ⟨R, 6, none⟩ = some (.int .u64 (uw1 a.m)) := Lib.cell_of_heap HR.out 6; have cR7 : f2.cell? ⟨R, 7, none⟩ = some (.int .u64 (uw2 a.m)) := Lib.cell_of_heap HR.out 7; have cR8 : f2.cell? ⟨R, 8, none⟩ = some (.int .u64 (uw3 a.m)) := Lib.cell_of_heap HR.out 8
       go_wp2_with (refine lR HM Tryz.underlying25 Tryz.sizeU ?_)
       clear be; clear cR5 cR6 cR7 cR8; refine (radd_any (uw_is HLF.out.2) (uw_is HGX.out.lt_m) _).mono ?_; rw [decide_eq_true HLF.out.1]; rintro e f3 ⟨ya, yb, yc, yd, hu, rfl, hb⟩
       first | rw [if_pos trivial] at hu | rw [if_pos rfl] at hu
       obtain ⟨rfl, rfl, rfl, rfl⟩ := hu.uw; clear hu; replace HM := hh (below_at' hb HM.out); replace HR := hh (below_at' hb HR.out); replace HTW := hh (HTW.out.later hb); clear hb
       go_wp2_with (refine sR 25 #[.int .u64 (uw0 (m + a.m)), .int .u64 (uw1 (m + a.m)), .int .u64 (uw2 (m + a.m)), .int .u64 (uw3 (m + a.m))] HM Tryz.sizeU ?_)
       intro f4 hxM kM zM; clear zM; replace HR := hh (kM.at HR.out (fun e => NMR.out e.symm)); replace HTW := hh (ows_cells HTW.out HM.out rfl (by decide) kM WM.out); replace HM := hh hxM; clear hxM kM; go_wp2_with fail
       go_meet
       case rel => exact ⟨_, _, m + a.m, rfl, rfl, hh HKN.out.2, hh (fun h9 => by first | exact absurd he h9 | exact absurd rfl h9), HTW, HM⟩
      ·have HKN : Hid (Kv (s.mint 1 a.who a.m) m (i + 1) ∧ (er ≠ 0 → s.mint 1 a.who a.m = s)) := hh (by
        rcases HKM.out with h9 | h9
        ·exact absurd h9.1 he
        ·exact ⟨by rw [h9.2]; exact HK.out.skip, fun _ => h9.2⟩)
       have be : (er == 0) = false := beq_eq_false_iff_ne.2 he; go_wp2_with fail; clear be
       go_meet
       case rel => exact ⟨_, _, _, rfl, rfl, hh HKN.out.1, hh HKN.out.2, HTW, HM⟩
     by_cases h1 : a.k = 1
     ·have hk := h1; clear h1; have b0 : (a.k == 0) = false := beq_eq_false_iff_ne.2 h0; have b1 : (a.k == 1) = true := by rw [hk]; rfl
      clear hk h0; obtain ⟨er, her⟩ := nm (newE s 1); have HER := hh her; clear her; have HKN := hh (HK.out.newS); rw [← HER.out] at HKN; have cR0 : f1.cell? ⟨R, 0, none⟩ = some (.int .i64 a.k) := Lib.cell_of_heap HR.out 0; go_wp2_with fail; clear b0 b1; clear cR0; obtain ⟨vv, hvv⟩ := nm (newV s 1); have HVV := hh hvv; clear hvv; refine (HTW.out.st fun F hs => vnew_any hs (by have := HSZ.out; omega) HK.out.fit (t := 1) (by unfold I64; omega)).mono ?_; rw [← HER.out, ← HVV.out]; rintro e f2 ⟨rfl, o, hoth⟩; replace HM := hh (hoth.2 M _ HM.out rfl rfl); replace HR := hh (hoth.2 R _ HR.out rfl rfl); replace HTW := hh o; clear o hoth; go_wp2_with fail
      go_meet
      case rel => exact ⟨_, _, _, rfl, rfl, hh HKN.out.1, hh HKN.out.2, HTW, HM⟩
     by_cases h2 : a.k = 2
     ·have hk := h2; clear h2; have b0 : (a.k == 0) = false := beq_eq_false_iff_ne.2 h0; have b1 : (a.k == 1) = false := beq_eq_false_iff_ne.2 h1; have b2 : (a.k == 2) = true := by rw [hk]; rfl
      clear hk h0 h1; obtain ⟨er, her⟩ := nm (allE s a.g); have HER := hh her; clear her; have HKN := hh (HK.out.allow HGX.out.b_g.2 a.on); rw [← HER.out] at HKN; have cR0 : f1.cell? ⟨R, 0, none⟩ = some (.int .i64 a.k) := Lib.cell_of_heap HR.out 0; have cR1 : f1.cell? ⟨R, 1, none⟩ = some (.int .i64 a.g) := Lib.cell_of_heap HR.out 1; have cR4 : f1.cell? ⟨R, 4, none⟩ = some (.bool a.on) := Lib.cell_of_heap HR.out 4; go_wp2_with fail; clear b0 b1 b2; clear cR0 cR1 cR4; refine (HTW.out.st fun F hs => vallow_any hs (by have := HSZ.out; omega) HK.out.fit HGX.out.b_g a.on).mono ?_; rw [← HER.out]; rintro e f2 ⟨rfl, o, hoth⟩; replace HM := hh (hoth.2 M _ HM.out rfl rfl); replace HR := hh (hoth.2 R _ HR.out rfl rfl); replace HTW := hh o; clear o hoth; go_wp2_with fail
      go_meet
      case rel => exact ⟨_, _, _, rfl, rfl, hh HKN.out.1, hh HKN.out.2, HTW, HM⟩
     by_cases h3 : a.k = 3
     ·have hk := h3; clear h3; have b0 : (a.k == 0) = false := beq_eq_false_iff_ne.2 h0; have b1 : (a.k == 1) = false := beq_eq_false_iff_ne.2 h1; have b2 : (a.k == 2) = false := beq_eq_false_iff_ne.2 h2; have b3 : (a.k == 3) = true := by rw [hk]; rfl
      clear hk h0 h1 h2; obtain ⟨er, her⟩ := nm (depE s a.g a.who a.m); have HER := hh her; clear her; have HKN := hh (HK.out.dep HGX.out.b_g.2 a.who a.m); rw [← HER.out] at HKN; have cR0 : f1.cell? ⟨R, 0, none⟩ = some (.int .i64 a.k) := Lib.cell_of_heap HR.out 0; have cR1 : f1.cell? ⟨R, 1, none⟩ = some (.int .i64 a.g) := Lib.cell_of_heap HR.out 1; have cR3 : f1.cell? ⟨R, 3, none⟩ = some (.int .i64 a.who) := Lib.cell_of_heap HR.out 3; have cR5 : f1.cell? ⟨R, 5, none⟩ = some (.int .u64 (uw0 a.m)) := Lib.cell_of_heap HR.out 5; have cR6 : f1.cell? ⟨R, 6, none⟩ = some (.int .u64 (uw1 a.m)) := Lib.cell_of_heap HR.out 6; have cR7 : f1.cell? ⟨R, 7, none⟩ = some (.int .u64 (uw2 a.m)) := Lib.cell_of_heap HR.out 7; have cR8 : f1.cell? ⟨R, 8, none⟩ = some (.int .u64 (uw3 a.m)) := Lib.cell_of_heap HR.out 8; go_wp2_with fail; clear b0 b1 b2 b3; clear cR0 cR1 cR3 cR5 cR6 cR7 cR8; obtain ⟨vv, hvv⟩ := nm (depV s a.g a.who a.m); have HVV := hh hvv; clear hvv; refine (HTW.out.st fun F hs => vdeposit_any hs (by have := HSZ.out; omega) HK.out.fit HGX.out.b_g HGX.out.b_who (uw_is HGX.out.lt_m)).mono ?_; rw [← HER.out, ← HVV.out]; rintro e f2 ⟨rfl, o, hoth⟩; replace HM := hh (hoth.2 M _ HM.out rfl rfl); replace HR := hh (hoth.2 R _ HR.out rfl rfl); replace HTW := hh o; clear o hoth; go_wp2_with fail
      go_meet
      case rel => exact ⟨_, _, _, rfl, rfl, hh HKN.out.1, hh HKN.out.2, HTW, HM⟩
     by_cases h4 : a.k = 4
     ·have hk := h4; clear h4; have b0 : (a.k == 0) = false := beq_eq_false_iff_ne.2 h0; have b1 : (a.k == 1) = false := beq_eq_false_iff_ne.2 h1; have b2 : (a.k == 2) = false := beq_eq_false_iff_ne.2 h2; have b3 : (a.k == 3) = false := beq_eq_false_iff_ne.2 h3; have b4 : (a.k == 4) = true := by rw [hk]; rfl
      clear hk h0 h1 h2 h3; obtain ⟨er, her⟩ := nm (donE s a.g a.who a.m); have HER := hh her; clear her; have HKN := hh (HK.out.don HGX.out.b_g.2 a.who a.m); rw [← HER.out] at HKN; have cR0 : f1.cell? ⟨R, 0, none⟩ = some (.int .i64 a.k) := Lib.cell_of_heap HR.out 0; have cR1 : f1.cell? ⟨R, 1, none⟩ = some (.int .i64 a.g) := Lib.cell_of_heap HR.out 1; have cR3 : f1.cell? ⟨R, 3, none⟩ = some (.int .i64 a.who) := Lib.cell_of_heap HR.out 3; have cR5 : f1.cell? ⟨R, 5, none⟩ = some (.int .u64 (uw0 a.m)) := Lib.cell_of_heap HR.out 5; have cR6 : f1.cell? ⟨R, 6, none⟩ = some (.int .u64 (uw1 a.m)) := Lib.cell_of_heap HR.out 6; have cR7 : f1.cell? ⟨R, 7, none⟩ = some (.int .u64 (uw2 a.m)) := Lib.cell_of_heap HR.out 7; have cR8 : f1.cell? ⟨R, 8, none⟩ = some (.int .u64 (uw3 a.m)) := Lib.cell_of_heap HR.out 8; go_wp2_with fail; clear b0 b1 b2 b3 b4; clear cR0 cR1 cR3 cR5 cR6 cR7 cR8; refine (HTW.out.st fun F hs => vdonate_any hs (by have := HSZ.out; omega) HK.out.fit HGX.out.b_g HGX.out.b_who (uw_is HGX.out.lt_m)).mono ?_; rw [← HER.out]; rintro e f2 ⟨rfl, o, hoth⟩; replace HM := hh (hoth.2 M _ HM.out rfl rfl); replace HR := hh (hoth.2 R _ HR.out rfl rfl); replace HTW := hh o; clear o hoth; go_wp2_with fail
      go_meet
      case rel => exact ⟨_, _, _, rfl, rfl, hh HKN.out.1, hh HKN.out.2, HTW, HM⟩
     by_cases h5 : a.k = 5
     ·have hk := h5; clear h5; have b0 : (a.k == 0) = false := beq_eq_false_iff_ne.2 h0; have b1 : (a.k == 1) = false := beq_eq_false_iff_ne.2 h1; have b2 : (a.k == 2) = false := beq_eq_false_iff_ne.2 h2; have b3 : (a.k == 3) = false := beq_eq_false_iff_ne.2 h3; have b4 : (a.k == 4) = false := beq_eq_false_iff_ne.2 h4; have b5 : (a.k == 5) = true := by rw [hk]; rfl
      clear hk h0 h1 h2 h3 h4; obtain ⟨er, her⟩ := nm (redE s a.g a.who a.m); have HER := hh her; clear her; have HKN := hh (HK.out.red HGX.out.b_g.2 a.who a.m); rw [← HER.out] at HKN; have cR0 : f1.cell? ⟨R, 0, none⟩ = some (.int .i64 a.k) := Lib.cell_of_heap HR.out 0; have cR1 : f1.cell? ⟨R, 1, none⟩ = some (.int .i64 a.g) := Lib.cell_of_heap HR.out 1; have cR3 : f1.cell? ⟨R, 3, none⟩ = some (.int .i64 a.who) := Lib.cell_of_heap HR.out 3; have cR5 : f1.cell? ⟨R, 5, none⟩ = some (.int .u64 (uw0 a.m)) := Lib.cell_of_heap HR.out 5; have cR6 : f1.cell? ⟨R, 6, none⟩ = some (.int .u64 (uw1 a.m)) := Lib.cell_of_heap HR.out 6; have cR7 : f1.cell? ⟨R, 7, none⟩ = some (.int .u64 (uw2 a.m)) := Lib.cell_of_heap HR.out 7; have cR8 : f1.cell? ⟨R, 8, none⟩ = some (.int .u64 (uw3 a.m)) := Lib.cell_of_heap HR.out 8; go_wp2_with fail; clear b0 b1 b2 b3 b4 b5; clear cR0 cR1 cR3 cR5 cR6 cR7 cR8; obtain ⟨vv, hvv⟩ := nm (redV s a.g a.who a.m); have HVV := hh hvv; clear hvv; refine (HTW.out.st fun F hs => vredeem_any hs (by have := HSZ.out; omega) HK.out.fit HGX.out.b_g HGX.out.b_who (uw_is HGX.out.lt_m)).mono ?_; rw [← HER.out, ← HVV.out]; rintro e f2 ⟨rfl, o, hoth⟩; replace HM := hh (hoth.2 M _ HM.out rfl rfl); replace HR := hh (hoth.2 R _ HR.out rfl rfl); replace HTW := hh o; clear o hoth; go_wp2_with fail
      go_meet
      case rel => exact ⟨_, _, _, rfl, rfl, hh HKN.out.1, hh HKN.out.2, HTW, HM⟩
     by_cases h6 : a.k = 6
     ·have hk := h6; clear h6; have b0 : (a.k == 0) = false := beq_eq_false_iff_ne.2 h0; have b1 : (a.k == 1) = false := beq_eq_false_iff_ne.2 h1; have b2 : (a.k == 2) = false := beq_eq_false_iff_ne.2 h2; have b3 : (a.k == 3) = false := beq_eq_false_iff_ne.2 h3; have b4 : (a.k == 4) = false := beq_eq_false_iff_ne.2 h4; have b5 : (a.k == 5) = false := beq_eq_false_iff_ne.2 h5; have b6 : (a.k == 6) = true := by rw [hk]; rfl
      clear hk h0 h1 h2 h3 h4 h5; obtain ⟨er, her⟩ := nm (burE s a.g a.m); have HER := hh her; clear her; have HKN := hh (HK.out.bur HGX.out.b_g.2 a.m); rw [← HER.out] at HKN; have cR0 : f1.cell? ⟨R, 0, none⟩ = some (.int .i64 a.k) := Lib.cell_of_heap HR.out 0; have cR1 : f1.cell? ⟨R, 1, none⟩ = some (.int .i64 a.g) := Lib.cell_of_heap HR.out 1; have cR5 : f1.cell? ⟨R, 5, none⟩ = some (.int .u64 (uw0 a.m)) := Lib.cell_of_heap HR.out 5; have cR6 : f1.cell? ⟨R, 6, none⟩ = some (.int .u64 (uw1 a.m)) := Lib.cell_of_heap HR.out 6; have cR7 : f1.cell? ⟨R, 7, none⟩ = some (.int .u64 (uw2 a.m)) := Lib.cell_of_heap HR.out 7; have cR8 : f1.cell? ⟨R, 8, none⟩ = some (.int .u64 (uw3 a.m)) := Lib.cell_of_heap HR.out 8; go_wp2_with fail; clear b0 b1 b2 b3 b4 b5 b6; clear cR0 cR1 cR5 cR6 cR7 cR8; obtain ⟨vv, hvv⟩ := nm (burV s a.g a.m); have HVV := hh hvv; clear hvv; refine (HTW.out.st fun F hs => vburn_any hs (by have := HSZ.out; omega) HK.out.fit HGX.out.b_g  (uw_is HGX.out.lt_m)).mono ?_; rw [← HER.out, ← HVV.out]; rintro e f2 ⟨rfl, o, hoth⟩; replace HM := hh (hoth.2 M _ HM.out rfl rfl); replace HR := hh (hoth.2 R _ HR.out rfl rfl); replace HTW := hh o; clear o hoth; go_wp2_with fail
      go_meet
      case rel => exact ⟨_, _, _, rfl, rfl, hh HKN.out.1, hh HKN.out.2, HTW, HM⟩
     have b0 : (a.k == 0) = false := beq_eq_false_iff_ne.2 h0; have b1 : (a.k == 1) = false := beq_eq_false_iff_ne.2 h1; have b2 : (a.k == 2) = false := beq_eq_false_iff_ne.2 h2; have b3 : (a.k == 3) = false := beq_eq_false_iff_ne.2 h3; have b4 : (a.k == 4) = false := beq_eq_false_iff_ne.2 h4; have b5 : (a.k == 5) = false := beq_eq_false_iff_ne.2 h5; have b6 : (a.k == 6) = false := beq_eq_false_iff_ne.2 h6; clear h0 h1 h2 h3 h4 h5 h6; have HKN : Hid (Kv s m (i + 1) ∧ True) := hh ⟨HK.out.skip, trivial⟩; have cR0 : f1.cell? ⟨R, 0, none⟩ = some (.int .i64 a.k) := Lib.cell_of_heap HR.out 0; go_wp2_with fail
     go_meet
     case rel => exact ⟨_, _, _, rfl, rfl, hh HKN.out.1, hh (fun _ => rfl), HTW, HM⟩
    case rest =>
     clear HTW HM HR; obtain ⟨er, s2, m2, rfl, rfl, HK2, HNE, HTW, HM⟩ := hcut; have HSL2 : Hid (s2.t.length < 1099511627776 ∧ i ≤ 80) := hh (by have h8 := HK2.out.sz; have h9 := P80.out; have h7 := HJL.out; unfold PS.sz at h8; omega)
     go_upto_region 29 with fail
     go_cut [20, 119] from 20 to 146 (fun s20 s119 wx => s20 = .int .i64 i ∧ s119 = .bool false ∧ Hid (One w wx g s2) ∧ Hid (wx.heap[M]? = some (.cells #[.int .u64 (uw0 m2), .int .u64 (uw1 m2), .int .u64 (uw2 m2), .int .u64 (uw3 m2)] 25 (0, 0))))
     case first =>
      by_cases he : er = 0
      ·have be : (er != 0) = false := by rw [he]; rfl
       go_wp2_with fail; clear be
       go_meet
       case rel => exact ⟨rfl, rfl, hh HTW.out.one, HM⟩
      ·have HEQ : Hid (s2 = s) := hh (HNE.out he); have be : (er != 0) = true := bne_iff_ne.2 he; go_wp2_with fail; clear be; obtain ⟨F9, h9⟩ := HTW.out.one.get; refine (sall_any h9 HSL2.out.1).mono ?_; rintro e h1 ⟨vD, rfl, hlD, hb, _⟩; have HLD := hh hlD; clear hlD h9; replace HTW := hh (HTW.out.later hb); replace HM := hh (below_at' hb HM.out); clear hb; obtain ⟨ad8, n8, cap8, hv8⟩ : ∃ ad n cap, vD = .slice ad n cap := by obtain ⟨a9, c9, e9, _⟩ := (HLD.out.rd pairE_len).shape; exact ⟨_, _, _, e9⟩
       subst hv8; go_wp2_with fail; have hsm := rsame_any (HLD.out.rd pairE_len) (HTW.out.was.rd pairE_len) HSL2.out.1 HSL.out; rw [HEQ.out, decide_eq_true rfl] at hsm; refine (hsm).mono ?_; rintro e h2 ⟨rfl, hb⟩; replace HTW := hh (HTW.out.later hb); replace HM := hh (below_at' hb HM.out); clear hb; clear hsm HLD; go_wp2_with fail
       go_meet
       case rel => exact ⟨rfl, rfl, hh HTW.out.one, HM⟩
     case rest =>
      clear HTW HM HNE; obtain ⟨rfl, rfl, OI, HM⟩ := hcut; obtain ⟨cn, hcn⟩ := nm (getI (getP s2.t) kCnt); have HCN := hh hcn; have HCB : Hid (0 ≤ cn ∧ cn ≤ 32) := hh (by rw [hcn]; exact ⟨(getI_bound _ _).1, HK2.out.w.cnt⟩); clear hcn; go_wp2_with fail
      go_loopw [9] (fun vj wq => ∃ j : Int, vj = .int .i64 j ∧ 1 ≤ j ∧ j ≤ cn + 1 ∧ Hid (One w wq g s2) ∧ Hid (wq.heap[M]? = some (.cells #[.int .u64 (uw0 m2), .int .u64 (uw1 m2), .int .u64 (uw2 m2), .int .u64 (uw3 m2)] 25 (0, 0)))) (fun vj _ => (cn + 1 - intOf vj).toNat)
      case atStart => exact ⟨1, rfl, by omega, by have := HCB.out; omega, OI, HM⟩
      case round =>
       clear OI HM; obtain ⟨j, rfl, hj1, hj2, OI, HM⟩ := hrel; have HJ : Hid (1 ≤ j ∧ j ≤ cn + 1) := hh ⟨hj1, hj2⟩; have HJI : Hid (I64 j) := hh (by have := HCB.out; unfold I64; omega); clear hj1 hj2
       by_cases hj : j ≤ cn
       ·have HJC := hh hj; clear hj; go_wp2_with fail; obtain ⟨F9, h9⟩ := OI.out.get; refine (vcount_any (Look.of_st h9) HK2.out.fit.f).mono ?_; rw [← HCN.out]; rintro e u1 ⟨rfl, hb⟩; clear h9; replace OI := hh (OI.out.later hb); replace HM := hh (below_at' hb HM.out); clear hb; have hj : j ≤ cn := HJC.out; go_wp2_with fail; clear hj; obtain ⟨F9, h9⟩ := OI.out.get; obtain ⟨tv, htv⟩ := nm (totV (getP s2.t) j); obtain ⟨sv, hsv⟩ := nm (stkV (getP s2.t) j); have HLE : Hid (tv ≤ sv) := hh (by rw [htv, hsv]; exact HK2.out.le HJI.out.2); have HTV := hh htv; have HSV := hh hsv; clear htv hsv; refine (vtotal_any (Look.of_st h9) HK2.out.fit.f HJI.out).mono ?_; rw [← HTV.out]; rintro e u2 ⟨xa, xb, xc, xd, hu, rfl, hb⟩; have HXU := hh hu; clear hu h9; replace OI := hh (OI.out.later hb); replace HM := hh (below_at' hb HM.out); clear hb; go_wp2_with fail; obtain ⟨F9, h9⟩ := OI.out.get; refine (vstock_any (Look.of_st h9) HK2.out.fit.f HJI.out).mono ?_; rw [← HSV.out]; rintro e u3 ⟨ya, yb, yc, yd, hu, rfl, hb⟩; have HYU := hh hu; clear hu h9; replace OI := hh (OI.out.later hb); replace HM := hh (below_at' hb HM.out); clear hb; go_wp2_with fail; refine (ucmp_any HXU.out HYU.out _).mono ?_; obtain ⟨cv, hcv⟩ := nm (cmpV tv sv); rw [← hcv]; have hc0 : ¬ 0 < cv := by rw [hcv]; have := HLE.out; unfold cmpV; split; omega; split <;> omega
        clear hcv; rintro e u4 ⟨rfl, hb⟩; replace OI := hh (OI.out.later hb); replace HM := hh (below_at' hb HM.out); clear hb; go_wp2_with fail; clear hc0; have hwr : wrap64 (j + 1) = j + 1 := by have := HJ.out; have := HCB.out; unfold wrap64; omega
        go_wp2_with fail; rw [hwr]; clear hwr
        go_roundw
        case rel => exact ⟨j + 1, by first | rfl | go_num, by have := HJ.out; omega, by have := HJC.out; omega, OI, HM⟩
        case measure => have := HJ.out; have := HJC.out; simp [intOf]; omega
       ·have HJC := hh hj; clear hj; go_wp2_with fail; obtain ⟨F9, h9⟩ := OI.out.get; refine (vcount_any (Look.of_st h9) HK2.out.fit.f).mono ?_; rw [← HCN.out]; rintro e u1 ⟨rfl, hb⟩; clear h9; replace OI := hh (OI.out.later hb); replace HM := hh (below_at' hb HM.out); clear hb; have hj : ¬ j ≤ cn := by have := HJC.out; omega
        go_wp2_with fail; clear hj; obtain ⟨F9, h9⟩ := OI.out.get; refine (total_any (UndB.st h9 HSL2.out.1) (fun b => Nat.lt_of_le_of_lt (List.length_filter_le _ _) HSL2.out.1) (fun b p hp => HK2.out.fit p (List.mem_filter.1 hp).1) (t := 1) (by unfold I64; omega)).mono ?_; rw [HK2.out.totF, HK2.out.totB]; rintro e u2 ⟨ya, yb, yc, yd, hu, rfl, hb⟩
        first | rw [if_pos trivial] at hu | rw [if_pos rfl] at hu
        have HYU := hh hu; clear hu h9; replace OI := hh (OI.out.later hb); replace HM := hh (below_at' hb HM.out); clear hb
        go_wp2_with (refine sA _ Tryz.zeroUz ?_)
        intro P u3 hP; have WP := mGe hP OI.out.below.size; have NMP := mNe hP HM; have HP := hh hP.out.cells; have hbP := hP.out.below; clear hP; replace OI := hh (OI.out.later hbP); replace HM := hh (below_at' hbP HM.out); clear hbP
        go_wp2_with (refine sR 25 #[.int .u64 ya, .int .u64 yb, .int .u64 yc, .int .u64 yd] HP Tryz.sizeU ?_)
        intro u4 hxP kP zP; clear zP; replace OI := hh (one_cells OI.out HP.out rfl kP WP.out); replace HM := hh (kP.at HM.out NMP.out); replace HP := hh hxP; clear hxP kP; have e7 := Tryz.eqUn HYU.out (uw_is (uHalf_max HK2.out.w.lt)); rw [decide_eq_true rfl] at e7; have cP0 : u4.cell? ⟨P, 0, none⟩ = some (.int .u64 ya) := Lib.cell_of_heap HP.out 0; have cP1 : u4.cell? ⟨P, 1, none⟩ = some (.int .u64 yb) := Lib.cell_of_heap HP.out 1; have cP2 : u4.cell? ⟨P, 2, none⟩ = some (.int .u64 yc) := Lib.cell_of_heap HP.out 2; have cP3 : u4.cell? ⟨P, 3, none⟩ = some (.int .u64 yd) := Lib.cell_of_heap HP.out 3; have cM0 : u4.cell? ⟨M, 0, none⟩ = some (.int .u64 (uw0 m2)) := Lib.cell_of_heap HM.out 0; have cM1 : u4.cell? ⟨M, 1, none⟩ = some (.int .u64 (uw1 m2)) := Lib.cell_of_heap HM.out 1; have cM2 : u4.cell? ⟨M, 2, none⟩ = some (.int .u64 (uw2 m2)) := Lib.cell_of_heap HM.out 2; have cM3 : u4.cell? ⟨M, 3, none⟩ = some (.int .u64 (uw3 m2)) := Lib.cell_of_heap HM.out 3; have hi80 : i ≤ 80 := HSL2.out.2; go_wp2_with fail; clear e7; clear cP0 cP1 cP2 cP3; clear cM0 cM1 cM2 cM3
        go_roundw
        case rel => exact ⟨i + 1, s2, m2, by go_num, HJL.out, HK2, OI, HM⟩
        case measure => have := HJL.out; simp [intOf]; omega
  ·obtain rfl : i = n := by omega
   go_wp2_with fail; clear hlt; refine (lives19_any _).mono ?_; rintro e w9 ⟨rfl, hb⟩; replace OI := hh (OI.out.later hb); clear hb; go_wp2_with fail
   go_ret
   exact ⟨rfl, OI.out.below⟩
end Go.Proofs.YtabminbgoclnkaaGreat
