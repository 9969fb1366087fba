/- Banks: Mint, Pay, Balance, Total (code). No condition. -/
import Derived.Test.YteaigmoldlbjdaaBnkA
import Derived.Test.YteaigmoldlbjdaaStoV
import Derived.Test.YteaigmoldlbjdaaRstE
import Derived.Test.YteaigmoldlbjdaaLawI
import Derived.Deep.Cut
namespace Go.Proofs.Yteaigmoldlbjdaa
open Go.RowKit

theorem box_two (w : World) (c0 c1 : Array Value) (T0 T1 : TypeId) (w1 : World) (hw : w1 = (w.alloc (.cells c0 T0)).alloc (.cells c1 T1)) :
    w1.heap[w.heap.size]? = some (.cells c0 T0 (0, 0)) ∧ w1.heap[w.heap.size + 1]? = some (.cells c1 T1 (0, 0)) ∧ Below w.heap.size w w1 ∧ w1.heap.size = w.heap.size + 1 + 1 := by
  obtain ⟨wa, ha⟩ : ∃ x, x = w.alloc (.cells c0 T0) := ⟨_, rfl⟩
  rw [← ha] at hw
  have sa : wa.heap.size = w.heap.size + 1 := by rw [ha, World.size_alloc]
  have ba : Below w.heap.size w wa := by rw [ha]; exact below_new _ _
  have bb : Below wa.heap.size wa w1 := by rw [hw]; exact below_new _ _
  have ea : wa.heap[w.heap.size]? = some (.cells c0 T0 (0, 0)) := by rw [ha]; exact heap_alloc_new _ _
  have eb : w1.heap[wa.heap.size]? = some (.cells c1 T1 (0, 0)) := by rw [hw]; exact heap_alloc_new _ _
  rw [sa] at eb
  exact ⟨below_at' bb ea, eb, ba.trans (bb.mono (by omega)), by rw [hw, World.size_alloc, sa]⟩
theorem box_four (w : World) (c0 c1 c2 c3 : Array Value) (T0 T1 T2 T3 : TypeId) (w1 : World) (hw : w1 = (((w.alloc (.cells c0 T0)).alloc (.cells c1 T1)).alloc (.cells c2 T2)).alloc (.cells c3 T3)) :
    w1.heap[w.heap.size]? = some (.cells c0 T0 (0, 0)) ∧ w1.heap[w.heap.size + 1]? = some (.cells c1 T1 (0, 0)) ∧ w1.heap[w.heap.size + 1 + 1]? = some (.cells c2 T2 (0, 0)) ∧ w1.heap[w.heap.size + 1 + 1 + 1]? = some (.cells c3 T3 (0, 0)) ∧ Below w.heap.size w w1 := by
  obtain ⟨wa, ha⟩ : ∃ x, x = (w.alloc (.cells c0 T0)).alloc (.cells c1 T1) := ⟨_, rfl⟩
  obtain ⟨h1, h2, h3, h4⟩ := box_two w c0 c1 T0 T1 wa ha
  rw [← ha] at hw
  obtain ⟨k1, k2, k3, k4⟩ := box_two wa c2 c3 T2 T3 w1 hw
  rw [h4] at k1 k2
  exact ⟨below_at' k3 h1, below_at' k3 h2, k1, k2, h3.trans (k3.mono h3.size)⟩

set_option maxHeartbeats 8000000 in
set_option maxRecDepth 100000 in
theorem mint_any {w : World} {g : Nat} {s : PS} {F : List Nat} (h : St w g s F) (hz : s.sz < 100000000) (hf : Fit s) {t n : Int} (ht : I64 t) (hn : I64 n) {a b c d : Int} {m : Nat} (hu : UIs a b c d m) :
    Calls Try.prog 16 #[.pointer (some ⟨g, 0, none⟩), .int .i64 t, .int .i64 n, .agg #[.int .u64 a, .int .u64 b, .int .u64 c, .int .u64 d]] w (StRet w g F (s.mint t n m) (.int .i64 (mintE s t n m))) := by
  have L := Lib.hid (Liv.start h); have HZ := Lib.hid hz; have HF := Lib.hid hf; have HT := Lib.hid ht; have HN := Lib.hid hn; have HU := Lib.hid hu
  obtain ⟨gq, hgq⟩ : ∃ q, q = goodB t n := ⟨_, rfl⟩
  have HG := Lib.hid hgq
  clear h hz hf ht hn hu hgq
  go_enter Try.func16, Try.ntmps16
  go_upto_region 1 with fail
  obtain ⟨w1, hw1⟩ : ∃ w1, w1 = (((w.alloc (.cells #[.pointer (some ⟨g, 0, none⟩)] 35)).alloc (.cells #[.int .i64 t] 3)).alloc (.cells #[.int .i64 n] 3)).alloc (.cells #[.int .u64 a, .int .u64 b, .int .u64 c, .int .u64 d] 24) := ⟨_, rfl⟩
  obtain ⟨BS, hBS⟩ : ∃ x, x = w.heap.size := ⟨_, rfl⟩
  obtain ⟨BT, hBT⟩ : ∃ x, x = w.heap.size + 1 := ⟨_, rfl⟩
  obtain ⟨BN, hBN⟩ : ∃ x, x = w.heap.size + 1 + 1 := ⟨_, rfl⟩
  obtain ⟨BA, hBA⟩ : ∃ x, x = w.heap.size + 1 + 1 + 1 := ⟨_, rfl⟩
  rw [← hw1, ← hBA, ← hBN, ← hBT, ← hBS]
  have hbx := box_four w _ _ _ _ _ _ _ _ w1 hw1
  rw [← hBA, ← hBN, ← hBT, ← hBS] at hbx
  have hb1 : Below w.heap.size w w1 := by rw [← hBS]; exact hbx.2.2.2.2
  have HBS := Lib.hid hbx.1; have HBT := Lib.hid hbx.2.1; have HBN := Lib.hid hbx.2.2.1; have HBA := Lib.hid hbx.2.2.2.1
  have Lm := Lib.hid (L.out.later hb1)
  clear hbx hw1 hBS hBT hBN hBA hb1 L
  have L := Lm
  clear Lm
  have c0 : w1.cell? ⟨BT, 0, none⟩ = some (.int .i64 t) := Lib.cell_of_heap HBT.out 0
  have c1 : w1.cell? ⟨BN, 0, none⟩ = some (.int .i64 n) := Lib.cell_of_heap HBN.out 0
  go_wp2_with fail
  clear c0 c1
  refine (bgood_any t n _).mono ?_
  rw [← HG.out]
  rintro e _ ⟨rfl, rfl⟩
  cases gq with
  | false =>
    have HE : Hid (mintE s t n m = 2) := Lib.hid (by unfold mintE; rw [if_pos (.inl HG.out.symm)])
    have HS : Hid (s.mint t n m = s) := Lib.hid (by unfold PS.mint; rw [if_pos (.inl HG.out.symm)])
    go_wp2_with fail
    go_ret
    rw [HE.out, HS.out]; exact L.out.ret
  | true =>
    have cBA0 : w1.cell? ⟨BA, 0, none⟩ = some (.int .u64 a) := Lib.cell_of_heap HBA.out 0
    have cBA1 : w1.cell? ⟨BA, 1, none⟩ = some (.int .u64 b) := Lib.cell_of_heap HBA.out 1
    have cBA2 : w1.cell? ⟨BA, 2, none⟩ = some (.int .u64 c) := Lib.cell_of_heap HBA.out 2
    have cBA3 : w1.cell? ⟨BA, 3, none⟩ = some (.int .u64 d) := Lib.cell_of_heap HBA.out 3
    go_wp2_with fail
    clear cBA0 cBA1 cBA2 cBA3
    refine (wamount_any HU.out _).mono ?_
    obtain ⟨q, hq⟩ : ∃ q, q = decide (m < uHalf) := ⟨_, rfl⟩
    rw [← hq]
    have HQ := Lib.hid hq
    clear hq
    rintro e w2 ⟨rfl, hb⟩
    have Lm := Lib.hid (L.out.later hb)
    have HBSm := Lib.hid (below_at' hb HBS.out)
    have HBTm := Lib.hid (below_at' hb HBT.out)
    have HBNm := Lib.hid (below_at' hb HBN.out)
    have HBAm := Lib.hid (below_at' hb HBA.out)
    clear hb L HBS HBT HBN HBA
    have L := Lm
    have HBS := HBSm
    have HBT := HBTm
    have HBN := HBNm
    have HBA := HBAm
    clear Lm HBSm HBTm HBNm HBAm
    cases q with
    | false =>
      have HE : Hid (mintE s t n m = 2) := Lib.hid (by unfold mintE; rw [if_pos (.inr (of_decide_eq_false HQ.out.symm))])
      have HS : Hid (s.mint t n m = s) := Lib.hid (by unfold PS.mint; rw [if_pos (.inr (of_decide_eq_false HQ.out.symm))])
      go_wp2_with fail
      go_ret
      rw [HE.out, HS.out]; exact L.out.ret
    | true =>
      have hno : ¬ (goodB t n = false ∨ ¬ m < uHalf) := fun e => by
        rcases e with e | e
        · rw [e] at HG; have := HG.out; cases this
        · exact e (of_decide_eq_true HQ.out.symm)
      have HE : Hid (mintE s t n m = mint2E s t n m) := Lib.hid (by unfold mintE mint2E; rw [if_neg hno])
      have HS : Hid (s.mint t n m = s.mint2 t n m) := Lib.hid (by unfold PS.mint PS.mint2; rw [if_neg hno])
      clear hno HG HQ
      have c0 : w2.cell? ⟨BS, 0, none⟩ = some (.pointer (some ⟨g, 0, none⟩)) := Lib.cell_of_heap HBS.out 0
      go_wp2_with fail
      clear c0
      obtain ⟨w3, hw3⟩ : ∃ w3, w3 = w2.alloc (.cells #[.func (.func 51) #[] #[.pointer (some ⟨BS, 0, none⟩), .pointer (some ⟨BT, 0, none⟩), .pointer (some ⟨BA, 0, none⟩)], .func (.func 53) #[] #[.pointer (some ⟨BS, 0, none⟩), .pointer (some ⟨BT, 0, none⟩), .pointer (some ⟨BN, 0, none⟩), .pointer (some ⟨BA, 0, none⟩)]] 83) := ⟨_, rfl⟩
      obtain ⟨L0, hL0⟩ : ∃ x, x = w2.heap.size := ⟨_, rfl⟩
      rw [← hw3, ← hL0]
      have HL0 : Hid (w3.heap[L0]? = some (.cells #[.func (.func 51) #[] #[.pointer (some ⟨BS, 0, none⟩), .pointer (some ⟨BT, 0, none⟩), .pointer (some ⟨BA, 0, none⟩)], .func (.func 53) #[] #[.pointer (some ⟨BS, 0, none⟩), .pointer (some ⟨BT, 0, none⟩), .pointer (some ⟨BN, 0, none⟩), .pointer (some ⟨BA, 0, none⟩)]] 83 (0, 0))) := Lib.hid (by rw [hw3, hL0]; exact heap_alloc_new _ _)
      have hb3 : Below w2.heap.size w2 w3 := by rw [hw3]; exact below_new _ _
      clear hw3 hL0
      have Lm := Lib.hid (L.out.later hb3)
      have HBSm := Lib.hid (below_at' hb3 HBS.out)
      have HBTm := Lib.hid (below_at' hb3 HBT.out)
      have HBNm := Lib.hid (below_at' hb3 HBN.out)
      have HBAm := Lib.hid (below_at' hb3 HBA.out)
      clear hb3 L HBS HBT HBN HBA
      have L := Lm
      have HBS := HBSm
      have HBT := HBTm
      have HBN := HBNm
      have HBA := HBAm
      clear Lm HBSm HBTm HBNm HBAm
      refine (L.out.call fun F2 hs => ball_any hs HZ.out HF.out HT.out HN.out HU.out HBS.out HBT.out HBN.out HBA.out HL0.out).mono ?_
      rintro e w4 ⟨rfl, o, _⟩
      have L4 := Lib.hid o
      clear o L
      go_wp2_with fail
      go_ret
      rw [HE.out, HS.out]; exact L4.out.ret

set_option maxHeartbeats 8000000 in
set_option maxRecDepth 100000 in
theorem pay_any {w : World} {g : Nat} {s : PS} {F : List Nat} (h : St w g s F) (hz : s.sz < 100000000) (hf : Fit s) {t x y : Int} (ht : I64 t) (hx : I64 x) (hy : I64 y) {a b c d : Int} {m : Nat} (hu : UIs a b c d m) :
    Calls Try.prog 17 #[.pointer (some ⟨g, 0, none⟩), .int .i64 t, .int .i64 x, .int .i64 y, .agg #[.int .u64 a, .int .u64 b, .int .u64 c, .int .u64 d]] w (StRet w g F (s.pay t x y m) (.int .i64 (payE s t x y m))) := by
  have L := Lib.hid (Liv.start h); have HZ := Lib.hid hz; have HF := Lib.hid hf; have HT := Lib.hid ht; have HX := Lib.hid hx; have HY := Lib.hid hy; have HU := Lib.hid hu
  obtain ⟨g1, hg1⟩ : ∃ q, q = goodB t x := ⟨_, rfl⟩
  obtain ⟨g2, hg2⟩ : ∃ q, q = goodB t y := ⟨_, rfl⟩
  have HG := Lib.hid (And.intro hg1 hg2)
  clear h hz hf ht hx hy hu hg1 hg2
  go_enter Try.func17, Try.ntmps17
  go_upto_region 1 with fail
  obtain ⟨w1, hw1⟩ : ∃ w1, w1 = w.alloc (.cells #[.int .u64 a, .int .u64 b, .int .u64 c, .int .u64 d] 24) := ⟨_, rfl⟩
  obtain ⟨BA, hBA⟩ : ∃ x, x = w.heap.size := ⟨_, rfl⟩
  rw [← hw1, ← hBA]
  have HBA : Hid (w1.heap[BA]? = some (.cells #[.int .u64 a, .int .u64 b, .int .u64 c, .int .u64 d] 24 (0, 0))) := Lib.hid (by rw [hw1, hBA]; exact heap_alloc_new _ _)
  have Lm : Hid (Liv w F w1 g s) := Lib.hid (L.out.later (by rw [hw1]; exact below_new _ _))
  clear hw1 hBA L
  have L := Lm
  clear Lm
  go_wp2_with fail
  refine (bgood_any t x _).mono ?_
  rw [← HG.out.1]
  rintro e _ ⟨rfl, rfl⟩
  cases g1 with
  | false =>
    have HE : Hid (payE s t x y m = 2) := Lib.hid (by unfold payE; rw [if_pos (.inl HG.out.1.symm)])
    have HS : Hid (s.pay t x y m = s) := Lib.hid (by unfold PS.pay; rw [if_pos (.inl HG.out.1.symm)])
    go_wp2_with fail
    go_ret
    rw [HE.out, HS.out]; exact L.out.ret
  | true =>
    go_wp2_with fail
    refine (bgood_any t y _).mono ?_
    rw [← HG.out.2]
    rintro e _ ⟨rfl, rfl⟩
    cases g2 with
    | false =>
      have HE : Hid (payE s t x y m = 2) := Lib.hid (by unfold payE; rw [if_pos (.inr HG.out.2.symm)])
      have HS : Hid (s.pay t x y m = s) := Lib.hid (by unfold PS.pay; rw [if_pos (.inr HG.out.2.symm)])
      go_wp2_with fail
      go_ret
      rw [HE.out, HS.out]; exact L.out.ret
    | true =>
      have hno : ¬ (goodB t x = false ∨ goodB t y = false) := fun e => by
        rcases e with e | e
        · have := HG.out.1; rw [e] at this; cases this
        · have := HG.out.2; rw [e] at this; cases this
      have HE : Hid (payE s t x y m = moveE (getP s.t) (kAcc t x) (kAcc t y) m) := Lib.hid (by unfold payE; rw [if_neg hno])
      have HS : Hid (s.pay t x y m = s.moveA (kAcc t x) (kAcc t y) m) := Lib.hid (by unfold PS.pay; rw [if_neg hno])
      clear hno HG
      go_wp2_with fail
      obtain ⟨a1, hwz⟩ : ∃ wz, wz = w1.drew := ⟨_, rfl⟩
      have hbz : Below w1.heap.size w1 a1 := by rw [hwz]; exact (Below.refl _ _).drew
      have Lm := Lib.hid (L.out.later hbz)
      have HBAm := Lib.hid (below_at' hbz HBA.out)
      clear hbz L HBA
      have L := Lm
      have HBA := HBAm
      clear Lm HBAm
      have hS : a1.heap[BA]? = some (.cells #[.int .u64 a, .int .u64 b, .int .u64 c, .int .u64 d] 24 (0, 0)) := HBA.out
      refine wp_region_till (fun w' => w'.heap[BA]? = some (.cells #[.int .u64 a, .int .u64 b, .int .u64 c, .int .u64 d] 24 (0, 0))) 10 10 (by kernel_rfl) rfl ?_
      rw [← hwz]
      clear hwz
      refine till_take 0 (some 21) rfl rfl (by kernel_rfl) (by kernel_rfl) (by kernel_rfl) (by kernel_rfl) (by kernel_rfl) (by kernel_rfl) (fun _ _ _ h => h) (.inl ⟨by rfl, fun w' _ => (by go_simp; rfl)⟩) hS ?_
      go_frame
      refine till_take 1 (some 22) rfl rfl (by kernel_rfl) (by kernel_rfl) (by kernel_rfl) (by kernel_rfl) (by kernel_rfl) (by kernel_rfl) (fun _ _ _ h => h) (.inl ⟨by rfl, fun w' _ => (by go_simp; rfl)⟩) hS ?_
      go_frame
      refine till_take 2 (some 23) rfl rfl (by kernel_rfl) (by kernel_rfl) (by kernel_rfl) (by kernel_rfl) (by kernel_rfl) (by kernel_rfl) (fun _ _ _ h => h) (.inl ⟨by rfl, fun w' _ => (by go_simp; rfl)⟩) hS ?_
      go_frame
      refine till_take 4 (some 25) rfl rfl (by kernel_rfl) (by kernel_rfl) (by kernel_rfl) (by kernel_rfl) (by kernel_rfl) (by kernel_rfl) (fun _ _ _ h => h) (.inl ⟨by rfl, fun w' _ => (by go_simp; rfl)⟩) hS ?_
      go_frame
      refine till_take 5 (some 26) rfl rfl (by kernel_rfl) (by kernel_rfl) (by kernel_rfl) (by kernel_rfl) (by kernel_rfl) (by kernel_rfl) (fun _ _ _ h => h) (.inl ⟨by rfl, fun w' _ => (by go_simp; rfl)⟩) hS ?_
      go_frame
      refine till_take 7 (some 28) rfl rfl (by kernel_rfl) (by kernel_rfl) (by kernel_rfl) (by kernel_rfl) (by kernel_rfl) (by kernel_rfl) (fun _ _ _ h => h) (yields_load (by rfl) 24 _ rfl (.pointer (some ⟨BA, 0, none⟩)) rfl (.agg #[.int .u64 a, .int .u64 b, .int .u64 c, .int .u64 d]) (fun w' hS' => load_heap (hS') Try.underlying24 rfl Try.sizeU)) hS ?_
      go_frame
      refine till_one 3 rfl (by kernel_rfl) fun K hK => ?_
      simp only [List.getElem_toArray, List.getElem_cons_succ, List.getElem_cons_zero]
      rw [if_pos (by rfl)]
      go_simp
      refine (bAcc_any HT.out HX.out _).mono ?_
      rintro e a2 ⟨rfl, hb⟩
      have Lm := Lib.hid (L.out.later hb)
      have HBAm := Lib.hid (below_at' hb HBA.out)
      clear hb L HBA
      have L := Lm
      have HBA := HBAm
      clear Lm HBAm
      have hS2 : a2.heap[BA]? = some (.cells #[.int .u64 a, .int .u64 b, .int .u64 c, .int .u64 d] 24 (0, 0)) := HBA.out
      refine hK _ _ (fun _ _ => hS2) ?_
      clear hK hS
      have hS := hS2
      clear hS2
      refine till_one 6 rfl (by kernel_rfl) fun K hK => ?_
      simp only [List.getElem_toArray, List.getElem_cons_succ, List.getElem_cons_zero]
      rw [if_pos (by rfl)]
      go_simp
      refine (bAcc_any HT.out HY.out _).mono ?_
      rintro e a3 ⟨rfl, hb⟩
      have Lm := Lib.hid (L.out.later hb)
      have HBAm := Lib.hid (below_at' hb HBA.out)
      clear hb L HBA
      have L := Lm
      have HBA := HBAm
      clear Lm HBAm
      have hS2 : a3.heap[BA]? = some (.cells #[.int .u64 a, .int .u64 b, .int .u64 c, .int .u64 d] 24 (0, 0)) := HBA.out
      refine hK _ _ (fun _ _ => hS2) ?_
      clear hK hS
      have hS := hS2
      clear hS2
      refine till_one 8 rfl (by kernel_rfl) fun K hK => ?_
      simp only [List.getElem_toArray, List.getElem_cons_succ, List.getElem_cons_zero]
      rw [if_pos (by rfl)]
      go_simp
      refine (L.out.call fun F hs => cmove_any hs (by have := HZ.out; omega) HF.out (kAcc t x) (kAcc t y) HU.out).mono ?_
      rintro e a4 ⟨rfl, o, hoth⟩
      have Lm := Lib.hid o
      have HBAm := Lib.hid (hoth.2 BA _ HBA.out rfl rfl)
      clear o hoth L HBA
      have L := Lm
      have HBA := HBAm
      clear Lm HBAm
      have hS2 : a4.heap[BA]? = some (.cells #[.int .u64 a, .int .u64 b, .int .u64 c, .int .u64 d] 24 (0, 0)) := HBA.out
      refine hK _ _ (fun _ _ => hS2) ?_
      clear hK hS
      have hS := hS2
      clear hS2
      refine till_take 9 (some 10) rfl rfl (by kernel_rfl) (by kernel_rfl) (by kernel_rfl) (by kernel_rfl) (by kernel_rfl) (by kernel_rfl) (fun _ _ _ h => h) (.inl ⟨by rfl, fun w' _ => (by go_simp; rfl)⟩) hS ?_
      go_frame
      refine till_done (by kernel_rfl) ?_ _
      clear hS
      go_wp2_with fail
      go_ret
      rw [HE.out, HS.out]; exact L.out.ret

set_option maxHeartbeats 8000000 in
set_option maxRecDepth 100000 in
theorem balance_any {w : World} {x : Option Addr} {q : Bool} {f : Txt → Option Txt} (h : Look w x q f) (hf : FitF f) {t n : Int} (ht : I64 t) (hn : I64 n) :
    Calls Try.prog 31 #[.pointer x, .int .i64 t, .int .i64 n] w (URet w (amtV f (kAcc t n))) := by
  have H := Lib.hid h; have HF := Lib.hid hf; have HT := Lib.hid ht; have HN := Lib.hid hn
  obtain ⟨v, hv⟩ : ∃ v, v = amtV f (kAcc t n) := ⟨_, rfl⟩
  rw [← hv]
  have HV := Lib.hid hv
  clear h hf ht hn hv
  have HB : Hid (Below w.heap.size w w) := Lib.hid (Below.refl _ _)
  go_enter Try.func31, Try.ntmps31
  go_wp2_with (refine wpList_alloc_g rfl _ rfl _ _ Try.zeroUz rfl ?_)
  intro R a1 hR
  have WR : Hid (w.heap.size ≤ R) := Lib.hid (by rw [hR.out.eq]; exact (HB.out).size)
  have HRz := Lib.hid hR.out.cells; have hbR := hR.out.below
  clear hR
  have HBm := Lib.hid (HB.out.trans (hbR.mono HB.out.size))
  clear hbR HB
  have HB := HBm
  clear HBm
  have HR := HRz
  clear HRz
  go_wp2_with fail
  refine (bAcc_any HT.out HN.out _).mono ?_
  rintro e a2 ⟨rfl, hb⟩
  have HBm := Lib.hid (HB.out.trans (hb.mono HB.out.size))
  have HRm := Lib.hid (below_at' hb HR.out)
  clear hb HB HR
  have HB := HBm
  have HR := HRm
  clear HBm HRm
  go_wp2_with fail
  refine (camount_any (H.out.later HB.out) HF.out (kAcc t n)).mono ?_
  rw [← HV.out]
  rintro e a3 ⟨ya, yb, yc, yd, hu1, rfl, hb⟩
  have HYU := Lib.hid hu1
  clear hu1
  have HBm := Lib.hid (HB.out.trans (hb.mono HB.out.size))
  have HRm := Lib.hid (below_at' hb HR.out)
  clear hb HB HR
  have HB := HBm
  have HR := HRm
  clear HBm HRm
  go_wp2_with (refine wpList_store_row_g (t := 24) (old := u0) rfl 24 _ _ rfl R #[.int .u64 ya, .int .u64 yb, .int .u64 yc, .int .u64 yd] rfl rfl HR.out Try.sizeU rfl (one_u64 _ _ _ _) ?_)
  intro a4 hxR kR zR
  clear zR
  have HBm := Lib.hid (HB.out.trans (kR.below (B := w.heap.size) (fun y hy e => by have := WR.out; omega) HB.out.size))
  have HRm := Lib.hid hxR
  clear hxR kR HB HR
  have HB := HBm
  have HR := HRm
  clear HBm HRm
  go_wp2_with fail
  exact bodyPost_ret (results_cell_row rfl _ _ _ _ _ _ _ rfl HR.out Try.underlying24 rfl Try.sizeU) rfl ⟨_, _, _, _, HYU.out, rfl, HB.out⟩

/-- The sum of the amounts of some tables. -/
def totT (Tb : Txt → Tab) : List Txt → Nat
  | [] => 0
  | b :: l => sumL (Tb b) + totT Tb l
theorem totT_append (Tb : Txt → Tab) : ∀ (s t : List Txt), totT Tb (s ++ t) = totT Tb s + totT Tb t
  | [], t => by show totT Tb t = 0 + _; omega
  | p :: s, t => by show sumL (Tb p) + totT Tb (s ++ t) = sumL (Tb p) + totT Tb s + totT Tb t; rw [totT_append Tb s t]; omega
theorem totT_take {Tb : Txt → Tab} {l : List Txt} {i : Nat} (h : i < l.length) : totT Tb (l.take (i + 1)) = totT Tb (l.take i) + sumL (Tb l[i]) := by
  rw [List.take_succ_eq_append_getElem h, totT_append]; rfl
theorem totT_le {Tb : Txt → Tab} {l : List Txt} {i : Nat} (h : i < l.length) : totT Tb (l.take i) + sumL (Tb l[i]) ≤ totT Tb l := by
  have e := congrArg (totT Tb) (List.take_append_drop (i + 1) l)
  rw [totT_append, totT_take h] at e
  omega
theorem one_strB (a b : Txt) : (#[Value.string (bs a), .string (bs b)].all (·.oneCell')) = true := by simp [Value.oneCell']
/-- What a store tells of the pairs under a beginning. -/
def UndB (w : World) (x : Option Addr) (Tb : Txt → Tab) : Prop := ∀ W, Below w.heap.size w W → ∀ b, Calls Try.prog 85 #[.pointer x, .string (bs b)] W (CloneRet W 121 pairE 2 (Tb b))
theorem UndB.later {w w' : World} {x : Option Addr} {Tb : Txt → Tab} (h : UndB w x Tb) (hb : Below w.heap.size w w') : UndB w' x Tb := fun W hW b => h W (hb.trans (hW.mono hb.size)) b
theorem UndB.st {w : World} {g : Nat} {s : PS} {F : List Nat} (h : St w g s F) (htl : s.t.length < 1099511627776) : UndB w (some ⟨g, 0, none⟩) (underP s.t) := fun W hW b => by
  obtain ⟨F2, h2, _, _⟩ := (Liv.start h).later hW
  exact sunder_any h2 htl b
theorem UndB.not {w : World} {x : Option Addr} (h : NotMade w x) : UndB w x (fun _ => []) := fun W hW b => by
  have h2 : NotMade W x := by
    rcases (Look.of_not h).later hW with ⟨e, _⟩ | ⟨_, h2, _⟩
    · cases e
    · exact h2
  exact (sunder_not h2 b).mono fun e W2 ⟨e1, e2⟩ => ⟨_, e1, by rw [← e2]; exact ⟨LO.nil _ _ _ _, Below.refl _ _, fun k e => by cases e⟩⟩

set_option maxHeartbeats 16000000 in
set_option maxRecDepth 100000 in
theorem sum_any {w : World} {x : Option Addr} {Tb : Txt → Tab} (hU : UndB w x Tb) (hT : ∀ b, (Tb b).length < 1099511627776) (hs : ∀ b, ∀ p ∈ Tb b, p.2.length ≤ 1000000) {bl : List Txt} {N0 L0 : Nat} (hN : N0 = bl.length) (hN0 : N0 < 1000) (hL0 : L0 < w.heap.size) (hc : ∀ (i : Nat) (h : i < bl.length), w.cell? ⟨L0, i, none⟩ = some (.string (bs bl[i]))) :
    Calls Try.prog 56 #[.pointer x, .slice (some ⟨L0, 0, none⟩) N0 N0] w (UOk w (totT Tb bl) (decide (totT Tb bl < uMax))) := by
  have HU := Lib.hid hU; have HT := Lib.hid hT; have HSV := Lib.hid hs; have HN := Lib.hid hN; have HL0 := Lib.hid hL0; have HC := Lib.hid hc
  clear hU hT hs hN hL0 hc
  obtain ⟨tot, htot⟩ : ∃ q, q = totT Tb bl := ⟨_, rfl⟩
  rw [← htot]
  have HTOT := Lib.hid htot
  clear htot
  have HB : Hid (Below w.heap.size w w) := Lib.hid (Below.refl _ _)
  go_enter Try.func56, Try.ntmps56
  go_wp2_with (refine wpList_alloc_g rfl _ rfl _ _ Try.zeroUz rfl ?_)
  intro A a1 hA
  have WA : Hid (w.heap.size ≤ A) := Lib.hid (by rw [hA.out.eq]; exact (HB.out).size)
  have HAz := Lib.hid hA.out.cells; have hbA := hA.out.below
  clear hA
  have HBm := Lib.hid (HB.out.trans (hbA.mono HB.out.size))
  clear hbA HB
  have HB := HBm
  clear HBm
  have HA := HAz
  clear HAz
  go_wp2_with (refine wpList_alloc_g rfl _ rfl _ _ Try.zeroUz rfl ?_)
  intro S a2 hS
  have WS : Hid (w.heap.size ≤ S) := Lib.hid (by rw [hS.out.eq]; exact (HB.out).size)
  have NAS : Hid (A ≠ S) := Lib.hid (by have := hS.out.eq; have := heap_lt HA.out; omega)
  have HSz := Lib.hid hS.out.cells; have hbS := hS.out.below
  clear hS
  have HBm := Lib.hid (HB.out.trans (hbS.mono HB.out.size))
  have HAm := Lib.hid (below_at' hbS HA.out)
  clear hbS HB HA
  have HB := HBm
  have HA := HAm
  clear HBm HAm
  have HS := HSz
  clear HSz
  go_wp2_with fail
  go_loopw [17] (fun vi wr => ∃ i : Nat, vi = .int .i64 i ∧ i ≤ N0 ∧ Hid (∃ a b c d, UIs a b c d (totT Tb (bl.take i)) ∧ wr.heap[S]? = some (.cells #[.int .u64 a, .int .u64 b, .int .u64 c, .int .u64 d] 24 (0, 0))) ∧ Hid (wr.heap[A]? = some (.cells u0 24 (0, 0))) ∧ Hid (Below w.heap.size w wr)) (fun vi _ => N0 - (intOf vi).toNat)
  case atStart => exact ⟨0, rfl, Nat.zero_le _, Lib.hid ⟨0, 0, 0, 0, UIs.zero, HS.out⟩, HA, HB⟩
  case round =>
    clear HS HA HB
    obtain ⟨i, rfl, hi, HSX, HA, HB⟩ := hrel
    by_cases hlt : i < N0
    · have hib : i < bl.length := by rw [← HN.out]; exact hlt
      have hcc := HC.out i hib
      have hle := totT_le (Tb := Tb) hib
      have htk := totT_take (Tb := Tb) hib
      obtain ⟨b, hb0⟩ : ∃ b, b = bl[i] := ⟨_, rfl⟩
      rw [← hb0] at hcc hle htk
      have c0 : wr.cell? ⟨L0, i, none⟩ = some (.string (bs b)) := (HB.out.cell (p := ⟨L0, i, none⟩) HL0.out).trans hcc
      have HLE := Lib.hid hle; have HTK := Lib.hid htk; have HLT := Lib.hid hlt
      clear hcc hle htk hb0 hib
      go_wp2_with fail
      clear c0
      refine (HU.out _ HB.out b).mono ?_
      rintro e w5 ⟨v, rfl, hl, hb, hown⟩
      obtain ⟨ad, cap, rfl, z1, z2⟩ := hl.shape
      have hTb := HT.out b
      have hSS := HSV.out b
      obtain ⟨TT, hTT⟩ : ∃ q, q = Tb b := ⟨_, rfl⟩
      rw [← hTT] at hl z1 hTb hSS HLE HTK ⊢
      obtain ⟨N, hN⟩ : ∃ N, N = TT.length := ⟨_, rfl⟩
      rw [← hN] at hl z1 hTb ⊢
      have HLO := Lib.hid hl; have HNN := Lib.hid hN; have HSS := Lib.hid hSS
      obtain ⟨sa, sb, sc, sd, hsu, hsh⟩ := HSX.out
      have HOWN : Hid (∀ k, (Value.slice ad N cap).ownBlock = some k → k ≠ S ∧ k ≠ A) := Lib.hid (fun k e => by
        have h9 := hown k (by rw [← hTT, ← hN]; exact e)
        have := heap_lt hsh; have := heap_lt HA.out
        omega)
      obtain ⟨base, hbase⟩ : ∃ q, q = totT Tb (bl.take i) := ⟨_, rfl⟩
      rw [← hbase] at HLE HTK hsu
      have HSm : Hid (∃ a b c d, UIs a b c d (base + sumL (TT.take 0)) ∧ w5.heap[S]? = some (.cells #[.int .u64 a, .int .u64 b, .int .u64 c, .int .u64 d] 24 (0, 0))) := Lib.hid ⟨sa, sb, sc, sd, hsu, below_at' hb hsh⟩
      have HAm := Lib.hid (below_at' hb HA.out)
      have HBm := Lib.hid (HB.out.trans (hb.mono HB.out.size))
      clear hb hl hN hTT hown hsu hsh hbase hSS HSX HA HB
      go_wp2_with fail
      go_loopw [25] (fun vi wr => ∃ j : Nat, vi = .int .i64 j ∧ j ≤ N ∧ Hid (∃ a b c d, UIs a b c d (base + sumL (TT.take j)) ∧ wr.heap[S]? = some (.cells #[.int .u64 a, .int .u64 b, .int .u64 c, .int .u64 d] 24 (0, 0))) ∧ Hid (wr.heap[A]? = some (.cells u0 24 (0, 0))) ∧ Hid (LO wr 121 pairE 2 (.slice ad N cap) TT) ∧ Hid (Below w.heap.size w wr)) (fun vi _ => N - (intOf vi).toNat)
      case atStart => exact ⟨0, rfl, Nat.zero_le _, HSm, HAm, HLO, HBm⟩
      case round =>
        clear HSm HAm HLO HBm
        obtain ⟨j, rfl, hjn, HSX, HA, HLO, HB⟩ := hrel
        by_cases hjl : j < N
        · have hjt : j < TT.length := by rw [← HNN.out]; exact hjl
          obtain ⟨gL, rfl, hgL, q0, q1⟩ := LO.pair HLO.out j hjt
          have hss := HSS.out _ (List.getElem_mem hjt)
          have hst := sumL_take hjt
          have hstl := sumL_take_le TT (j + 1)
          obtain ⟨⟨kk, vv⟩, hp⟩ : ∃ p, p = TT[j] := ⟨_, rfl⟩
          rw [← hp] at q0 q1 hss hst
          have hst : sumL (TT.take (j + 1)) = sumL (TT.take j) + amtF vv := hst
          have q0' : wr.cell? ⟨gL, j * 2, none⟩ = some (.string (bs kk)) := q0
          have q1' : wr.cell? ⟨gL, j * 2 + 1, none⟩ = some (.string (bs vv)) := q1
          have HVL : Hid (vv.length ≤ 1000000) := Lib.hid hss
          obtain ⟨sa, sb, sc, sd, hsu, hsh⟩ := HSX.out
          obtain ⟨cur, hcur⟩ : ∃ q, q = base + sumL (TT.take j) := ⟨_, rfl⟩
          rw [← hcur] at hsu
          have HSU := Lib.hid hsu; have HS := Lib.hid hsh
          have HNX : Hid (base + sumL (TT.take (j + 1)) = cur + amtF vv) := Lib.hid (by rw [hst, hcur]; omega)
          have HCT : Hid (cur + amtF vv ≤ tot) := Lib.hid (by have h8 := HLE.out; have h9 := HTOT.out; rw [hst] at hstl; rw [hcur]; omega)
          have HJL := Lib.hid hjl
          clear q0 q1 hss hst hstl hp hgL hjt hjl hsu hsh hcur HSX
          go_wp2_with (refine wpList_alloc_g rfl _ rfl _ _ Try.zeroPairE rfl ?_)
          intro P d1 hP
          go_wp2_with (refine wpList_store_row_g (t := 121) (old := #[.string (bs []), .string (bs [])]) rfl 121 _ _ rfl P #[.string (bs kk), .string (bs vv)] rfl rfl hP.out.cells Try.sizePair rfl (one_strB _ _) ?_)
          intro d2 hxP kP zP
          clear zP
          have hbP : Below wr.heap.size wr d2 := hP.out.below.trans (kP.below (B := wr.heap.size) (fun x hx e => by have := hP.out.eq; omega) hP.out.below.size)
          have WP : Hid (w.heap.size ≤ P) := Lib.hid (by rw [hP.out.eq]; exact (HB.out).size)
          have NAP : Hid (A ≠ P) := Lib.hid (by have := hP.out.eq; have := heap_lt HA.out; omega)
          have NSP : Hid (S ≠ P) := Lib.hid (by have := hP.out.eq; have := heap_lt HS.out; omega)
          have HPz := Lib.hid hxP
          clear hP hxP kP
          have HBm := Lib.hid (HB.out.trans (hbP.mono HB.out.size))
          have HAm := Lib.hid (below_at' hbP HA.out)
          have HSm := Lib.hid (below_at' hbP HS.out)
          have HLOm := Lib.hid (HLO.out.later hbP)
          clear hbP HB HA HS HLO
          have HB := HBm
          have HA := HAm
          have HS := HSm
          have HLO := HLOm
          clear HBm HAm HSm HLOm
          have HP := HPz
          clear HPz
          clear q0' q1'
          have c0 : d2.cell? ⟨P, 1, none⟩ = some (.string (bs vv)) := Lib.cell_of_heap HP.out 1
          go_wp2_with fail
          clear c0
          clear HP
          refine (toAmt_any vv _ (by have := HVL.out; omega)).mono ?_
          rintro e d3 ⟨xa, xb, xc, xd, hxu, rfl, hb⟩
          have HXU := Lib.hid hxu
          clear hxu
          have HBm := Lib.hid (HB.out.trans (hb.mono HB.out.size))
          have HAm := Lib.hid (below_at' hb HA.out)
          have HSm := Lib.hid (below_at' hb HS.out)
          have HLOm := Lib.hid (HLO.out.later hb)
          clear hb HB HA HS HLO
          have HB := HBm
          have HA := HAm
          have HS := HSm
          have HLO := HLOm
          clear HBm HAm HSm HLOm
          go_wp2_with (refine wpList_alloc_g rfl _ rfl _ _ Try.zeroUz rfl ?_)
          intro V d4 hV
          go_wp2_with (refine wpList_store_row_g (t := 24) (old := u0) rfl 24 _ _ rfl V #[.int .u64 xa, .int .u64 xb, .int .u64 xc, .int .u64 xd] rfl rfl hV.out.cells Try.sizeU rfl (one_u64 _ _ _ _) ?_)
          intro d5 hxV kV zV
          clear zV
          have hbV : Below d3.heap.size d3 d5 := hV.out.below.trans (kV.below (B := d3.heap.size) (fun x hx e => by have := hV.out.eq; omega) hV.out.below.size)
          have WV : Hid (w.heap.size ≤ V) := Lib.hid (by rw [hV.out.eq]; exact (HB.out).size)
          have NAV : Hid (A ≠ V) := Lib.hid (by have := hV.out.eq; have := heap_lt HA.out; omega)
          have NSV : Hid (S ≠ V) := Lib.hid (by have := hV.out.eq; have := heap_lt HS.out; omega)
          have HVz := Lib.hid hxV
          clear hV hxV kV
          have HBm := Lib.hid (HB.out.trans (hbV.mono HB.out.size))
          have HAm := Lib.hid (below_at' hbV HA.out)
          have HSm := Lib.hid (below_at' hbV HS.out)
          have HLOm := Lib.hid (HLO.out.later hbV)
          clear hbV HB HA HS HLO
          have HB := HBm
          have HA := HAm
          have HS := HSm
          have HLO := HLOm
          clear HBm HAm HSm HLOm
          have HV := HVz
          clear HVz
          go_wp2_with (first
            | (refine wpList_load_row rfl 24 _ rfl S rfl 24 _ _ _ HS.out Try.underlying24 rfl Try.sizeU ?_)
            | (refine wpList_load_row rfl 24 _ rfl V rfl 24 _ _ _ HV.out Try.underlying24 rfl Try.sizeU ?_))
          obtain ⟨q, hq⟩ : ∃ q, q = decide (cur + amtF vv < uMax) := ⟨_, rfl⟩
          refine (uadd_any HSU.out HXU.out _).mono ?_
          rw [← hq]
          rintro e d6 ⟨ya, yb, yc, yd, hyu, rfl, hb⟩
          have HYU := Lib.hid hyu
          have HQ := Lib.hid hq
          clear hyu hq
          have HBm := Lib.hid (HB.out.trans (hb.mono HB.out.size))
          have HAm := Lib.hid (below_at' hb HA.out)
          have HSm := Lib.hid (below_at' hb HS.out)
          have HLOm := Lib.hid (HLO.out.later hb)
          have HVm := Lib.hid (below_at' hb HV.out)
          clear hb HB HA HS HLO HV
          have HB := HBm
          have HA := HAm
          have HS := HSm
          have HLO := HLOm
          have HV := HVm
          clear HBm HAm HSm HLOm HVm
          go_wp2_with (refine wpList_alloc_g rfl _ rfl _ _ Try.zeroUz rfl ?_)
          intro Z d7 hZ
          go_wp2_with (refine wpList_store_row_g (t := 24) (old := u0) rfl 24 _ _ rfl Z #[.int .u64 ya, .int .u64 yb, .int .u64 yc, .int .u64 yd] rfl rfl hZ.out.cells Try.sizeU rfl (one_u64 _ _ _ _) ?_)
          intro d8 hxZ kZ zZ
          clear zZ
          have hbZ : Below d6.heap.size d6 d8 := hZ.out.below.trans (kZ.below (B := d6.heap.size) (fun x hx e => by have := hZ.out.eq; omega) hZ.out.below.size)
          have WZ : Hid (w.heap.size ≤ Z) := Lib.hid (by rw [hZ.out.eq]; exact (HB.out).size)
          have NAZ : Hid (A ≠ Z) := Lib.hid (by have := hZ.out.eq; have := heap_lt HA.out; omega)
          have NSZ : Hid (S ≠ Z) := Lib.hid (by have := hZ.out.eq; have := heap_lt HS.out; omega)
          have NVZ : Hid (V ≠ Z) := Lib.hid (by have := hZ.out.eq; have := heap_lt HV.out; omega)
          have HZz := Lib.hid hxZ
          clear hZ hxZ kZ
          have HBm := Lib.hid (HB.out.trans (hbZ.mono HB.out.size))
          have HAm := Lib.hid (below_at' hbZ HA.out)
          have HSm := Lib.hid (below_at' hbZ HS.out)
          have HLOm := Lib.hid (HLO.out.later hbZ)
          have HVm := Lib.hid (below_at' hbZ HV.out)
          clear hbZ HB HA HS HLO HV
          have HB := HBm
          have HA := HAm
          have HS := HSm
          have HLO := HLOm
          have HV := HVm
          clear HBm HAm HSm HLOm HVm
          have HZ := HZz
          clear HZz
          cases q with
          | false =>
            clear HLO
            have HOK : Hid (decide (tot < uMax) = false) := Lib.hid (decide_eq_false fun e => of_decide_eq_false HQ.out.symm (by have := HCT.out; omega))
            clear HYU HQ
            go_wp2_with (refine wpList_store_row_g (t := 24) (old := u0) rfl 24 _ _ rfl A u0 rfl rfl HA.out Try.sizeU rfl (one_u64 _ _ _ _) ?_)
            intro d9 hxA kA zA
            clear zA
            have HBm := Lib.hid (HB.out.trans (kA.below (B := w.heap.size) (fun y hy e => by have := WA.out; omega) HB.out.size))
            have HSm := Lib.hid (kA.at HS.out (fun e => NAS.out e.symm))
            have HVm := Lib.hid (kA.at HV.out (fun e => NAV.out e.symm))
            have HZm := Lib.hid (kA.at HZ.out (fun e => NAZ.out e.symm))
            have HAm := Lib.hid hxA
            clear hxA kA HB HA HS HV HZ
            have HB := HBm
            have HA := HAm
            have HS := HSm
            have HV := HVm
            have HZ := HZm
            clear HBm HAm HSm HVm HZm
            go_wp2_with fail
            exact bodyPost_ret (res_row_val rfl _ _ A _ u0 _ _ rfl HA.out Try.underlying24 rfl Try.sizeU _ rfl) rfl ⟨0, 0, 0, 0, by rw [HOK.out]; exact UIs.zero, by rw [HOK.out]; rfl, HB.out⟩
          | true =>
            have hy9 := HYU.out
            first | rw [if_pos trivial] at hy9 | rw [if_pos rfl] at hy9
            have HY := Lib.hid hy9
            clear hy9 HYU HQ
            go_wp2_with (first
              | (refine wpList_load_row rfl 24 _ rfl Z rfl 24 _ _ _ HZ.out Try.underlying24 rfl Try.sizeU ?_)
              | (refine wpList_store_row_g (t := 24) (old := #[.int .u64 sa, .int .u64 sb, .int .u64 sc, .int .u64 sd]) rfl 24 _ _ rfl S #[.int .u64 ya, .int .u64 yb, .int .u64 yc, .int .u64 yd] rfl rfl HS.out Try.sizeU rfl (one_u64 _ _ _ _) ?_))
            intro d9 hxS kS zS
            clear zS
            have HBm := Lib.hid (HB.out.trans (kS.below (B := w.heap.size) (fun y hy e => by have := WS.out; omega) HB.out.size))
            have HAm := Lib.hid (kS.at HA.out NAS.out)
            have HLOm := Lib.hid (HLO.out.keep kS (fun k e h9 => (HOWN.out k e).1 h9))
            have HVm := Lib.hid (kS.at HV.out (fun e => NSV.out e.symm))
            have HZm := Lib.hid (kS.at HZ.out (fun e => NSZ.out e.symm))
            have HSm := Lib.hid hxS
            clear hxS kS HB HA HS HLO HV HZ
            have HB := HBm
            have HA := HAm
            have HS := HSm
            have HLO := HLOm
            have HV := HVm
            have HZ := HZm
            clear HBm HAm HSm HLOm HVm HZm
            go_wp2_with fail
            go_roundw
            case rel => exact ⟨j + 1, by go_num, by have := HJL.out; omega, Lib.hid ⟨ya, yb, yc, yd, by rw [HNX.out]; exact HY.out, HS.out⟩, HA, HLO, HB⟩
            case measure => have := HJL.out; simp only [intOf]; omega
        · obtain rfl : j = N := by omega
          obtain ⟨sa, sb, sc, sd, hsu, hsh⟩ := HSX.out
          have HSF : Hid (UIs sa sb sc sd (totT Tb (bl.take (i + 1))) ∧ wr.heap[S]? = some (.cells #[.int .u64 sa, .int .u64 sb, .int .u64 sc, .int .u64 sd] 24 (0, 0))) := Lib.hid ⟨by rw [HTK.out]; rw [HNN.out, List.take_of_length_le (Nat.le_refl _)] at hsu; exact hsu, hsh⟩
          clear hsu hsh HSX HLO
          go_wp2_with fail
          go_roundw
          case rel => exact ⟨i + 1, by go_num, by omega, Lib.hid ⟨sa, sb, sc, sd, HSF.out.1, HSF.out.2⟩, HA, HB⟩
          case measure => simp only [intOf]; omega
    · obtain rfl : i = N0 := by omega
      obtain ⟨sa, sb, sc, sd, hsu, hsh⟩ := HSX.out
      rw [HN.out, List.take_of_length_le (Nat.le_refl _), ← HTOT.out] at hsu
      have HSU := Lib.hid hsu; have HS := Lib.hid hsh
      have HOK : Hid (tot < uMax) := Lib.hid hsu.lt
      clear hsu hsh HSX
      go_wp2_with (first
        | (refine wpList_load_row rfl 24 _ rfl S rfl 24 _ _ _ HS.out Try.underlying24 rfl Try.sizeU ?_)
        | (refine wpList_store_row_g (t := 24) (old := u0) rfl 24 _ _ rfl A #[.int .u64 sa, .int .u64 sb, .int .u64 sc, .int .u64 sd] rfl rfl HA.out Try.sizeU rfl (one_u64 _ _ _ _) ?_))
      intro d1 hxA kA zA
      clear zA
      have HBm := Lib.hid (HB.out.trans (kA.below (B := w.heap.size) (fun y hy e => by have := WA.out; omega) HB.out.size))
      have HSm := Lib.hid (kA.at HS.out (fun e => NAS.out e.symm))
      have HAm := Lib.hid hxA
      clear hxA kA HB HA HS
      have HB := HBm
      have HA := HAm
      have HS := HSm
      clear HBm HAm HSm
      go_wp2_with fail
      exact bodyPost_ret (res_row_val rfl _ _ A _ _ _ _ rfl HA.out Try.underlying24 rfl Try.sizeU _ rfl) rfl ⟨_, _, _, _, by rw [decide_eq_true HOK.out]; exact HSU.out, by rw [decide_eq_true HOK.out]; rfl, HB.out⟩
end Go.Proofs.Yteaigmoldlbjdaa
