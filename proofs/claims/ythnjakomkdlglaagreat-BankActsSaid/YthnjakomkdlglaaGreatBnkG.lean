/- Law 17: acts on both stores; BankActs. No condition. -/
import Derived.Test.YthnjakomkdlglaaGreatBnkF
import Derived.Deep.Cut
namespace Go.Proofs.YthnjakomkdlglaaGreat
open Go.RowKit

/-- tallagelaw17.Act, read. -/
structure Act17 where
  mint : Bool
  t : Int
  src : Int
  dst : Int
  m : Nat
def act17E (a : Act17) : List Value := [.bool a.mint, .int .i64 a.t, .int .i64 a.src, .int .i64 a.dst, .int .u64 (uw0 a.m), .int .u64 (uw1 a.m), .int .u64 (uw2 a.m), .int .u64 (uw3 a.m)]
theorem act17E_len (a : Act17) : (act17E a).length = 8 := rfl
structure Good17 (w : World) (a : Act17) : Prop where
  b_t : -9223372036854775808 ≤ a.t ∧ a.t < 9223372036854775808
  b_src : -9223372036854775808 ≤ a.src ∧ a.src < 9223372036854775808
  b_dst : -9223372036854775808 ≤ a.dst ∧ a.dst < 9223372036854775808
  lt_m : a.m < uMax
theorem Good17.later {w w' : World} {a : Act17} (h : Good17 w a) (_hb : Below w.heap.size w w') : Good17 w' a := ⟨h.b_t, h.b_src, h.b_dst, h.lt_m⟩
theorem Rd.act17 {w : World} {ad : Option Addr} {n cap : Nat} {t : List Act17} (h : Rd w act17E 8 (.slice ad n cap) t) (i : Nat) (hi : i < t.length) :
    ∃ g off, ad = some ⟨g, off, none⟩ ∧ g < w.heap.size ∧ w.cell? ⟨g, off + i * 8, none⟩ = some (.bool t[i].mint) ∧ w.cell? ⟨g, off + i * 8 + 1, none⟩ = some (.int .i64 t[i].t) ∧ w.cell? ⟨g, off + i * 8 + 2, none⟩ = some (.int .i64 t[i].src) ∧ w.cell? ⟨g, off + i * 8 + 3, none⟩ = some (.int .i64 t[i].dst) ∧ w.cell? ⟨g, off + i * 8 + 4, none⟩ = some (.int .u64 (uw0 t[i].m)) ∧ w.cell? ⟨g, off + i * 8 + 5, none⟩ = some (.int .u64 (uw1 t[i].m)) ∧ w.cell? ⟨g, off + i * 8 + 6, none⟩ = some (.int .u64 (uw2 t[i].m)) ∧ w.cell? ⟨g, off + i * 8 + 7, none⟩ = some (.int .u64 (uw3 t[i].m)) := by
  have hne : t ≠ [] := by rintro rfl; simp at hi
  obtain ⟨ax, cx, e3, _, _, h3⟩ := h
  obtain ⟨b, off, e4, hb, h5⟩ := h3 hne
  exact ⟨b, off, (Value.slice.inj e3).1.trans e4, hb, h5 i hi 0 (by decide), h5 i hi 1 (by decide), h5 i hi 2 (by decide), h5 i hi 3 (by decide), h5 i hi 4 (by decide), h5 i hi 5 (by decide), h5 i hi 6 (by decide), h5 i hi 7 (by decide)⟩
theorem Tryz.zeroAct17 (w : World) : (zeroValue 35).run Tryz.prog w = .ok (.agg #[.bool false, .int .i64 0, .int .i64 0, .int .i64 0, .int .u64 0, .int .u64 0, .int .u64 0, .int .u64 0]) w := by kernel_rfl
theorem Tryz.sizeAct17 : (Tryz.prog.info? 35).map (·.size) = some 8 := by kernel_rfl
theorem litA17 (w : World) (a : Act17) : Rd (w.alloc (.cells #[.bool a.mint, .int .i64 a.t, .int .i64 a.src, .int .i64 a.dst, .int .u64 (uw0 a.m), .int .u64 (uw1 a.m), .int .u64 (uw2 a.m), .int .u64 (uw3 a.m)] 35)) act17E 8 (.slice (some ⟨w.heap.size, 0, none⟩) 1 1) [a] := by
  refine ⟨_, 1, rfl, Nat.le_refl _, (by unfold maxLen; decide), fun _ => ⟨_, 0, rfl, by rw [World.size_alloc]; omega, fun i hi j hj => ?_⟩⟩
  have h := heap_alloc_new w (.cells #[.bool a.mint, .int .i64 a.t, .int .i64 a.src, .int .i64 a.dst, .int .u64 (uw0 a.m), .int .u64 (uw1 a.m), .int .u64 (uw2 a.m), .int .u64 (uw3 a.m)] 35)
  simp only [List.length_singleton] at hi
  obtain rfl : i = 0 := by omega
  match j, hj with
  | 0, _ => exact Lib.cell_of_heap h 0
  | 1, _ => exact Lib.cell_of_heap h 1
  | 2, _ => exact Lib.cell_of_heap h 2
  | 3, _ => exact Lib.cell_of_heap h 3
  | 4, _ => exact Lib.cell_of_heap h 4
  | 5, _ => exact Lib.cell_of_heap h 5
  | 6, _ => exact Lib.cell_of_heap h 6
  | 7, _ => exact Lib.cell_of_heap h 7

theorem Two.up {w0 w : World} {g h : Nat} {s1 s2 : PS} (t : Two w0 w g h s1 s2) : Up s1.t := by
  obtain ⟨F, G, h1, _⟩ := t; exact h1.up
theorem two_cells {w w' w0 : World} {g h : Nat} {s s2 : PS} {X : Nat} {cs : Array Value} {T : TypeId} (t : Two w0 w g h s s2) (hX : w.heap[X]? = some (.cells cs T (0, 0))) (hT : stoKind (.cells cs T (0, 0)) = false) (hR : rstKind (.cells cs T (0, 0)) = false) (hk : Keep (· = X) w w') (hw : w0.heap.size ≤ X) : Two w0 w' g h s s2 := by
  obtain ⟨F, G, h1, h2, h3, h4, h5⟩ := t
  refine ⟨F, G, h1.keep hk fun x hx e => ?_, h2.keep hk fun x hx e => ?_, h3, h4, h5.trans (hk.below (B := w0.heap.size) (fun y hy e => by omega) h5.size)⟩
  · obtain ⟨o, ho, hs⟩ := h1.kind x hx
    subst e
    rw [hX] at ho
    cases ho
    rw [hT] at hs
    cases hs
  · obtain ⟨o, ho, hs⟩ := h2.kind x hx
    subst e
    rw [hX] at ho
    cases ho
    rw [hR] at hs
    cases hs
/-- What an act does to a store. -/
def do17 (s : PS) (a : Act17) : PS := if a.mint then s.mint a.t a.dst a.m else s.pay a.t a.src a.dst a.m
theorem do17_sz {s : PS} (hu : Up s.t) (a : Act17) : (do17 s a).sz ≤ s.sz + 4 := by
  unfold do17; split
  · exact mint_sz hu _ _ _
  · exact pay_sz _ _ _ _ _
theorem do17_fit {s : PS} (hf : Fit s) (hu : Up s.t) (a : Act17) : Fit (do17 s a) := by
  unfold do17; split
  · exact mint_fit hf hu _ _ _
  · exact pay_fit hf _ _ _ _

set_option maxHeartbeats 8000000 in
set_option maxRecDepth 100000 in
theorem act17_any {w0 w : World} {g h : Nat} {s : PS} (T : Two w0 w g h s s) (hz : s.sz < 10000000) (hf : Fit s) {a : Act17} (ha : Good17 w a) :
    Calls Tryz.prog 11 #[.pointer (some ⟨g, 0, none⟩), .pointer (some ⟨h, 0, none⟩), .agg #[.bool a.mint, .int .i64 a.t, .int .i64 a.src, .int .i64 a.dst, .int .u64 (uw0 a.m), .int .u64 (uw1 a.m), .int .u64 (uw2 a.m), .int .u64 (uw3 a.m)]] w (fun e w' => e = .returned (.bool true) ∧ Two w0 w' g h (do17 s a) (do17 s a) ∧ Oth w w') := by
  have TF := Lib.hid T; have HZ := Lib.hid hz; have HF := Lib.hid hf; have HA := Lib.hid ha
  have OT : Hid (Oth w w) := Lib.hid (Oth.of_below (Below.refl _ _))
  clear T hz hf ha
  go_enter Tryz.func11, Tryz.ntmps11
  go_upto_region 1 with fail
  obtain ⟨w1, hw1⟩ : ∃ w1, w1 = w.alloc (.cells #[.bool a.mint, .int .i64 a.t, .int .i64 a.src, .int .i64 a.dst, .int .u64 (uw0 a.m), .int .u64 (uw1 a.m), .int .u64 (uw2 a.m), .int .u64 (uw3 a.m)] 35) := ⟨_, rfl⟩
  obtain ⟨X, hX⟩ : ∃ x, x = w.heap.size := ⟨_, rfl⟩
  rw [← hw1, ← hX]
  have HX : Hid (w1.heap[X]? = some (.cells #[.bool a.mint, .int .i64 a.t, .int .i64 a.src, .int .i64 a.dst, .int .u64 (uw0 a.m), .int .u64 (uw1 a.m), .int .u64 (uw2 a.m), .int .u64 (uw3 a.m)] 35 (0, 0))) := Lib.hid (by rw [hw1, hX]; exact heap_alloc_new _ _)
  have hb : Below w.heap.size w w1 := by rw [hw1]; exact below_new _ _
  clear hw1 hX
  have TFm := Lib.hid (TF.out.later hb)
  have OTm := Lib.hid (OT.out.trans (Oth.of_below hb))
  clear hb TF OT
  have TF := TFm
  have OT := OTm
  clear TFm OTm
  have c0 : w1.cell? ⟨X, 0, none⟩ = some (.bool a.mint) := Lib.cell_of_heap HX.out 0
  cases hmt : a.mint with
  | false =>
    have HD : Hid (do17 s a = s.pay a.t a.src a.dst a.m) := Lib.hid (by unfold do17; rw [hmt]; rfl)
    rw [hmt] at c0
    obtain ⟨er, her⟩ : ∃ z, z = payE s a.t a.src a.dst a.m := ⟨_, rfl⟩
    have HER := Lib.hid her
    clear her
    go_wp2_with fail
    clear c0
    obtain ⟨a1, hwz⟩ : ∃ wz, wz = w1.drew := ⟨_, rfl⟩
    have hbz : Below w1.heap.size w1 a1 := by rw [hwz]; exact (Below.refl _ _).drew
    have TFm := Lib.hid (TF.out.later hbz)
    have OTm := Lib.hid (OT.out.trans (Oth.of_below hbz))
    have HXm := Lib.hid (below_at' hbz HX.out)
    clear hbz TF OT HX
    have TF := TFm
    have OT := OTm
    have HX := HXm
    clear TFm OTm HXm
    have hS : a1.heap[X]? = some (.cells #[.bool a.mint, .int .i64 a.t, .int .i64 a.src, .int .i64 a.dst, .int .u64 (uw0 a.m), .int .u64 (uw1 a.m), .int .u64 (uw2 a.m), .int .u64 (uw3 a.m)] 35 (0, 0)) := HX.out
    refine wp_region_till (fun w' => w'.heap[X]? = some (.cells #[.bool a.mint, .int .i64 a.t, .int .i64 a.src, .int .i64 a.dst, .int .u64 (uw0 a.m), .int .u64 (uw1 a.m), .int .u64 (uw2 a.m), .int .u64 (uw3 a.m)] 35 (0, 0))) 22 22 (by kernel_rfl) rfl ?_
    rw [← hwz]
    clear hwz
    refine till_take 0 (some 26) rfl rfl (by kernel_rfl) (by kernel_rfl) (by kernel_rfl) (by kernel_rfl) (by kernel_rfl) (by kernel_rfl) (fun _ _ _ h => h) (.inl ⟨by rfl, fun w' _ => (by go_simp; rfl)⟩) hS ?_
    go_frame
    refine till_take 1 (some 27) rfl rfl (by kernel_rfl) (by kernel_rfl) (by kernel_rfl) (by kernel_rfl) (by kernel_rfl) (by kernel_rfl) (fun _ _ _ h => h) (.inl ⟨by rfl, fun w' _ => (by go_simp; rfl)⟩) hS ?_
    go_frame
    refine till_take 2 (some 28) rfl rfl (by kernel_rfl) (by kernel_rfl) (by kernel_rfl) (by kernel_rfl) (by kernel_rfl) (by kernel_rfl) (fun _ _ _ h => h) (.inl ⟨by rfl, fun w' hS' => (by have hc : w'.cell? ⟨X, 1, none⟩ = some (.int .i64 a.t) := Lib.cell_of_heap (hS') 1; go_simp; rfl)⟩) hS ?_
    go_frame
    refine till_take 3 (some 29) rfl rfl (by kernel_rfl) (by kernel_rfl) (by kernel_rfl) (by kernel_rfl) (by kernel_rfl) (by kernel_rfl) (fun _ _ _ h => h) (.inl ⟨by rfl, fun w' _ => (by go_simp; rfl)⟩) hS ?_
    go_frame
    refine till_take 4 (some 30) rfl rfl (by kernel_rfl) (by kernel_rfl) (by kernel_rfl) (by kernel_rfl) (by kernel_rfl) (by kernel_rfl) (fun _ _ _ h => h) (.inl ⟨by rfl, fun w' hS' => (by have hc : w'.cell? ⟨X, 2, none⟩ = some (.int .i64 a.src) := Lib.cell_of_heap (hS') 2; go_simp; rfl)⟩) hS ?_
    go_frame
    refine till_take 5 (some 31) rfl rfl (by kernel_rfl) (by kernel_rfl) (by kernel_rfl) (by kernel_rfl) (by kernel_rfl) (by kernel_rfl) (fun _ _ _ h => h) (.inl ⟨by rfl, fun w' _ => (by go_simp; rfl)⟩) hS ?_
    go_frame
    refine till_take 6 (some 32) rfl rfl (by kernel_rfl) (by kernel_rfl) (by kernel_rfl) (by kernel_rfl) (by kernel_rfl) (by kernel_rfl) (fun _ _ _ h => h) (.inl ⟨by rfl, fun w' hS' => (by have hc : w'.cell? ⟨X, 3, none⟩ = some (.int .i64 a.dst) := Lib.cell_of_heap (hS') 3; go_simp; rfl)⟩) hS ?_
    go_frame
    refine till_take 7 (some 33) rfl rfl (by kernel_rfl) (by kernel_rfl) (by kernel_rfl) (by kernel_rfl) (by kernel_rfl) (by kernel_rfl) (fun _ _ _ h => h) (.inl ⟨by rfl, fun w' _ => (by go_simp; rfl)⟩) hS ?_
    go_frame
    refine till_take 8 (some 34) rfl rfl (by kernel_rfl) (by kernel_rfl) (by kernel_rfl) (by kernel_rfl) (by kernel_rfl) (by kernel_rfl) (fun _ _ _ h => h) (yields_load (by rfl) 33 _ rfl (.pointer (some ⟨X, 4, none⟩)) rfl (.agg #[.int .u64 (uw0 a.m), .int .u64 (uw1 a.m), .int .u64 (uw2 a.m), .int .u64 (uw3 a.m)]) (fun w' hS' => run_loadAt_mid w' X 4 33 [.int .u64 (uw0 a.m), .int .u64 (uw1 a.m), .int .u64 (uw2 a.m), .int .u64 (uw3 a.m)] _ (range_of_heap (hS') 4 _ rfl) Tryz.underlying33 rfl Tryz.sizeU)) hS ?_
    go_frame
    refine till_take 10 (some 36) rfl rfl (by kernel_rfl) (by kernel_rfl) (by kernel_rfl) (by kernel_rfl) (by kernel_rfl) (by kernel_rfl) (fun _ _ _ h => h) (.inl ⟨by rfl, fun w' _ => (by go_simp; rfl)⟩) hS ?_
    go_frame
    refine till_take 11 (some 37) rfl rfl (by kernel_rfl) (by kernel_rfl) (by kernel_rfl) (by kernel_rfl) (by kernel_rfl) (by kernel_rfl) (fun _ _ _ h => h) (.inl ⟨by rfl, fun w' _ => (by go_simp; rfl)⟩) hS ?_
    go_frame
    refine till_take 12 (some 38) rfl rfl (by kernel_rfl) (by kernel_rfl) (by kernel_rfl) (by kernel_rfl) (by kernel_rfl) (by kernel_rfl) (fun _ _ _ h => h) (.inl ⟨by rfl, fun w' hS' => (by have hc : w'.cell? ⟨X, 1, none⟩ = some (.int .i64 a.t) := Lib.cell_of_heap (hS') 1; go_simp; rfl)⟩) hS ?_
    go_frame
    refine till_take 13 (some 39) rfl rfl (by kernel_rfl) (by kernel_rfl) (by kernel_rfl) (by kernel_rfl) (by kernel_rfl) (by kernel_rfl) (fun _ _ _ h => h) (.inl ⟨by rfl, fun w' _ => (by go_simp; rfl)⟩) hS ?_
    go_frame
    refine till_take 14 (some 40) rfl rfl (by kernel_rfl) (by kernel_rfl) (by kernel_rfl) (by kernel_rfl) (by kernel_rfl) (by kernel_rfl) (fun _ _ _ h => h) (.inl ⟨by rfl, fun w' hS' => (by have hc : w'.cell? ⟨X, 2, none⟩ = some (.int .i64 a.src) := Lib.cell_of_heap (hS') 2; go_simp; rfl)⟩) hS ?_
    go_frame
    refine till_take 15 (some 41) rfl rfl (by kernel_rfl) (by kernel_rfl) (by kernel_rfl) (by kernel_rfl) (by kernel_rfl) (by kernel_rfl) (fun _ _ _ h => h) (.inl ⟨by rfl, fun w' _ => (by go_simp; rfl)⟩) hS ?_
    go_frame
    refine till_take 16 (some 42) rfl rfl (by kernel_rfl) (by kernel_rfl) (by kernel_rfl) (by kernel_rfl) (by kernel_rfl) (by kernel_rfl) (fun _ _ _ h => h) (.inl ⟨by rfl, fun w' hS' => (by have hc : w'.cell? ⟨X, 3, none⟩ = some (.int .i64 a.dst) := Lib.cell_of_heap (hS') 3; go_simp; rfl)⟩) hS ?_
    go_frame
    refine till_take 17 (some 43) rfl rfl (by kernel_rfl) (by kernel_rfl) (by kernel_rfl) (by kernel_rfl) (by kernel_rfl) (by kernel_rfl) (fun _ _ _ h => h) (.inl ⟨by rfl, fun w' _ => (by go_simp; rfl)⟩) hS ?_
    go_frame
    refine till_take 18 (some 44) rfl rfl (by kernel_rfl) (by kernel_rfl) (by kernel_rfl) (by kernel_rfl) (by kernel_rfl) (by kernel_rfl) (fun _ _ _ h => h) (yields_load (by rfl) 33 _ rfl (.pointer (some ⟨X, 4, none⟩)) rfl (.agg #[.int .u64 (uw0 a.m), .int .u64 (uw1 a.m), .int .u64 (uw2 a.m), .int .u64 (uw3 a.m)]) (fun w' hS' => run_loadAt_mid w' X 4 33 [.int .u64 (uw0 a.m), .int .u64 (uw1 a.m), .int .u64 (uw2 a.m), .int .u64 (uw3 a.m)] _ (range_of_heap (hS') 4 _ rfl) Tryz.underlying33 rfl Tryz.sizeU)) hS ?_
    go_frame
    refine till_one 9 rfl (by kernel_rfl) fun K hK => ?_
    simp only [List.getElem_toArray, List.getElem_cons_succ, List.getElem_cons_zero]
    rw [if_pos (by rfl)]
    go_simp
    refine (TF.out.st fun F hs => pay_any hs (by have := HZ.out; omega) HF.out HA.out.b_t HA.out.b_src HA.out.b_dst (uw_is HA.out.lt_m)).mono ?_
    rw [← HER.out]
    rintro e a2 ⟨rfl, o, hoth⟩
    have TFm := Lib.hid o
    have OTm := Lib.hid (OT.out.trans hoth)
    have HXm := Lib.hid (hoth.2 X _ HX.out rfl rfl)
    clear o hoth TF OT HX
    have TF := TFm
    have OT := OTm
    have HX := HXm
    clear TFm OTm HXm
    have hS2 : a2.heap[X]? = some (.cells #[.bool a.mint, .int .i64 a.t, .int .i64 a.src, .int .i64 a.dst, .int .u64 (uw0 a.m), .int .u64 (uw1 a.m), .int .u64 (uw2 a.m), .int .u64 (uw3 a.m)] 35 (0, 0)) := HX.out
    refine hK _ _ (fun _ _ => hS2) ?_
    clear hK hS
    have hS := hS2
    clear hS2
    refine till_one 19 rfl (by kernel_rfl) fun K hK => ?_
    simp only [List.getElem_toArray, List.getElem_cons_succ, List.getElem_cons_zero]
    rw [if_pos (by rfl)]
    go_simp
    refine (TF.out.rs fun F hs => rpay_any hs (by have := HZ.out; omega) HF.out HA.out.b_t HA.out.b_src HA.out.b_dst (uw_is HA.out.lt_m)).mono ?_
    rw [← HER.out]
    rintro e a3 ⟨rfl, o, hoth⟩
    have TFm := Lib.hid o
    have OTm := Lib.hid (OT.out.trans hoth)
    have HXm := Lib.hid (hoth.2 X _ HX.out rfl rfl)
    clear o hoth TF OT HX
    have TF := TFm
    have OT := OTm
    have HX := HXm
    clear TFm OTm HXm
    have hS2 : a3.heap[X]? = some (.cells #[.bool a.mint, .int .i64 a.t, .int .i64 a.src, .int .i64 a.dst, .int .u64 (uw0 a.m), .int .u64 (uw1 a.m), .int .u64 (uw2 a.m), .int .u64 (uw3 a.m)] 35 (0, 0)) := HX.out
    refine hK _ _ (fun _ _ => hS2) ?_
    clear hK hS
    have hS := hS2
    clear hS2
    refine till_take 20 (some 46) rfl rfl (by kernel_rfl) (by kernel_rfl) (by kernel_rfl) (by kernel_rfl) (by kernel_rfl) (by kernel_rfl) (fun _ _ _ h => h) (.inl ⟨by rfl, fun w' _ => (by go_simp; rfl)⟩) hS ?_
    go_frame
    refine till_take 21 (some 6) rfl rfl (by kernel_rfl) (by kernel_rfl) (by kernel_rfl) (by kernel_rfl) (by kernel_rfl) (by kernel_rfl) (fun _ _ _ h => h) (.inl ⟨by rfl, fun w' _ => (by go_simp; rfl)⟩) hS ?_
    go_frame
    refine till_done (by kernel_rfl) ?_ _
    clear hS
    go_wp2_with fail
    go_ret
    exact ⟨by simp, by rw [HD.out]; exact TF.out, OT.out⟩
  | true =>
    have HD : Hid (do17 s a = s.mint a.t a.dst a.m) := Lib.hid (by unfold do17; rw [hmt]; rfl)
    rw [hmt] at c0
    obtain ⟨er, her⟩ : ∃ z, z = mintE s a.t a.dst a.m := ⟨_, rfl⟩
    have HER := Lib.hid her
    clear her
    go_wp2_with fail
    clear c0
    obtain ⟨a1, hwz⟩ : ∃ wz, wz = w1.drew := ⟨_, rfl⟩
    have hbz : Below w1.heap.size w1 a1 := by rw [hwz]; exact (Below.refl _ _).drew
    have TFm := Lib.hid (TF.out.later hbz)
    have OTm := Lib.hid (OT.out.trans (Oth.of_below hbz))
    have HXm := Lib.hid (below_at' hbz HX.out)
    clear hbz TF OT HX
    have TF := TFm
    have OT := OTm
    have HX := HXm
    clear TFm OTm HXm
    have hS : a1.heap[X]? = some (.cells #[.bool a.mint, .int .i64 a.t, .int .i64 a.src, .int .i64 a.dst, .int .u64 (uw0 a.m), .int .u64 (uw1 a.m), .int .u64 (uw2 a.m), .int .u64 (uw3 a.m)] 35 (0, 0)) := HX.out
    refine wp_region_till (fun w' => w'.heap[X]? = some (.cells #[.bool a.mint, .int .i64 a.t, .int .i64 a.src, .int .i64 a.dst, .int .u64 (uw0 a.m), .int .u64 (uw1 a.m), .int .u64 (uw2 a.m), .int .u64 (uw3 a.m)] 35 (0, 0))) 18 18 (by kernel_rfl) rfl ?_
    rw [← hwz]
    clear hwz
    refine till_take 0 (some 9) rfl rfl (by kernel_rfl) (by kernel_rfl) (by kernel_rfl) (by kernel_rfl) (by kernel_rfl) (by kernel_rfl) (fun _ _ _ h => h) (.inl ⟨by rfl, fun w' _ => (by go_simp; rfl)⟩) hS ?_
    go_frame
    refine till_take 1 (some 10) rfl rfl (by kernel_rfl) (by kernel_rfl) (by kernel_rfl) (by kernel_rfl) (by kernel_rfl) (by kernel_rfl) (fun _ _ _ h => h) (.inl ⟨by rfl, fun w' _ => (by go_simp; rfl)⟩) hS ?_
    go_frame
    refine till_take 2 (some 11) rfl rfl (by kernel_rfl) (by kernel_rfl) (by kernel_rfl) (by kernel_rfl) (by kernel_rfl) (by kernel_rfl) (fun _ _ _ h => h) (.inl ⟨by rfl, fun w' hS' => (by have hc : w'.cell? ⟨X, 1, none⟩ = some (.int .i64 a.t) := Lib.cell_of_heap (hS') 1; go_simp; rfl)⟩) hS ?_
    go_frame
    refine till_take 3 (some 12) rfl rfl (by kernel_rfl) (by kernel_rfl) (by kernel_rfl) (by kernel_rfl) (by kernel_rfl) (by kernel_rfl) (fun _ _ _ h => h) (.inl ⟨by rfl, fun w' _ => (by go_simp; rfl)⟩) hS ?_
    go_frame
    refine till_take 4 (some 13) rfl rfl (by kernel_rfl) (by kernel_rfl) (by kernel_rfl) (by kernel_rfl) (by kernel_rfl) (by kernel_rfl) (fun _ _ _ h => h) (.inl ⟨by rfl, fun w' hS' => (by have hc : w'.cell? ⟨X, 3, none⟩ = some (.int .i64 a.dst) := Lib.cell_of_heap (hS') 3; go_simp; rfl)⟩) hS ?_
    go_frame
    refine till_take 5 (some 14) rfl rfl (by kernel_rfl) (by kernel_rfl) (by kernel_rfl) (by kernel_rfl) (by kernel_rfl) (by kernel_rfl) (fun _ _ _ h => h) (.inl ⟨by rfl, fun w' _ => (by go_simp; rfl)⟩) hS ?_
    go_frame
    refine till_take 6 (some 15) rfl rfl (by kernel_rfl) (by kernel_rfl) (by kernel_rfl) (by kernel_rfl) (by kernel_rfl) (by kernel_rfl) (fun _ _ _ h => h) (yields_load (by rfl) 33 _ rfl (.pointer (some ⟨X, 4, none⟩)) rfl (.agg #[.int .u64 (uw0 a.m), .int .u64 (uw1 a.m), .int .u64 (uw2 a.m), .int .u64 (uw3 a.m)]) (fun w' hS' => run_loadAt_mid w' X 4 33 [.int .u64 (uw0 a.m), .int .u64 (uw1 a.m), .int .u64 (uw2 a.m), .int .u64 (uw3 a.m)] _ (range_of_heap (hS') 4 _ rfl) Tryz.underlying33 rfl Tryz.sizeU)) hS ?_
    go_frame
    refine till_take 8 (some 17) rfl rfl (by kernel_rfl) (by kernel_rfl) (by kernel_rfl) (by kernel_rfl) (by kernel_rfl) (by kernel_rfl) (fun _ _ _ h => h) (.inl ⟨by rfl, fun w' _ => (by go_simp; rfl)⟩) hS ?_
    go_frame
    refine till_take 9 (some 18) rfl rfl (by kernel_rfl) (by kernel_rfl) (by kernel_rfl) (by kernel_rfl) (by kernel_rfl) (by kernel_rfl) (fun _ _ _ h => h) (.inl ⟨by rfl, fun w' _ => (by go_simp; rfl)⟩) hS ?_
    go_frame
    refine till_take 10 (some 19) rfl rfl (by kernel_rfl) (by kernel_rfl) (by kernel_rfl) (by kernel_rfl) (by kernel_rfl) (by kernel_rfl) (fun _ _ _ h => h) (.inl ⟨by rfl, fun w' hS' => (by have hc : w'.cell? ⟨X, 1, none⟩ = some (.int .i64 a.t) := Lib.cell_of_heap (hS') 1; go_simp; rfl)⟩) hS ?_
    go_frame
    refine till_take 11 (some 20) rfl rfl (by kernel_rfl) (by kernel_rfl) (by kernel_rfl) (by kernel_rfl) (by kernel_rfl) (by kernel_rfl) (fun _ _ _ h => h) (.inl ⟨by rfl, fun w' _ => (by go_simp; rfl)⟩) hS ?_
    go_frame
    refine till_take 12 (some 21) rfl rfl (by kernel_rfl) (by kernel_rfl) (by kernel_rfl) (by kernel_rfl) (by kernel_rfl) (by kernel_rfl) (fun _ _ _ h => h) (.inl ⟨by rfl, fun w' hS' => (by have hc : w'.cell? ⟨X, 3, none⟩ = some (.int .i64 a.dst) := Lib.cell_of_heap (hS') 3; go_simp; rfl)⟩) hS ?_
    go_frame
    refine till_take 13 (some 22) rfl rfl (by kernel_rfl) (by kernel_rfl) (by kernel_rfl) (by kernel_rfl) (by kernel_rfl) (by kernel_rfl) (fun _ _ _ h => h) (.inl ⟨by rfl, fun w' _ => (by go_simp; rfl)⟩) hS ?_
    go_frame
    refine till_take 14 (some 23) rfl rfl (by kernel_rfl) (by kernel_rfl) (by kernel_rfl) (by kernel_rfl) (by kernel_rfl) (by kernel_rfl) (fun _ _ _ h => h) (yields_load (by rfl) 33 _ rfl (.pointer (some ⟨X, 4, none⟩)) rfl (.agg #[.int .u64 (uw0 a.m), .int .u64 (uw1 a.m), .int .u64 (uw2 a.m), .int .u64 (uw3 a.m)]) (fun w' hS' => run_loadAt_mid w' X 4 33 [.int .u64 (uw0 a.m), .int .u64 (uw1 a.m), .int .u64 (uw2 a.m), .int .u64 (uw3 a.m)] _ (range_of_heap (hS') 4 _ rfl) Tryz.underlying33 rfl Tryz.sizeU)) hS ?_
    go_frame
    refine till_one 7 rfl (by kernel_rfl) fun K hK => ?_
    simp only [List.getElem_toArray, List.getElem_cons_succ, List.getElem_cons_zero]
    rw [if_pos (by rfl)]
    go_simp
    refine (TF.out.st fun F hs => mint_any hs (by have := HZ.out; omega) HF.out HA.out.b_t HA.out.b_dst (uw_is HA.out.lt_m)).mono ?_
    rw [← HER.out]
    rintro e a2 ⟨rfl, o, hoth⟩
    have TFm := Lib.hid o
    have OTm := Lib.hid (OT.out.trans hoth)
    have HXm := Lib.hid (hoth.2 X _ HX.out rfl rfl)
    clear o hoth TF OT HX
    have TF := TFm
    have OT := OTm
    have HX := HXm
    clear TFm OTm HXm
    have hS2 : a2.heap[X]? = some (.cells #[.bool a.mint, .int .i64 a.t, .int .i64 a.src, .int .i64 a.dst, .int .u64 (uw0 a.m), .int .u64 (uw1 a.m), .int .u64 (uw2 a.m), .int .u64 (uw3 a.m)] 35 (0, 0)) := HX.out
    refine hK _ _ (fun _ _ => hS2) ?_
    clear hK hS
    have hS := hS2
    clear hS2
    refine till_one 15 rfl (by kernel_rfl) fun K hK => ?_
    simp only [List.getElem_toArray, List.getElem_cons_succ, List.getElem_cons_zero]
    rw [if_pos (by rfl)]
    go_simp
    refine (TF.out.rs fun F hs => rmint_any hs (by have := HZ.out; omega) HF.out HA.out.b_t HA.out.b_dst (uw_is HA.out.lt_m)).mono ?_
    rw [← HER.out]
    rintro e a3 ⟨rfl, o, hoth⟩
    have TFm := Lib.hid o
    have OTm := Lib.hid (OT.out.trans hoth)
    have HXm := Lib.hid (hoth.2 X _ HX.out rfl rfl)
    clear o hoth TF OT HX
    have TF := TFm
    have OT := OTm
    have HX := HXm
    clear TFm OTm HXm
    have hS2 : a3.heap[X]? = some (.cells #[.bool a.mint, .int .i64 a.t, .int .i64 a.src, .int .i64 a.dst, .int .u64 (uw0 a.m), .int .u64 (uw1 a.m), .int .u64 (uw2 a.m), .int .u64 (uw3 a.m)] 35 (0, 0)) := HX.out
    refine hK _ _ (fun _ _ => hS2) ?_
    clear hK hS
    have hS := hS2
    clear hS2
    refine till_take 16 (some 25) rfl rfl (by kernel_rfl) (by kernel_rfl) (by kernel_rfl) (by kernel_rfl) (by kernel_rfl) (by kernel_rfl) (fun _ _ _ h => h) (.inl ⟨by rfl, fun w' _ => (by go_simp; rfl)⟩) hS ?_
    go_frame
    refine till_take 17 (some 6) rfl rfl (by kernel_rfl) (by kernel_rfl) (by kernel_rfl) (by kernel_rfl) (by kernel_rfl) (by kernel_rfl) (fun _ _ _ h => h) (.inl ⟨by rfl, fun w' _ => (by go_simp; rfl)⟩) hS ?_
    go_frame
    refine till_done (by kernel_rfl) ?_ _
    clear hS
    go_wp2_with fail
    go_ret
    exact ⟨by simp, by rw [HD.out]; exact TF.out, OT.out⟩

set_option maxHeartbeats 16000000 in
set_option maxRecDepth 100000 in
theorem acts17_any {w : World} {v : Value} {l : List Act17} (h1 : Rd w act17E 8 v l) (hgd : ∀ a ∈ l, Good17 w a) :
    Calls Tryz.prog 3 #[v] w (Ret w (.bool true)) := by
  obtain ⟨ad, cap, e1, c1, c1'⟩ := h1.shape
  obtain ⟨n, hn⟩ : ∃ n, n = l.length := ⟨_, rfl⟩
  rw [← hn] at e1 c1
  subst e1
  have H1 := Lib.hid h1; have HN := Lib.hid hn; have HGD := Lib.hid hgd
  clear h1 hn hgd
  by_cases hbig : 150 < n
  · go_enter Tryz.func3, Tryz.ntmps3
    go_wp2_with fail
    refine (lives17_any _).mono ?_
    rintro e w2 ⟨rfl, hb⟩
    have HB := Lib.hid hb
    clear hb
    go_wp2_with fail
    go_ret
    exact ⟨rfl, HB.out⟩
  have P150 : Hid (n ≤ 150) := Lib.hid (by omega)
  have HB : Hid (Below w.heap.size w w) := Lib.hid (Below.refl _ _)
  go_enter Tryz.func3, Tryz.ntmps3
  go_wp2_with fail
  clear hbig
  refine (snew_any _).mono ?_
  rintro e w3 ⟨g, F, rfl, q1, hb3, q3⟩
  have Q1 := Lib.hid q1; have HB3 := Lib.hid (HB.out.trans (hb3.mono HB.out.size)); have Q3 : Hid (∀ x ∈ F, w.heap.size ≤ x) := Lib.hid fun x hx => Nat.le_trans HB.out.size (q3 x hx)
  clear q1 hb3 q3
  go_wp2_with fail
  obtain ⟨w4, hw4⟩ : ∃ w4, w4 = w3.alloc (.cells #[.slice none 0 0, .slice none 0 0] 30) := ⟨_, rfl⟩
  obtain ⟨h, hh⟩ : ∃ h, h = w3.heap.size := ⟨_, rfl⟩
  rw [← hw4, ← hh]
  have TW : Hid (Two w w4 g h PS.new PS.new) := Lib.hid (by
    have hb4 : Below w3.heap.size w3 w4 := by rw [hw4]; exact (Below.refl _ _).alloc (Nat.le_refl _) _
    have hx4 : w4.heap[h]? = some (.cells #[.slice none 0 0, .slice none 0 0] 30 (0, 0)) := by rw [hw4, hh]; exact heap_alloc_new _ _
    have hrs : RS w4 h PS.new (rfoot h (.slice none 0 0) (.slice none 0 0)) := ⟨_, _, ⟨hx4, LO.nil _ _ _ _, LO.nil _ _ _ _, List.Pairwise.nil⟩, rfl⟩
    refine ⟨F, _, Q1.out.later hb4, hrs, Q3.out, fun x hx => ?_, HB3.out.trans (hb4.mono HB3.out.size)⟩
    rw [rfoot_eq] at hx
    rcases hx with e | e | e
    · rw [e, hh]; exact HB3.out.size
    · cases e
    · cases e)
  clear hw4 hh Q1 Q3 HB3
  go_loopw [20] (fun vi wr => ∃ (i : Nat) (s : PS), vi = .int .i64 i ∧ i ≤ n ∧ Hid (s.sz ≤ 4 * i) ∧ Hid (Fit s) ∧ Hid (Two w wr g h s s)) (fun vi _ => n - (intOf vi).toNat)
  case atStart => exact ⟨0, _, rfl, Nat.zero_le _, Lib.hid (Nat.le_refl _), Lib.hid Fit.new, TW⟩
  case round =>
    clear TW
    obtain ⟨i, s, rfl, hin, HZ, HF, TF⟩ := hrel
    by_cases hlt : i < n
    · have hj : i < l.length := by rw [← HN.out]; exact hlt
      obtain ⟨gL, off, rfl, hgL, q0, q1, q2, q3, q4, q5, q6, q7⟩ := Rd.act17 H1.out i hj
      have hbw := TF.out.below
      have q0' := (hbw.cell (p := ⟨gL, off + i * 8, none⟩) hgL).trans q0
      have q1' := (hbw.cell (p := ⟨gL, off + i * 8 + 1, none⟩) hgL).trans q1
      have q2' := (hbw.cell (p := ⟨gL, off + i * 8 + 2, none⟩) hgL).trans q2
      have q3' := (hbw.cell (p := ⟨gL, off + i * 8 + 3, none⟩) hgL).trans q3
      have q4' := (hbw.cell (p := ⟨gL, off + i * 8 + 4, none⟩) hgL).trans q4
      have q5' := (hbw.cell (p := ⟨gL, off + i * 8 + 5, none⟩) hgL).trans q5
      have q6' := (hbw.cell (p := ⟨gL, off + i * 8 + 6, none⟩) hgL).trans q6
      have q7' := (hbw.cell (p := ⟨gL, off + i * 8 + 7, none⟩) hgL).trans q7
      have hmem : l[i] ∈ l := List.getElem_mem hj
      obtain ⟨a, ha⟩ : ∃ a, a = l[i] := ⟨_, rfl⟩
      rw [← ha] at hmem q0' q1' q2' q3' q4' q5' q6' q7'
      have HJL := Lib.hid hlt; have HGX := Lib.hid (HGD.out a hmem)
      have HI : Hid (i ≤ 150) := Lib.hid (by have := P150.out; omega)
      have HU := Lib.hid TF.out.up
      obtain ⟨s2, hs2⟩ : ∃ z, z = do17 s a := ⟨_, rfl⟩
      have HS2 := Lib.hid hs2
      have HZ2 : Hid (s2.sz ≤ 4 * (i + 1)) := Lib.hid (by have h7 := do17_sz HU.out a; have h8 := HZ.out; rw [hs2]; omega)
      have HF2 : Hid (Fit s2) := Lib.hid (by rw [hs2]; exact do17_fit HF.out HU.out a)
      clear ha q0 q1 q2 q3 q4 q5 q6 q7 hgL hj hmem hbw hs2 hin
      go_wp2_with (refine wpList_alloc_g rfl _ rfl _ _ Tryz.zeroAct17 rfl ?_)
      intro R d1 hR
      have WR : Hid (w.heap.size ≤ R) := Lib.hid (by rw [hR.out.eq]; exact (TF.out.below).size)
      have HRz := Lib.hid hR.out.cells; have hbR := hR.out.below
      clear hR
      have TFm := Lib.hid (TF.out.later hbR)
      clear hbR TF
      have TF := TFm
      clear TFm
      have HR := HRz
      clear HRz
      go_wp2_with (refine wpList_store_row_g (t := 35) (old := #[.bool false, .int .i64 0, .int .i64 0, .int .i64 0, .int .u64 0, .int .u64 0, .int .u64 0, .int .u64 0]) rfl 35 _ _ rfl R #[.bool a.mint, .int .i64 a.t, .int .i64 a.src, .int .i64 a.dst, .int .u64 (uw0 a.m), .int .u64 (uw1 a.m), .int .u64 (uw2 a.m), .int .u64 (uw3 a.m)] rfl rfl HR.out Tryz.sizeAct17 rfl (by simp [Value.oneCell']) ?_)
      intro d2 hxR kR zR
      clear zR
      have TFm := Lib.hid (two_cells TF.out HR.out rfl rfl kR WR.out)
      have HRm := Lib.hid hxR
      clear hxR kR TF HR
      have TF := TFm
      have HR := HRm
      clear TFm HRm
      clear q0' q1' q2' q3' q4' q5' q6' q7' hlt
      have hi150 : i ≤ 150 := HI.out
      go_wp2_with fail
      obtain ⟨d3, hwz⟩ : ∃ wz, wz = d2.drew := ⟨_, rfl⟩
      have hbz : Below d2.heap.size d2 d3 := by rw [hwz]; exact (Below.refl _ _).drew
      have TFm := Lib.hid (TF.out.later hbz)
      have HRm := Lib.hid (below_at' hbz HR.out)
      clear hbz TF HR
      have TF := TFm
      have HR := HRm
      clear TFm HRm
      have hS : d3.heap[R]? = some (.cells #[.bool a.mint, .int .i64 a.t, .int .i64 a.src, .int .i64 a.dst, .int .u64 (uw0 a.m), .int .u64 (uw1 a.m), .int .u64 (uw2 a.m), .int .u64 (uw3 a.m)] 35 (0, 0)) := HR.out
      refine wp_region_till (fun w' => w'.heap[R]? = some (.cells #[.bool a.mint, .int .i64 a.t, .int .i64 a.src, .int .i64 a.dst, .int .u64 (uw0 a.m), .int .u64 (uw1 a.m), .int .u64 (uw2 a.m), .int .u64 (uw3 a.m)] 35 (0, 0))) 20 20 (by kernel_rfl) rfl ?_
      rw [← hwz]
      clear hwz
      refine till_take 0 (some 24) rfl rfl (by kernel_rfl) (by kernel_rfl) (by kernel_rfl) (by kernel_rfl) (by kernel_rfl) (by kernel_rfl) (fun _ _ _ h => h) (.inl ⟨by rfl, fun w' _ => (by go_simp; rfl)⟩) hS ?_
      go_frame
      refine till_take 1 (some 25) rfl rfl (by kernel_rfl) (by kernel_rfl) (by kernel_rfl) (by kernel_rfl) (by kernel_rfl) (by kernel_rfl) (fun _ _ _ h => h) (.inl ⟨by rfl, fun w' _ => (by go_simp; rfl)⟩) hS ?_
      go_frame
      refine till_take 2 (some 26) rfl rfl (by kernel_rfl) (by kernel_rfl) (by kernel_rfl) (by kernel_rfl) (by kernel_rfl) (by kernel_rfl) (fun _ _ _ h => h) (yields_load (by rfl) 35 _ rfl (.pointer (some ⟨R, 0, none⟩)) rfl (.agg #[.bool a.mint, .int .i64 a.t, .int .i64 a.src, .int .i64 a.dst, .int .u64 (uw0 a.m), .int .u64 (uw1 a.m), .int .u64 (uw2 a.m), .int .u64 (uw3 a.m)]) (fun w' hS' => load_heap (hS') Tryz.underlying35 rfl Tryz.sizeAct17)) hS ?_
      go_frame
      refine till_one 3 rfl (by kernel_rfl) fun K hK => ?_
      simp only [List.getElem_toArray, List.getElem_cons_succ, List.getElem_cons_zero]
      rw [if_pos (by rfl)]
      go_simp
      refine (act17_any TF.out (by have := HZ.out; have := HI.out; omega) HF.out (a := a) (HGX.out.later (TF.out.below))).mono ?_
      rw [← HS2.out]
      rintro e d4 ⟨rfl, o, hoth⟩
      have TFm := Lib.hid o
      have HRm := Lib.hid (hoth.2 R _ HR.out rfl rfl)
      clear o hoth TF HR
      have TF := TFm
      have HR := HRm
      clear TFm HRm
      have hS2 : d4.heap[R]? = some (.cells #[.bool a.mint, .int .i64 a.t, .int .i64 a.src, .int .i64 a.dst, .int .u64 (uw0 a.m), .int .u64 (uw1 a.m), .int .u64 (uw2 a.m), .int .u64 (uw3 a.m)] 35 (0, 0)) := HR.out
      refine hK _ _ (fun _ _ => hS2) ?_
      clear hK hS
      have hS := hS2
      clear hS2
      refine till_take 4 (some 28) rfl rfl (by kernel_rfl) (by kernel_rfl) (by kernel_rfl) (by kernel_rfl) (by kernel_rfl) (by kernel_rfl) (fun _ _ _ h => h) (.inl ⟨by rfl, fun w' _ => (by go_simp; rfl)⟩) hS ?_
      go_frame
      refine till_take 5 (some 29) rfl rfl (by kernel_rfl) (by kernel_rfl) (by kernel_rfl) (by kernel_rfl) (by kernel_rfl) (by kernel_rfl) (fun _ _ _ h => h) (.inl ⟨by rfl, fun w' _ => (by go_simp; rfl)⟩) hS ?_
      go_frame
      refine till_take 6 (some 30) rfl rfl (by kernel_rfl) (by kernel_rfl) (by kernel_rfl) (by kernel_rfl) (by kernel_rfl) (by kernel_rfl) (fun _ _ _ h => h) (.inl ⟨by rfl, fun w' _ => (by go_simp; rfl)⟩) hS ?_
      go_frame
      refine till_take 7 (some 31) rfl rfl (by kernel_rfl) (by kernel_rfl) (by kernel_rfl) (by kernel_rfl) (by kernel_rfl) (by kernel_rfl) (fun _ _ _ h => h) (.inl ⟨by rfl, fun w' _ => (by go_simp; rfl)⟩) hS ?_
      go_frame
      refine till_take 8 (some 32) rfl rfl (by kernel_rfl) (by kernel_rfl) (by kernel_rfl) (by kernel_rfl) (by kernel_rfl) (by kernel_rfl) (fun _ _ _ h => h) (.inl ⟨by rfl, fun w' hS' => (by have hc : w'.cell? ⟨R, 1, none⟩ = some (.int .i64 a.t) := Lib.cell_of_heap (hS') 1; go_simp; rfl)⟩) hS ?_
      go_frame
      refine till_take 9 (some 33) rfl rfl (by kernel_rfl) (by kernel_rfl) (by kernel_rfl) (by kernel_rfl) (by kernel_rfl) (by kernel_rfl) (fun _ _ _ h => h) (.inl ⟨by rfl, fun w' _ => (by go_simp; rfl)⟩) hS ?_
      go_frame
      refine till_take 10 (some 34) rfl rfl (by kernel_rfl) (by kernel_rfl) (by kernel_rfl) (by kernel_rfl) (by kernel_rfl) (by kernel_rfl) (fun _ _ _ h => h) (.inl ⟨by rfl, fun w' hS' => (by have hc : w'.cell? ⟨R, 3, none⟩ = some (.int .i64 a.dst) := Lib.cell_of_heap (hS') 3; go_simp; rfl)⟩) hS ?_
      go_frame
      refine till_take 12 (some 36) rfl rfl (by kernel_rfl) (by kernel_rfl) (by kernel_rfl) (by kernel_rfl) (by kernel_rfl) (by kernel_rfl) (fun _ _ _ h => h) (.inl ⟨by rfl, fun w' _ => (by go_simp; rfl)⟩) hS ?_
      go_frame
      refine till_take 13 (some 37) rfl rfl (by kernel_rfl) (by kernel_rfl) (by kernel_rfl) (by kernel_rfl) (by kernel_rfl) (by kernel_rfl) (fun _ _ _ h => h) (.inl ⟨by rfl, fun w' _ => (by go_simp; rfl)⟩) hS ?_
      go_frame
      refine till_take 14 (some 38) rfl rfl (by kernel_rfl) (by kernel_rfl) (by kernel_rfl) (by kernel_rfl) (by kernel_rfl) (by kernel_rfl) (fun _ _ _ h => h) (.inl ⟨by rfl, fun w' hS' => (by have hc : w'.cell? ⟨R, 1, none⟩ = some (.int .i64 a.t) := Lib.cell_of_heap (hS') 1; go_simp; rfl)⟩) hS ?_
      go_frame
      refine till_take 15 (some 39) rfl rfl (by kernel_rfl) (by kernel_rfl) (by kernel_rfl) (by kernel_rfl) (by kernel_rfl) (by kernel_rfl) (fun _ _ _ h => h) (.inl ⟨by rfl, fun w' _ => (by go_simp; rfl)⟩) hS ?_
      go_frame
      refine till_take 16 (some 40) rfl rfl (by kernel_rfl) (by kernel_rfl) (by kernel_rfl) (by kernel_rfl) (by kernel_rfl) (by kernel_rfl) (fun _ _ _ h => h) (.inl ⟨by rfl, fun w' hS' => (by have hc : w'.cell? ⟨R, 3, none⟩ = some (.int .i64 a.dst) := Lib.cell_of_heap (hS') 3; go_simp; rfl)⟩) hS ?_
      go_frame
      refine till_one 11 rfl (by kernel_rfl) fun K hK => ?_
      simp only [List.getElem_toArray, List.getElem_cons_succ, List.getElem_cons_zero]
      rw [if_pos (by rfl)]
      go_simp
      obtain ⟨F9, h9⟩ := TF.out.get1
      refine (balance_any (Look.of_st h9) HF2.out.f HGX.out.b_t HGX.out.b_dst).mono ?_
      rintro e d5 ⟨xa, xb, xc, xd, hu, rfl, hb⟩
      have HXU := Lib.hid hu
      clear hu h9
      have TFm := Lib.hid (TF.out.later hb)
      have HRm := Lib.hid (below_at' hb HR.out)
      clear hb TF HR
      have TF := TFm
      have HR := HRm
      clear TFm HRm
      have hS2 : d5.heap[R]? = some (.cells #[.bool a.mint, .int .i64 a.t, .int .i64 a.src, .int .i64 a.dst, .int .u64 (uw0 a.m), .int .u64 (uw1 a.m), .int .u64 (uw2 a.m), .int .u64 (uw3 a.m)] 35 (0, 0)) := HR.out
      refine hK _ _ (fun _ _ => hS2) ?_
      clear hK hS
      have hS := hS2
      clear hS2
      refine till_one 17 rfl (by kernel_rfl) fun K hK => ?_
      simp only [List.getElem_toArray, List.getElem_cons_succ, List.getElem_cons_zero]
      rw [if_pos (by rfl)]
      go_simp
      obtain ⟨F9, h9⟩ := TF.out.get2
      refine (rbalance_any h9 (by have := HZ2.out; have := HI.out; omega) HF2.out HGX.out.b_t HGX.out.b_dst).mono ?_
      rintro e d6 ⟨ya, yb, yc, yd, hu, rfl, hb⟩
      have HYU := Lib.hid hu
      clear hu h9
      have e7 := Tryz.eqUn HXU.out HYU.out
      rw [decide_eq_true rfl] at e7
      have TFm := Lib.hid (TF.out.later hb)
      have HRm := Lib.hid (below_at' hb HR.out)
      clear hb TF HR
      have TF := TFm
      have HR := HRm
      clear TFm HRm
      have hS2 : d6.heap[R]? = some (.cells #[.bool a.mint, .int .i64 a.t, .int .i64 a.src, .int .i64 a.dst, .int .u64 (uw0 a.m), .int .u64 (uw1 a.m), .int .u64 (uw2 a.m), .int .u64 (uw3 a.m)] 35 (0, 0)) := HR.out
      refine hK _ _ (fun _ _ => hS2) ?_
      clear hK hS
      have hS := hS2
      clear hS2
      refine till_take 18 (some 42) rfl rfl (by kernel_rfl) (by kernel_rfl) (by kernel_rfl) (by kernel_rfl) (by kernel_rfl) (by kernel_rfl) (fun _ _ _ h => h) (.inl ⟨by rfl, fun w' _ => (by go_simp; rfl)⟩) hS ?_
      go_frame
      refine till_take 19 (some 43) rfl rfl (by kernel_rfl) (by kernel_rfl) (by kernel_rfl) (by kernel_rfl) (by kernel_rfl) (by kernel_rfl) (fun _ _ _ h => h) (.inl ⟨by rfl, fun w' _ => (by go_simp; rfl)⟩) hS ?_
      go_frame
      refine till_done (by kernel_rfl) ?_ _
      clear hS
      clear e7 HXU HYU
      have c1 : d6.cell? ⟨R, 1, none⟩ = some (.int .i64 a.t) := Lib.cell_of_heap HR.out 1
      go_wp2_with fail
      clear c1
      obtain ⟨F9, h9⟩ := TF.out.get1
      have hT9 : ∀ b, (underP s2.t b).length < 1099511627776 := fun b => Nat.lt_of_le_of_lt (List.length_filter_le _ _) (by have h7 := HZ2.out; have h8 := HI.out; unfold PS.sz at h7; omega)
      have hV9 : ∀ b, ∀ p ∈ underP s2.t b, p.2.length ≤ 1000000 := fun b p hp => HF2.out p (List.mem_filter.1 hp).1
      have HT9 := Lib.hid hT9; have HV9 := Lib.hid hV9
      clear hT9 hV9
      obtain ⟨tq, htq⟩ : ∃ z, z = totB (underP s2.t) a.t := ⟨_, rfl⟩
      have HTQ := Lib.hid htq
      clear htq
      refine (total_any (UndB.st h9 (by have h7 := HZ2.out; have h8 := HI.out; unfold PS.sz at h7; omega)) HT9.out HV9.out HGX.out.b_t).mono ?_
      rw [← HTQ.out]
      rintro e d7 ⟨xa, xb, xc, xd, hu, rfl, hb⟩
      have HXU := Lib.hid hu
      clear hu h9
      have TFm := Lib.hid (TF.out.later hb)
      have HRm := Lib.hid (below_at' hb HR.out)
      clear hb TF HR
      have TF := TFm
      have HR := HRm
      clear TFm HRm
      go_wp2_with (refine wpList_alloc_g rfl _ rfl _ _ Tryz.zeroUz rfl ?_)
      intro P d8 hP
      have WP : Hid (w.heap.size ≤ P) := Lib.hid (by rw [hP.out.eq]; exact (TF.out.below).size)
      have NRP : Hid (R ≠ P) := Lib.hid (by have := hP.out.eq; have := heap_lt HR.out; omega)
      have HPz := Lib.hid hP.out.cells; have hbP := hP.out.below
      clear hP
      have TFm := Lib.hid (TF.out.later hbP)
      have HRm := Lib.hid (below_at' hbP HR.out)
      clear hbP TF HR
      have TF := TFm
      have HR := HRm
      clear TFm HRm
      have HP := HPz
      clear HPz
      go_wp2_with (refine wpList_store_row_g (t := 33) (old := u0) rfl 33 _ _ rfl P #[.int .u64 xa, .int .u64 xb, .int .u64 xc, .int .u64 xd] rfl rfl HP.out Tryz.sizeU rfl (one_u64 _ _ _ _) ?_)
      intro d9 hxP kP zP
      clear zP
      have TFm := Lib.hid (two_cells TF.out HP.out rfl rfl kP WP.out)
      have HRm := Lib.hid (kP.at HR.out NRP.out)
      have HPm := Lib.hid hxP
      clear hxP kP TF HR HP
      have TF := TFm
      have HR := HRm
      have HP := HPm
      clear TFm HRm HPm
      have c1 : d9.cell? ⟨R, 1, none⟩ = some (.int .i64 a.t) := Lib.cell_of_heap HR.out 1
      go_wp2_with fail
      clear c1
      obtain ⟨F9, h9⟩ := TF.out.get2
      refine (rtotal_any (RUndB.rs h9 (by have h7 := HZ2.out; have h8 := HI.out; unfold PS.sz at h7; omega)) HT9.out HV9.out HGX.out.b_t).mono ?_
      rw [← HTQ.out]
      rintro e d10 ⟨ya, yb, yc, yd, hu, rfl, hb⟩
      have HYU := Lib.hid hu
      clear hu h9
      have TFm := Lib.hid (TF.out.later hb)
      have HRm := Lib.hid (below_at' hb HR.out)
      have HPm := Lib.hid (below_at' hb HP.out)
      clear hb TF HR HP
      have TF := TFm
      have HR := HRm
      have HP := HPm
      clear TFm HRm HPm
      go_wp2_with (refine wpList_alloc_g rfl _ rfl _ _ Tryz.zeroUz rfl ?_)
      intro Q d11 hQ
      have WQ : Hid (w.heap.size ≤ Q) := Lib.hid (by rw [hQ.out.eq]; exact (TF.out.below).size)
      have NRQ : Hid (R ≠ Q) := Lib.hid (by have := hQ.out.eq; have := heap_lt HR.out; omega)
      have NPQ : Hid (P ≠ Q) := Lib.hid (by have := hQ.out.eq; have := heap_lt HP.out; omega)
      have HQz := Lib.hid hQ.out.cells; have hbQ := hQ.out.below
      clear hQ
      have TFm := Lib.hid (TF.out.later hbQ)
      have HRm := Lib.hid (below_at' hbQ HR.out)
      have HPm := Lib.hid (below_at' hbQ HP.out)
      clear hbQ TF HR HP
      have TF := TFm
      have HR := HRm
      have HP := HPm
      clear TFm HRm HPm
      have HQ := HQz
      clear HQz
      go_wp2_with (refine wpList_store_row_g (t := 33) (old := u0) rfl 33 _ _ rfl Q #[.int .u64 ya, .int .u64 yb, .int .u64 yc, .int .u64 yd] rfl rfl HQ.out Tryz.sizeU rfl (one_u64 _ _ _ _) ?_)
      intro d12 hxQ kQ zQ
      clear zQ
      have TFm := Lib.hid (two_cells TF.out HQ.out rfl rfl kQ WQ.out)
      have HRm := Lib.hid (kQ.at HR.out NRQ.out)
      have HPm := Lib.hid (kQ.at HP.out NPQ.out)
      have HQm := Lib.hid hxQ
      clear hxQ kQ TF HR HP HQ
      have TF := TFm
      have HR := HRm
      have HP := HPm
      have HQ := HQm
      clear TFm HRm HPm HQm
      have e7 := Tryz.eqUn HXU.out HYU.out
      rw [decide_eq_true rfl] at e7
      obtain ⟨gb, hgb⟩ : ∃ z, z = goodB a.t a.dst := ⟨_, rfl⟩
      have HGB := Lib.hid hgb
      clear hgb
      have e8 : (tq != tq) = false := by simp
      have e9 : (gb != gb) = false := by simp
      go_wp2_with fail
      obtain ⟨d13, hwz⟩ : ∃ wz, wz = d12.drew := ⟨_, rfl⟩
      have hbz : Below d12.heap.size d12 d13 := by rw [hwz]; exact (Below.refl _ _).drew
      have TFm := Lib.hid (TF.out.later hbz)
      have HRm := Lib.hid (below_at' hbz HR.out)
      have HPm := Lib.hid (below_at' hbz HP.out)
      have HQm := Lib.hid (below_at' hbz HQ.out)
      clear hbz TF HR HP HQ
      have TF := TFm
      have HR := HRm
      have HP := HPm
      have HQ := HQm
      clear TFm HRm HPm HQm
      have hS : d13.heap[R]? = some (.cells #[.bool a.mint, .int .i64 a.t, .int .i64 a.src, .int .i64 a.dst, .int .u64 (uw0 a.m), .int .u64 (uw1 a.m), .int .u64 (uw2 a.m), .int .u64 (uw3 a.m)] 35 (0, 0)) ∧ d13.heap[P]? = some (.cells #[.int .u64 xa, .int .u64 xb, .int .u64 xc, .int .u64 xd] 33 (0, 0)) ∧ d13.heap[Q]? = some (.cells #[.int .u64 ya, .int .u64 yb, .int .u64 yc, .int .u64 yd] 33 (0, 0)) := ⟨HR.out, HP.out, HQ.out⟩
      refine wp_region_till (fun w' => w'.heap[R]? = some (.cells #[.bool a.mint, .int .i64 a.t, .int .i64 a.src, .int .i64 a.dst, .int .u64 (uw0 a.m), .int .u64 (uw1 a.m), .int .u64 (uw2 a.m), .int .u64 (uw3 a.m)] 35 (0, 0)) ∧ w'.heap[P]? = some (.cells #[.int .u64 xa, .int .u64 xb, .int .u64 xc, .int .u64 xd] 33 (0, 0)) ∧ w'.heap[Q]? = some (.cells #[.int .u64 ya, .int .u64 yb, .int .u64 yc, .int .u64 yd] 33 (0, 0))) 21 21 (by kernel_rfl) rfl ?_
      rw [← hwz]
      clear hwz
      refine till_take 0 (some 58) rfl rfl (by kernel_rfl) (by kernel_rfl) (by kernel_rfl) (by kernel_rfl) (by kernel_rfl) (by kernel_rfl) (fun _ _ _ h => h) (yields_load (by rfl) 33 _ rfl (.pointer (some ⟨P, 0, none⟩)) rfl (.agg #[.int .u64 xa, .int .u64 xb, .int .u64 xc, .int .u64 xd]) (fun w' hS' => load_heap (hS'.2.1) Tryz.underlying33 rfl Tryz.sizeU)) hS ?_
      go_frame
      refine till_take 1 (some 59) rfl rfl (by kernel_rfl) (by kernel_rfl) (by kernel_rfl) (by kernel_rfl) (by kernel_rfl) (by kernel_rfl) (fun _ _ _ h => h) (yields_load (by rfl) 33 _ rfl (.pointer (some ⟨Q, 0, none⟩)) rfl (.agg #[.int .u64 ya, .int .u64 yb, .int .u64 yc, .int .u64 yd]) (fun w' hS' => load_heap (hS'.2.2) Tryz.underlying33 rfl Tryz.sizeU)) hS ?_
      go_frame
      refine till_take 2 (some 60) rfl rfl (by kernel_rfl) (by kernel_rfl) (by kernel_rfl) (by kernel_rfl) (by kernel_rfl) (by kernel_rfl) (fun _ _ _ h => h) (.inl ⟨by rfl, fun w' _ => (by go_simp; rfl)⟩) hS ?_
      go_frame
      refine till_take 3 (some 61) rfl rfl (by kernel_rfl) (by kernel_rfl) (by kernel_rfl) (by kernel_rfl) (by kernel_rfl) (by kernel_rfl) (fun _ _ _ h => h) (.inl ⟨by rfl, fun w' _ => (by go_simp; rfl)⟩) hS ?_
      go_frame
      refine till_take 4 (some 62) rfl rfl (by kernel_rfl) (by kernel_rfl) (by kernel_rfl) (by kernel_rfl) (by kernel_rfl) (by kernel_rfl) (fun _ _ _ h => h) (.inl ⟨by rfl, fun w' _ => (by go_simp; rfl)⟩) hS ?_
      go_frame
      refine till_take 5 (some 63) rfl rfl (by kernel_rfl) (by kernel_rfl) (by kernel_rfl) (by kernel_rfl) (by kernel_rfl) (by kernel_rfl) (fun _ _ _ h => h) (.inl ⟨by rfl, fun w' _ => (by go_simp; rfl)⟩) hS ?_
      go_frame
      refine till_take 6 (some 64) rfl rfl (by kernel_rfl) (by kernel_rfl) (by kernel_rfl) (by kernel_rfl) (by kernel_rfl) (by kernel_rfl) (fun _ _ _ h => h) (.inl ⟨by rfl, fun w' _ => (by go_simp; rfl)⟩) hS ?_
      go_frame
      refine till_take 7 (some 65) rfl rfl (by kernel_rfl) (by kernel_rfl) (by kernel_rfl) (by kernel_rfl) (by kernel_rfl) (by kernel_rfl) (fun _ _ _ h => h) (.inl ⟨by rfl, fun w' _ => (by go_simp; rfl)⟩) hS ?_
      go_frame
      refine till_take 8 (some 66) rfl rfl (by kernel_rfl) (by kernel_rfl) (by kernel_rfl) (by kernel_rfl) (by kernel_rfl) (by kernel_rfl) (fun _ _ _ h => h) (.inl ⟨by rfl, fun w' _ => (by go_simp; rfl)⟩) hS ?_
      go_frame
      refine till_take 9 (some 67) rfl rfl (by kernel_rfl) (by kernel_rfl) (by kernel_rfl) (by kernel_rfl) (by kernel_rfl) (by kernel_rfl) (fun _ _ _ h => h) (.inl ⟨by rfl, fun w' _ => (by go_simp; rfl)⟩) hS ?_
      go_frame
      refine till_take 10 (some 68) rfl rfl (by kernel_rfl) (by kernel_rfl) (by kernel_rfl) (by kernel_rfl) (by kernel_rfl) (by kernel_rfl) (fun _ _ _ h => h) (.inl ⟨by rfl, fun w' hS' => (by have hc : w'.cell? ⟨R, 1, none⟩ = some (.int .i64 a.t) := Lib.cell_of_heap (hS'.1) 1; go_simp; rfl)⟩) hS ?_
      go_frame
      refine till_take 11 (some 69) rfl rfl (by kernel_rfl) (by kernel_rfl) (by kernel_rfl) (by kernel_rfl) (by kernel_rfl) (by kernel_rfl) (fun _ _ _ h => h) (.inl ⟨by rfl, fun w' _ => (by go_simp; rfl)⟩) hS ?_
      go_frame
      refine till_take 12 (some 70) rfl rfl (by kernel_rfl) (by kernel_rfl) (by kernel_rfl) (by kernel_rfl) (by kernel_rfl) (by kernel_rfl) (fun _ _ _ h => h) (.inl ⟨by rfl, fun w' hS' => (by have hc : w'.cell? ⟨R, 3, none⟩ = some (.int .i64 a.dst) := Lib.cell_of_heap (hS'.1) 3; go_simp; rfl)⟩) hS ?_
      go_frame
      refine till_take 14 (some 72) rfl rfl (by kernel_rfl) (by kernel_rfl) (by kernel_rfl) (by kernel_rfl) (by kernel_rfl) (by kernel_rfl) (fun _ _ _ h => h) (.inl ⟨by rfl, fun w' _ => (by go_simp; rfl)⟩) hS ?_
      go_frame
      refine till_take 15 (some 73) rfl rfl (by kernel_rfl) (by kernel_rfl) (by kernel_rfl) (by kernel_rfl) (by kernel_rfl) (by kernel_rfl) (fun _ _ _ h => h) (.inl ⟨by rfl, fun w' hS' => (by have hc : w'.cell? ⟨R, 1, none⟩ = some (.int .i64 a.t) := Lib.cell_of_heap (hS'.1) 1; go_simp; rfl)⟩) hS ?_
      go_frame
      refine till_take 16 (some 74) rfl rfl (by kernel_rfl) (by kernel_rfl) (by kernel_rfl) (by kernel_rfl) (by kernel_rfl) (by kernel_rfl) (fun _ _ _ h => h) (.inl ⟨by rfl, fun w' _ => (by go_simp; rfl)⟩) hS ?_
      go_frame
      refine till_take 17 (some 75) rfl rfl (by kernel_rfl) (by kernel_rfl) (by kernel_rfl) (by kernel_rfl) (by kernel_rfl) (by kernel_rfl) (fun _ _ _ h => h) (.inl ⟨by rfl, fun w' hS' => (by have hc : w'.cell? ⟨R, 3, none⟩ = some (.int .i64 a.dst) := Lib.cell_of_heap (hS'.1) 3; go_simp; rfl)⟩) hS ?_
      go_frame
      refine till_one 13 rfl (by kernel_rfl) fun K hK => ?_
      simp only [List.getElem_toArray, List.getElem_cons_succ, List.getElem_cons_zero]
      rw [if_pos (by rfl)]
      go_simp
      refine (bgood_any a.t a.dst _).mono ?_
      rw [← HGB.out]
      rintro e _ ⟨rfl, rfl⟩
      have hS2 : d13.heap[R]? = some (.cells #[.bool a.mint, .int .i64 a.t, .int .i64 a.src, .int .i64 a.dst, .int .u64 (uw0 a.m), .int .u64 (uw1 a.m), .int .u64 (uw2 a.m), .int .u64 (uw3 a.m)] 35 (0, 0)) ∧ d13.heap[P]? = some (.cells #[.int .u64 xa, .int .u64 xb, .int .u64 xc, .int .u64 xd] 33 (0, 0)) ∧ d13.heap[Q]? = some (.cells #[.int .u64 ya, .int .u64 yb, .int .u64 yc, .int .u64 yd] 33 (0, 0)) := ⟨HR.out, HP.out, HQ.out⟩
      refine hK _ _ (fun _ _ => hS2) ?_
      clear hK hS
      have hS := hS2
      clear hS2
      refine till_one 18 rfl (by kernel_rfl) fun K hK => ?_
      simp only [List.getElem_toArray, List.getElem_cons_succ, List.getElem_cons_zero]
      rw [if_pos (by rfl)]
      go_simp
      refine (rgood_any a.t a.dst _).mono ?_
      rw [← HGB.out]
      rintro e _ ⟨rfl, rfl⟩
      have hS2 : d13.heap[R]? = some (.cells #[.bool a.mint, .int .i64 a.t, .int .i64 a.src, .int .i64 a.dst, .int .u64 (uw0 a.m), .int .u64 (uw1 a.m), .int .u64 (uw2 a.m), .int .u64 (uw3 a.m)] 35 (0, 0)) ∧ d13.heap[P]? = some (.cells #[.int .u64 xa, .int .u64 xb, .int .u64 xc, .int .u64 xd] 33 (0, 0)) ∧ d13.heap[Q]? = some (.cells #[.int .u64 ya, .int .u64 yb, .int .u64 yc, .int .u64 yd] 33 (0, 0)) := ⟨HR.out, HP.out, HQ.out⟩
      refine hK _ _ (fun _ _ => hS2) ?_
      clear hK hS
      have hS := hS2
      clear hS2
      refine till_take 19 (some 77) rfl rfl (by kernel_rfl) (by kernel_rfl) (by kernel_rfl) (by kernel_rfl) (by kernel_rfl) (by kernel_rfl) (fun _ _ _ h => h) (.inl ⟨by rfl, fun w' _ => (by go_simp; rfl)⟩) hS ?_
      go_frame
      refine till_take 20 (some 78) rfl rfl (by kernel_rfl) (by kernel_rfl) (by kernel_rfl) (by kernel_rfl) (by kernel_rfl) (by kernel_rfl) (fun _ _ _ h => h) (.inl ⟨by rfl, fun w' _ => (by go_simp; rfl)⟩) hS ?_
      go_frame
      refine till_done (by kernel_rfl) ?_ _
      clear hS
      clear e7 e8 e9
      go_wp2_with fail
      go_roundw
      case rel => exact ⟨i + 1, s2, by go_num, HJL.out, HZ2, HF2, TF⟩
      case measure => have := HJL.out; simp [intOf]; omega
    · obtain rfl : i = n := by omega
      have HSZ : Hid (s.t.length < 1099511627776) := Lib.hid (by
        have h9 := HZ.out; have h8 := P150.out
        unfold PS.sz at h9
        omega)
      obtain ⟨_, _, p1, p2, _, _, _⟩ := TF.out
      obtain ⟨vL, vP, hra, _⟩ := p2
      have P1 := Lib.hid p1; have HRA := Lib.hid hra
      have hS : wr.drew.cell? ⟨h, 0, none⟩ = some vL := Lib.cell_of_heap hra.head 0
      have hbd : Below wr.heap.size wr wr.drew := Below.drew (Below.refl _ _)
      clear p1 hra
      go_wp2_with fail
      clear hlt
      refine wp_region_till (fun w' => w'.cell? ⟨h, 0, none⟩ = some vL) 11 11 (by kernel_rfl) rfl ?_
      refine till_take 0 (some 80) rfl rfl (by kernel_rfl) (by kernel_rfl) (by kernel_rfl) (by kernel_rfl) (by kernel_rfl) (by kernel_rfl) (fun _ _ _ h => h) (.inl ⟨by rfl, fun w' _ => (by go_simp; rfl)⟩) hS ?_
      go_frame
      refine till_take 2 (some 82) rfl rfl (by kernel_rfl) (by kernel_rfl) (by kernel_rfl) (by kernel_rfl) (by kernel_rfl) (by kernel_rfl) (fun _ _ _ h => h) (.inl ⟨by rfl, fun w' _ => (by go_simp; rfl)⟩) hS ?_
      go_frame
      refine till_take 3 (some 83) rfl rfl (by kernel_rfl) (by kernel_rfl) (by kernel_rfl) (by kernel_rfl) (by kernel_rfl) (by kernel_rfl) (fun _ _ _ h => h) (.inl ⟨by rfl, fun w' _ => (by go_simp; rfl)⟩) hS ?_
      go_frame
      refine till_take 4 (some 84) rfl rfl (by kernel_rfl) (by kernel_rfl) (by kernel_rfl) (by kernel_rfl) (by kernel_rfl) (by kernel_rfl) (fun _ _ _ h => h) (.inl ⟨by rfl, fun w' _ => (by go_simp; rfl)⟩) hS ?_
      go_frame
      refine till_take 5 (some 85) rfl rfl (by kernel_rfl) (by kernel_rfl) (by kernel_rfl) (by kernel_rfl) (by kernel_rfl) (by kernel_rfl) (fun _ _ _ h => h) (.inl ⟨by rfl, fun w' hS' => (by have hc1 := hS'; go_simp; rfl)⟩) hS ?_
      go_frame
      refine till_one 1 rfl (by kernel_rfl) fun K hK => ?_
      simp only [List.getElem_toArray, List.getElem_cons_succ, List.getElem_cons_zero]
      rw [if_pos (by rfl)]
      go_simp
      refine (sall_any (P1.out.later hbd) HSZ.out).mono ?_
      rintro e wC ⟨vC, rfl, hlC, hbC, _⟩
      have hbx : Below wr.heap.size wr wC := hbd.trans (hbC.mono hbd.size)
      have hS2 : wC.cell? ⟨h, 0, none⟩ = some vL := Lib.cell_of_heap (below_at' hbx HRA.out.head) 0
      refine hK _ _ (fun _ _ => hS2) ?_
      clear hK hS hbd hbC
      have hS := hS2
      have hbd := hbx
      clear hS2 hbx
      refine till_one 6 rfl (by kernel_rfl) fun K hK => ?_
      simp only [List.getElem_toArray, List.getElem_cons_succ, List.getElem_cons_zero]
      rw [if_pos (by rfl)]
      go_simp
      have hsm := rsame_any (hlC.rd pairE_len) ((HRA.out.list.later hbd).rd pairE_len) HSZ.out HSZ.out
      rw [decide_eq_true rfl] at hsm
      refine hsm.mono ?_
      rintro e wD ⟨rfl, hbD⟩
      clear hsm hlC
      have hbx : Below wr.heap.size wr wD := hbd.trans (hbD.mono hbd.size)
      have hS2 : wD.cell? ⟨h, 0, none⟩ = some vL := Lib.cell_of_heap (below_at' hbx HRA.out.head) 0
      refine hK _ _ (fun _ _ => hS2) ?_
      clear hK hS hbd hbD
      have hS := hS2
      have hbd := hbx
      clear hS2 hbx
      refine till_take 7 (some 87) rfl rfl (by kernel_rfl) (by kernel_rfl) (by kernel_rfl) (by kernel_rfl) (by kernel_rfl) (by kernel_rfl) (fun _ _ _ h => h) (.inl ⟨by rfl, fun w' _ => (by go_simp; rfl)⟩) hS ?_
      go_frame
      refine till_one 8 rfl (by kernel_rfl) fun K hK => ?_
      simp only [List.getElem_toArray, List.getElem_cons_succ, List.getElem_cons_zero]
      rw [if_pos (by rfl)]
      go_simp
      refine (lives17_any _).mono ?_
      rintro e wE ⟨rfl, hbE⟩
      have hbx : Below wr.heap.size wr wE := hbd.trans (hbE.mono hbd.size)
      have hS2 : wE.cell? ⟨h, 0, none⟩ = some vL := Lib.cell_of_heap (below_at' hbx HRA.out.head) 0
      refine hK _ _ (fun _ _ => hS2) ?_
      clear hK hS hbd hbE
      have hS := hS2
      have hbd := hbx
      clear hS2 hbx
      refine till_take 9 (some 89) rfl rfl (by kernel_rfl) (by kernel_rfl) (by kernel_rfl) (by kernel_rfl) (by kernel_rfl) (by kernel_rfl) (fun _ _ _ h => h) (.inl ⟨by rfl, fun w' _ => (by go_simp; rfl)⟩) hS ?_
      go_frame
      refine till_take 10 (some 2) rfl rfl (by kernel_rfl) (by kernel_rfl) (by kernel_rfl) (by kernel_rfl) (by kernel_rfl) (by kernel_rfl) (fun _ _ _ h => h) (.inl ⟨by rfl, fun w' _ => (by go_simp; rfl)⟩) hS ?_
      go_frame
      refine till_done (by kernel_rfl) ?_ _
      have BWA := Lib.hid (TF.out.below.trans (hbd.mono TF.out.below.size))
      clear hS hbd
      go_wp2_with fail
      go_ret
      exact ⟨rfl, BWA.out⟩
end Go.Proofs.YthnjakomkdlglaaGreat
