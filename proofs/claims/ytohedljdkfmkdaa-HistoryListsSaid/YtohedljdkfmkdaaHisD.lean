/- Histories: all checkpoints of one (code). No condition. -/
import Derived.Test.YtohedljdkfmkdaaHisC
namespace Go.Proofs.Ytohedljdkfmkdaa
open Go.RowKit

/-- An amount's cells. -/
def uE (n : Nat) : List Value := [.int .u64 (uw0 n), .int .u64 (uw1 n), .int .u64 (uw2 n), .int .u64 (uw3 n)]
theorem uE_len (n : Nat) : (uE n).length = 4 := rfl
theorem uE_one (n : Nat) : ∀ u ∈ uE n, u.oneCell' = true := by
  intro u hu
  simp only [uE, List.mem_cons, List.not_mem_nil, or_false] at hu
  rcases hu with rfl | rfl | rfl | rfl <;> rfl
theorem Try.infoUL : (Try.prog.info? 105).map (fun i => (i.zero, i.size, i.bytes)) = some (some (.agg #[.int .u64 0, .int .u64 0, .int .u64 0, .int .u64 0]), 4, 32) := by kernel_rfl
theorem litU {w : World} {A : Nat} {a b c d : Int} {m : Nat} (hu : UIs a b c d m) (h : w.heap[A]? = some (.cells #[.int .u64 a, .int .u64 b, .int .u64 c, .int .u64 d] 105 (0, 0))) : Rd w uE 4 (.slice (some ⟨A, 0, none⟩) 1 1) [m] := by
  obtain ⟨e1, e2, e3, e4⟩ := hu.uw
  refine ⟨_, 1, rfl, Nat.le_refl _, (by unfold maxLen; decide), fun _ => ⟨_, 0, rfl, heap_lt h, fun i hi j hj => ?_⟩⟩
  simp only [List.length_singleton] at hi
  obtain rfl : i = 0 := by omega
  simp only [List.getElem_cons_zero, uE, ← e1, ← e2, ← e3, ← e4]
  match j, hj with
  | 0, _ => exact Lib.cell_of_heap h 0
  | 1, _ => exact Lib.cell_of_heap h 1
  | 2, _ => exact Lib.cell_of_heap h 2
  | 3, _ => exact Lib.cell_of_heap h 3
theorem litI {w : World} {A : Nat} {n : Int} (h : w.heap[A]? = some (.cells #[.int .i64 n] 3 (0, 0))) : Rd w intE 1 (.slice (some ⟨A, 0, none⟩) 1 1) [n] := by
  refine ⟨_, 1, rfl, Nat.le_refl _, (by unfold maxLen; decide), fun _ => ⟨_, 0, rfl, heap_lt h, fun i hi j hj => ?_⟩⟩
  simp only [List.length_singleton] at hi
  obtain rfl : i = 0 := by omega
  obtain rfl : j = 0 := by omega
  exact Lib.cell_of_heap h 0
theorem LO.apartT {α : Type} {w : World} {e : TypeId} {enc : α → List Value} {sz : Nat} {v : Value} {l : List α} (h : LO w e enc sz v l) {k : Nat} {cs : Array Value} {T : TypeId} (hk : w.heap[k]? = some (.cells cs T (0, 0))) (hT : T ≠ e) : v.ownBlock ≠ some k := by
  intro e1
  obtain ⟨cs', h1⟩ := h.kind e1
  rw [hk] at h1
  injection h1 with h2
  injection h2 with _ h3
  exact hT h3
theorem moved_ge {w0 w : World} {v v' : Value} (h : MovedO w v v') (hv : ∀ k, v.ownBlock = some k → w0.heap.size ≤ k) (hs : w0.heap.size ≤ w.heap.size) : ∀ k, v'.ownBlock = some k → w0.heap.size ≤ k := by
  intro k hk
  rcases h with h | ⟨g, h1, h2⟩
  · exact hv k (h ▸ hk)
  · rw [hk] at h1; cases h1; omega
def ListRet (w : World) (H : List (Int × Nat)) (e : Ending) (w' : World) : Prop := ∃ v1 v2, e = .returned (.tuple #[v1, v2]) ∧ Rd w' intE 1 v1 (H.map (·.1)) ∧ Rd w' uE 4 v2 (H.map (·.2)) ∧ Below w.heap.size w w'

set_option maxHeartbeats 16000000 in
set_option maxRecDepth 100000 in
theorem hList_any {w : World} {x : Option Addr} {m0 : Bool} {f : Txt → Option Txt} (h : Look w x m0 f) (hf : FitF f) {t : Int} {ids : List Int} {vi : Value} {H : List (Int × Nat)} (hH : HisI f t ids H) (hn : H.length ≤ 1000000) (hl : ids.length ≤ 1000000) (hi : I64s ids) (hrd : Rd w intE 1 vi ids) :
    Calls Try.prog 58 #[.pointer x, .int .i64 t, vi] w (ListRet w H) := by
  obtain ⟨adi, capi, rfl, _, _⟩ := hrd.shape
  have HLK := Lib.hid h; have HF := Lib.hid hf; have HI := Lib.hid hi; have HR := Lib.hid hrd; have HL := Lib.hid hl; have HH := Lib.hid hH
  obtain ⟨N, hN⟩ : ∃ N, N = H.length := ⟨_, rfl⟩
  rw [← hN] at hn
  have HN := Lib.hid hN
  clear h hf hl hi hrd hH hN
  go_enter Try.func58, Try.ntmps58
  go_wp2_with fail
  refine (hlen_any HLK.out HF.out t HL.out HI.out HR.out).mono ?_
  rintro e w1 ⟨rfl, hb⟩
  rw [HH.out.cnt, ← HN.out]
  have HB1 := Lib.hid hb
  clear hb
  go_wp2_with fail
  go_loopw [8, 9, 16] (fun v1 v2 vi wr => ∃ i : Nat, vi = .int .i64 i ∧ i ≤ N ∧ Hid (LO wr 3 intE 1 v1 ((H.map (·.1)).take i)) ∧ Hid (LO wr 105 uE 4 v2 ((H.map (·.2)).take i)) ∧ Hid (∀ k, v1.ownBlock = some k → w.heap.size ≤ k) ∧ Hid (∀ k, v2.ownBlock = some k → w.heap.size ≤ k) ∧ Hid (Below w.heap.size w wr)) (fun _ _ vi _ => N - (intOf vi).toNat)
  case atStart => exact ⟨0, rfl, Nat.zero_le _, Lib.hid (LO.nil _ _ _ _), Lib.hid (LO.nil _ _ _ _), Lib.hid (fun k e => by cases e), Lib.hid (fun k e => by cases e), HB1⟩
  case round =>
    clear HB1
    obtain ⟨i, rfl, hiN, V1, V2, KV1, KV2, BK⟩ := hrel
    by_cases hlt : i < N
    · have HLT := Lib.hid hlt
      go_wp2_with fail
      refine (hread_any (HLK.out.later BK.out) HF.out t (n := (i : Int)) HL.out HI.out (HR.out.later BK.out) (by omega)).mono ?_
      rintro e w4 ⟨a, b, c, d, hu, rfl, hb⟩
      have hi : i < H.length := by rw [← HN.out]; exact hlt
      rw [HH.out.amt hi] at hu
      rw [HH.out.blk hi]
      obtain ⟨bk, hbk⟩ : ∃ q, q = H[i].1 := ⟨_, rfl⟩
      obtain ⟨m, hm⟩ : ∃ q, q = H[i].2 := ⟨_, rfl⟩
      rw [← hm] at hu
      rw [← hbk]
      have T1 : Hid ((H.map (·.1)).take (i + 1) = (H.map (·.1)).take i ++ [bk]) := Lib.hid (by rw [List.take_succ_eq_append_getElem (by rw [List.length_map]; exact hi), List.getElem_map, hbk])
      have T2 : Hid ((H.map (·.2)).take (i + 1) = (H.map (·.2)).take i ++ [m]) := Lib.hid (by rw [List.take_succ_eq_append_getElem (by rw [List.length_map]; exact hi), List.getElem_map, hm])
      have HU := Lib.hid hu
      have V14 := Lib.hid (V1.out.later hb); have V24 := Lib.hid (V2.out.later hb); have BK4 := Lib.hid (BK.out.trans (hb.mono BK.out.size))
      clear hb hu hi hbk hm V1 V2 BK hlt
      go_wp2_with (refine wpList_alloc_g rfl _ rfl _ _ Try.zeroPt rfl ?_)
      intro Y w5 h5
      go_wp2_with (refine wpList_store_row_g (t := 163) (old := #[.int .i64 0, .int .u64 0, .int .u64 0, .int .u64 0, .int .u64 0]) rfl 163 _ _ rfl Y #[.int .i64 bk, .int .u64 a, .int .u64 b, .int .u64 c, .int .u64 d] rfl rfl h5.out.cells Try.sizePt rfl (by simp [Value.oneCell']) ?_)
      intro w6 hx6 k6 _
      have hb46 : Below w4.heap.size w4 w6 := h5.out.below.trans (k6.below (B := w4.heap.size) (fun x hx e => by have := h5.out.eq; omega) h5.out.below.size)
      have V16 := Lib.hid (V14.out.later hb46); have V26 := Lib.hid (V24.out.later hb46); have BK6 := Lib.hid (BK4.out.trans (hb46.mono BK4.out.size)); have HY6 := Lib.hid hx6
      clear h5 hx6 k6 hb46 V14 V24 BK4
      obtain ⟨wz, hwz⟩ : ∃ wz, wz = w6.drew := ⟨_, rfl⟩
      have hbz : Below w6.heap.size w6 wz := by rw [hwz]; exact (Below.refl _ _).drew
      have V10 := Lib.hid (V16.out.later hbz); have V20 := Lib.hid (V26.out.later hbz); have BK0 := Lib.hid (BK6.out.trans (hbz.mono BK6.out.size))
      have hS : wz.heap[Y]? = some (.cells #[.int .i64 bk, .int .u64 a, .int .u64 b, .int .u64 c, .int .u64 d] 163 (0, 0)) := below_at' hbz HY6.out
      have HLEN : Hid (((H.map (·.1)).take i).length ≤ 1000000 ∧ ((H.map (·.2)).take i).length ≤ 1000000) := Lib.hid (by rw [List.length_take, List.length_take]; omega)
      clear hbz V16 V26 BK6 HY6
      go_wp2_with fail
      refine wp_region_till (fun w' => w'.heap[Y]? = some (.cells #[.int .i64 bk, .int .u64 a, .int .u64 b, .int .u64 c, .int .u64 d] 163 (0, 0))) 12 12 (by kernel_rfl) rfl ?_
      rw [← hwz]
      clear hwz
      refine till_take 0 (some 24) rfl rfl (by kernel_rfl) (by kernel_rfl) (by kernel_rfl) (by kernel_rfl) (by kernel_rfl) (by kernel_rfl) (fun _ _ _ h => h) (.inl ⟨by rfl, fun w' _ => (by go_simp; rfl)⟩) hS ?_
      go_frame
      refine till_take 1 (some 25) rfl rfl (by kernel_rfl) (by kernel_rfl) (by kernel_rfl) (by kernel_rfl) (by kernel_rfl) (by kernel_rfl) (fun _ _ _ h => h) (.inl ⟨by rfl, fun w' _ => (by go_simp; rfl)⟩) hS ?_
      go_frame
      refine till_take 2 (some 26) rfl rfl (by kernel_rfl) (by kernel_rfl) (by kernel_rfl) (by kernel_rfl) (by kernel_rfl) (by kernel_rfl) (fun _ _ _ h => h) (.inl ⟨by rfl, fun w' hS' => (by have hc1 : w'.cell? ⟨Y, 0, none⟩ = some (.int .i64 bk) := Lib.cell_of_heap hS' 0; go_simp; rfl)⟩) hS ?_
      go_frame
      refine till_take 5 (some 29) rfl rfl (by kernel_rfl) (by kernel_rfl) (by kernel_rfl) (by kernel_rfl) (by kernel_rfl) (by kernel_rfl) (fun _ _ _ h => h) (.inl ⟨by rfl, fun w' _ => (by go_simp; rfl)⟩) hS ?_
      go_frame
      refine till_take 6 (some 30) rfl rfl (by kernel_rfl) (by kernel_rfl) (by kernel_rfl) (by kernel_rfl) (by kernel_rfl) (by kernel_rfl) (fun _ _ _ h => h) (.inl ⟨by rfl, fun w' _ => (by go_simp; rfl)⟩) hS ?_
      go_frame
      refine till_take 7 (some 31) rfl rfl (by kernel_rfl) (by kernel_rfl) (by kernel_rfl) (by kernel_rfl) (by kernel_rfl) (by kernel_rfl) (fun _ _ _ h => h) (yieldsIf_load_mid (by rfl) 105 _ rfl Y 1 rfl [.int .u64 a, .int .u64 b, .int .u64 c, .int .u64 d] _ (fun w' hS' => range_of_heap hS' 1 _ rfl) Try.underlying105 rfl Try.sizeU) hS ?_
      go_frame
      refine till_two 3 8 rfl rfl (by kernel_rfl) (fun K hK => ?_) (fun K hK => ?_)
      · simp only [List.getElem_toArray, List.getElem_cons_succ, List.getElem_cons_zero]
        rw [if_pos (by rfl)]
        go_simp
        obtain ⟨wt1, hwn⟩ : ∃ wn, wn = World.alloc wz (.cells #[.int .i64 bk] 3) := ⟨_, rfl⟩
        obtain ⟨A1, hA⟩ : ∃ A, A = (World.heap wz).size := ⟨_, rfl⟩
        rw [← hwn, ← hA]
        have hb : Below (World.heap wz).size wz wt1 := by rw [hwn]; exact below_new _ _
        have LT11 : Hid ((World.heap wt1)[A1]? = some (.cells #[.int .i64 bk] 3 (0, 0))) := Lib.hid (by rw [hwn, hA]; exact heap_alloc_new _ _)
        clear hwn hA
        have BK1 := Lib.hid (BK0.out.trans (hb.mono BK0.out.size))
        have V11 := Lib.hid (V10.out.later hb)
        have V21 := Lib.hid (V20.out.later hb)
        have hS1 := below_at' hb hS
        refine hK _ _ (fun _ _ => hS1) ?_
        clear hK hS hb BK0 V10 V20
        have hS := hS1
        clear hS1
        refine till_two 4 8 rfl rfl (by kernel_rfl) (fun K hK => ?_) (fun K hK => ?_)
        · simp only [List.getElem_toArray, List.getElem_cons_succ, List.getElem_cons_zero]
          rw [if_pos (by rfl)]
          refine wp_lo_apps (l := (H.map (·.1)).take i) (l2 := [bk]) _ _ 43 43 rfl Try.underlying43 Try.underlying43 Try.infoCI rfl (by decide) intE_len (intE_ones _) V11.out rfl _ rfl (litI LT11.out) (by have := HLEN.out; unfold maxLen; simp only [List.length_singleton]; omega) (by have := HLEN.out; simp only [List.length_singleton]; omega) ?_
          intro va2 wt2 la ka ma
          have KW1 := Lib.hid (moved_ge ma KV1.out (Nat.le_trans BK1.out.size (Nat.le_refl _)))
          have BK2 := Lib.hid (BK1.out.trans (ka.below (B := w.heap.size) (fun q hq e => by have := KV1.out q e; omega) BK1.out.size))
          have hS1 := ka.at hS (V11.out.apartT hS (by decide))
          rw [← T1.out] at la
          have W12 := Lib.hid la
          have V22 := Lib.hid (V21.out.keep ka fun k e1 e2 => by obtain ⟨cs, h1⟩ := V21.out.kind e1; exact V11.out.apartT h1 (by decide) e2)
          refine hK _ _ (fun _ _ => hS1) ?_
          clear hK hS la ka ma LT11 BK1 V11 V21
          have hS := hS1
          clear hS1
          refine till_one 8 rfl (by kernel_rfl) (fun K hK => ?_)
          · simp only [List.getElem_toArray, List.getElem_cons_succ, List.getElem_cons_zero]
            rw [if_pos (by rfl)]
            go_simp
            obtain ⟨wt3, hwn⟩ : ∃ wn, wn = World.alloc wt2 (.cells #[.int .u64 a, .int .u64 b, .int .u64 c, .int .u64 d] 105) := ⟨_, rfl⟩
            obtain ⟨A3, hA⟩ : ∃ A, A = (World.heap wt2).size := ⟨_, rfl⟩
            rw [← hwn, ← hA]
            have hb : Below (World.heap wt2).size wt2 wt3 := by rw [hwn]; exact below_new _ _
            have LT23 : Hid ((World.heap wt3)[A3]? = some (.cells #[.int .u64 a, .int .u64 b, .int .u64 c, .int .u64 d] 105 (0, 0))) := Lib.hid (by rw [hwn, hA]; exact heap_alloc_new _ _)
            clear hwn hA
            have BK3 := Lib.hid (BK2.out.trans (hb.mono BK2.out.size))
            have W13 := Lib.hid (W12.out.later hb)
            have V23 := Lib.hid (V22.out.later hb)
            have hS1 := below_at' hb hS
            refine hK _ _ (fun _ _ => hS1) ?_
            clear hK hS hb BK2 W12 V22
            have hS := hS1
            clear hS1
            refine till_one 9 rfl (by kernel_rfl) (fun K hK => ?_)
            · simp only [List.getElem_toArray, List.getElem_cons_succ, List.getElem_cons_zero]
              rw [if_pos (by rfl)]
              refine wp_lo_apps (l := (H.map (·.2)).take i) (l2 := [m]) _ _ 112 112 rfl Try.underlying112 Try.underlying112 Try.infoUL rfl (by decide) uE_len (fun x _ => uE_one x) V23.out rfl _ rfl (litU HU.out LT23.out) (by have := HLEN.out; unfold maxLen; simp only [List.length_singleton]; omega) (by have := HLEN.out; simp only [List.length_singleton]; omega) ?_
              intro va4 wt4 la ka ma
              have KW2 := Lib.hid (moved_ge ma KV2.out (Nat.le_trans BK3.out.size (Nat.le_refl _)))
              have BK4 := Lib.hid (BK3.out.trans (ka.below (B := w.heap.size) (fun q hq e => by have := KV2.out q e; omega) BK3.out.size))
              have hS1 := ka.at hS (V23.out.apartT hS (by decide))
              rw [← T2.out] at la
              have W24 := Lib.hid la
              have W14 := Lib.hid (W13.out.keep ka fun k e1 e2 => by obtain ⟨cs, h1⟩ := W13.out.kind e1; exact V23.out.apartT h1 (by decide) e2)
              refine hK _ _ (fun _ _ => hS1) ?_
              clear hK hS la ka ma LT23 BK3 W13 V23
              have hS := hS1
              clear hS1
              refine till_take 10 (some 8) rfl rfl (by kernel_rfl) (by kernel_rfl) (by kernel_rfl) (by kernel_rfl) (by kernel_rfl) (by kernel_rfl) (fun _ _ _ h => h) (.inl ⟨by rfl, fun w' _ => (by go_simp; rfl)⟩) hS ?_
              go_frame
              refine till_take 11 (some 9) rfl rfl (by kernel_rfl) (by kernel_rfl) (by kernel_rfl) (by kernel_rfl) (by kernel_rfl) (by kernel_rfl) (fun _ _ _ h => h) (.inl ⟨by rfl, fun w' _ => (by go_simp; rfl)⟩) hS ?_
              go_frame
              refine till_done (by kernel_rfl) ?_ _
              clear hS
              have hlt := HLT.out
              go_wp2_with fail
              go_roundw
              case rel => exact ⟨i + 1, by go_num, hlt, W14, W24, KW1, KW2, BK4⟩
              case measure => simp [intOf]; omega
        · simp only [List.getElem_toArray, List.getElem_cons_succ, List.getElem_cons_zero]
          rw [if_pos (by rfl)]
          go_simp
          obtain ⟨wt5, hwn⟩ : ∃ wn, wn = World.alloc wt1 (.cells #[.int .u64 a, .int .u64 b, .int .u64 c, .int .u64 d] 105) := ⟨_, rfl⟩
          obtain ⟨A5, hA⟩ : ∃ A, A = (World.heap wt1).size := ⟨_, rfl⟩
          rw [← hwn, ← hA]
          have hb : Below (World.heap wt1).size wt1 wt5 := by rw [hwn]; exact below_new _ _
          have LT25 : Hid ((World.heap wt5)[A5]? = some (.cells #[.int .u64 a, .int .u64 b, .int .u64 c, .int .u64 d] 105 (0, 0))) := Lib.hid (by rw [hwn, hA]; exact heap_alloc_new _ _)
          clear hwn hA
          have LT15 := Lib.hid (below_at' hb LT11.out)
          have BK5 := Lib.hid (BK1.out.trans (hb.mono BK1.out.size))
          have V15 := Lib.hid (V11.out.later hb)
          have V25 := Lib.hid (V21.out.later hb)
          have hS1 := below_at' hb hS
          refine hK _ _ (fun _ _ => hS1) ?_
          clear hK hS hb LT11 BK1 V11 V21
          have hS := hS1
          clear hS1
          refine till_one 4 rfl (by kernel_rfl) (fun K hK => ?_)
          · simp only [List.getElem_toArray, List.getElem_cons_succ, List.getElem_cons_zero]
            rw [if_pos (by rfl)]
            refine wp_lo_apps (l := (H.map (·.1)).take i) (l2 := [bk]) _ _ 43 43 rfl Try.underlying43 Try.underlying43 Try.infoCI rfl (by decide) intE_len (intE_ones _) V15.out rfl _ rfl (litI LT15.out) (by have := HLEN.out; unfold maxLen; simp only [List.length_singleton]; omega) (by have := HLEN.out; simp only [List.length_singleton]; omega) ?_
            intro va6 wt6 la ka ma
            have KW1 := Lib.hid (moved_ge ma KV1.out (Nat.le_trans BK5.out.size (Nat.le_refl _)))
            have BK6 := Lib.hid (BK5.out.trans (ka.below (B := w.heap.size) (fun q hq e => by have := KV1.out q e; omega) BK5.out.size))
            have hS1 := ka.at hS (V15.out.apartT hS (by decide))
            rw [← T1.out] at la
            have W16 := Lib.hid la
            have V26 := Lib.hid (V25.out.keep ka fun k e1 e2 => by obtain ⟨cs, h1⟩ := V25.out.kind e1; exact V15.out.apartT h1 (by decide) e2)
            have LT26 := Lib.hid (ka.at LT25.out (V15.out.apartT LT25.out (by decide)))
            refine hK _ _ (fun _ _ => hS1) ?_
            clear hK hS la ka ma LT25 LT15 BK5 V15 V25
            have hS := hS1
            clear hS1
            refine till_one 9 rfl (by kernel_rfl) (fun K hK => ?_)
            · simp only [List.getElem_toArray, List.getElem_cons_succ, List.getElem_cons_zero]
              rw [if_pos (by rfl)]
              refine wp_lo_apps (l := (H.map (·.2)).take i) (l2 := [m]) _ _ 112 112 rfl Try.underlying112 Try.underlying112 Try.infoUL rfl (by decide) uE_len (fun x _ => uE_one x) V26.out rfl _ rfl (litU HU.out LT26.out) (by have := HLEN.out; unfold maxLen; simp only [List.length_singleton]; omega) (by have := HLEN.out; simp only [List.length_singleton]; omega) ?_
              intro va7 wt7 la ka ma
              have KW2 := Lib.hid (moved_ge ma KV2.out (Nat.le_trans BK6.out.size (Nat.le_refl _)))
              have BK7 := Lib.hid (BK6.out.trans (ka.below (B := w.heap.size) (fun q hq e => by have := KV2.out q e; omega) BK6.out.size))
              have hS1 := ka.at hS (V26.out.apartT hS (by decide))
              rw [← T2.out] at la
              have W27 := Lib.hid la
              have W17 := Lib.hid (W16.out.keep ka fun k e1 e2 => by obtain ⟨cs, h1⟩ := W16.out.kind e1; exact V26.out.apartT h1 (by decide) e2)
              refine hK _ _ (fun _ _ => hS1) ?_
              clear hK hS la ka ma BK6 W16 V26 LT26
              have hS := hS1
              clear hS1
              refine till_take 10 (some 8) rfl rfl (by kernel_rfl) (by kernel_rfl) (by kernel_rfl) (by kernel_rfl) (by kernel_rfl) (by kernel_rfl) (fun _ _ _ h => h) (.inl ⟨by rfl, fun w' _ => (by go_simp; rfl)⟩) hS ?_
              go_frame
              refine till_take 11 (some 9) rfl rfl (by kernel_rfl) (by kernel_rfl) (by kernel_rfl) (by kernel_rfl) (by kernel_rfl) (by kernel_rfl) (fun _ _ _ h => h) (.inl ⟨by rfl, fun w' _ => (by go_simp; rfl)⟩) hS ?_
              go_frame
              refine till_done (by kernel_rfl) ?_ _
              clear hS
              have hlt := HLT.out
              go_wp2_with fail
              go_roundw
              case rel => exact ⟨i + 1, by go_num, hlt, W17, W27, KW1, KW2, BK7⟩
              case measure => simp [intOf]; omega
      · simp only [List.getElem_toArray, List.getElem_cons_succ, List.getElem_cons_zero]
        rw [if_pos (by rfl)]
        go_simp
        obtain ⟨wt8, hwn⟩ : ∃ wn, wn = World.alloc wz (.cells #[.int .u64 a, .int .u64 b, .int .u64 c, .int .u64 d] 105) := ⟨_, rfl⟩
        obtain ⟨A8, hA⟩ : ∃ A, A = (World.heap wz).size := ⟨_, rfl⟩
        rw [← hwn, ← hA]
        have hb : Below (World.heap wz).size wz wt8 := by rw [hwn]; exact below_new _ _
        have LT28 : Hid ((World.heap wt8)[A8]? = some (.cells #[.int .u64 a, .int .u64 b, .int .u64 c, .int .u64 d] 105 (0, 0))) := Lib.hid (by rw [hwn, hA]; exact heap_alloc_new _ _)
        clear hwn hA
        have BK8 := Lib.hid (BK0.out.trans (hb.mono BK0.out.size))
        have V18 := Lib.hid (V10.out.later hb)
        have V28 := Lib.hid (V20.out.later hb)
        have hS1 := below_at' hb hS
        refine hK _ _ (fun _ _ => hS1) ?_
        clear hK hS hb BK0 V10 V20
        have hS := hS1
        clear hS1
        refine till_one 3 rfl (by kernel_rfl) (fun K hK => ?_)
        · simp only [List.getElem_toArray, List.getElem_cons_succ, List.getElem_cons_zero]
          rw [if_pos (by rfl)]
          go_simp
          obtain ⟨wt9, hwn⟩ : ∃ wn, wn = World.alloc wt8 (.cells #[.int .i64 bk] 3) := ⟨_, rfl⟩
          obtain ⟨A9, hA⟩ : ∃ A, A = (World.heap wt8).size := ⟨_, rfl⟩
          rw [← hwn, ← hA]
          have hb : Below (World.heap wt8).size wt8 wt9 := by rw [hwn]; exact below_new _ _
          have LT19 : Hid ((World.heap wt9)[A9]? = some (.cells #[.int .i64 bk] 3 (0, 0))) := Lib.hid (by rw [hwn, hA]; exact heap_alloc_new _ _)
          clear hwn hA
          have LT29 := Lib.hid (below_at' hb LT28.out)
          have BK9 := Lib.hid (BK8.out.trans (hb.mono BK8.out.size))
          have V19 := Lib.hid (V18.out.later hb)
          have V29 := Lib.hid (V28.out.later hb)
          have hS1 := below_at' hb hS
          refine hK _ _ (fun _ _ => hS1) ?_
          clear hK hS hb LT28 BK8 V18 V28
          have hS := hS1
          clear hS1
          refine till_one 4 rfl (by kernel_rfl) (fun K hK => ?_)
          · simp only [List.getElem_toArray, List.getElem_cons_succ, List.getElem_cons_zero]
            rw [if_pos (by rfl)]
            refine wp_lo_apps (l := (H.map (·.1)).take i) (l2 := [bk]) _ _ 43 43 rfl Try.underlying43 Try.underlying43 Try.infoCI rfl (by decide) intE_len (intE_ones _) V19.out rfl _ rfl (litI LT19.out) (by have := HLEN.out; unfold maxLen; simp only [List.length_singleton]; omega) (by have := HLEN.out; simp only [List.length_singleton]; omega) ?_
            intro va10 wt10 la ka ma
            have KW1 := Lib.hid (moved_ge ma KV1.out (Nat.le_trans BK9.out.size (Nat.le_refl _)))
            have BK10 := Lib.hid (BK9.out.trans (ka.below (B := w.heap.size) (fun q hq e => by have := KV1.out q e; omega) BK9.out.size))
            have hS1 := ka.at hS (V19.out.apartT hS (by decide))
            rw [← T1.out] at la
            have W110 := Lib.hid la
            have V210 := Lib.hid (V29.out.keep ka fun k e1 e2 => by obtain ⟨cs, h1⟩ := V29.out.kind e1; exact V19.out.apartT h1 (by decide) e2)
            have LT210 := Lib.hid (ka.at LT29.out (V19.out.apartT LT29.out (by decide)))
            refine hK _ _ (fun _ _ => hS1) ?_
            clear hK hS la ka ma LT19 LT29 BK9 V19 V29
            have hS := hS1
            clear hS1
            refine till_one 9 rfl (by kernel_rfl) (fun K hK => ?_)
            · simp only [List.getElem_toArray, List.getElem_cons_succ, List.getElem_cons_zero]
              rw [if_pos (by rfl)]
              refine wp_lo_apps (l := (H.map (·.2)).take i) (l2 := [m]) _ _ 112 112 rfl Try.underlying112 Try.underlying112 Try.infoUL rfl (by decide) uE_len (fun x _ => uE_one x) V210.out rfl _ rfl (litU HU.out LT210.out) (by have := HLEN.out; unfold maxLen; simp only [List.length_singleton]; omega) (by have := HLEN.out; simp only [List.length_singleton]; omega) ?_
              intro va11 wt11 la ka ma
              have KW2 := Lib.hid (moved_ge ma KV2.out (Nat.le_trans BK10.out.size (Nat.le_refl _)))
              have BK11 := Lib.hid (BK10.out.trans (ka.below (B := w.heap.size) (fun q hq e => by have := KV2.out q e; omega) BK10.out.size))
              have hS1 := ka.at hS (V210.out.apartT hS (by decide))
              rw [← T2.out] at la
              have W211 := Lib.hid la
              have W111 := Lib.hid (W110.out.keep ka fun k e1 e2 => by obtain ⟨cs, h1⟩ := W110.out.kind e1; exact V210.out.apartT h1 (by decide) e2)
              refine hK _ _ (fun _ _ => hS1) ?_
              clear hK hS la ka ma BK10 W110 V210 LT210
              have hS := hS1
              clear hS1
              refine till_take 10 (some 8) rfl rfl (by kernel_rfl) (by kernel_rfl) (by kernel_rfl) (by kernel_rfl) (by kernel_rfl) (by kernel_rfl) (fun _ _ _ h => h) (.inl ⟨by rfl, fun w' _ => (by go_simp; rfl)⟩) hS ?_
              go_frame
              refine till_take 11 (some 9) rfl rfl (by kernel_rfl) (by kernel_rfl) (by kernel_rfl) (by kernel_rfl) (by kernel_rfl) (by kernel_rfl) (fun _ _ _ h => h) (.inl ⟨by rfl, fun w' _ => (by go_simp; rfl)⟩) hS ?_
              go_frame
              refine till_done (by kernel_rfl) ?_ _
              clear hS
              have hlt := HLT.out
              go_wp2_with fail
              go_roundw
              case rel => exact ⟨i + 1, by go_num, hlt, W111, W211, KW1, KW2, BK11⟩
              case measure => simp [intOf]; omega
    · obtain rfl : i = N := by omega
      have e1 := V1.out; have e2 := V2.out
      rw [List.take_of_length_le (by rw [List.length_map, HN.out]; exact Nat.le_refl _)] at e1 e2
      have R1 := Lib.hid (e1.rd intE_len); have R2 := Lib.hid (e2.rd uE_len)
      clear e1 e2 V1 V2
      go_wp2_with fail
      go_ret2
      exact ⟨_, _, rfl, R1.out, R2.out, BK.out⟩
end Go.Proofs.Ytohedljdkfmkdaa
