/- Due: places, keys, and the iterator over what stands under a beginning (code). No condition. -/
import Derived.Test.YthnjakomkdlglaaRgF
import Derived.Test.YthnjakomkdlglaaKeysD
import Derived.Test.YthnjakomkdlglaaCelB
import Derived.Test.YthnjakomkdlglaaLit
import Derived.Test.YthnjakomkdlglaaCln
import Derived.Shelf.Abstract
import Derived.Shelf.RegionOpen
import Derived.WalkKit
import Derived.OwnWalkIn
import Derived.TacticsInMore
import Derived.LoopNIn
import Derived.LoopIn
import Derived.Deep.Cut
namespace Go.Proofs.Ythnjakomkdlglaa
open Go.RowKit

/-- A key's place. -/
def readF (k : Txt) : Option (Int × Int) := match parseF k with
  | some (_, [a, b]) => some (a, b)
  | _ => none
theorem readF_none {k : Txt} (h : parseF k = none) : readF k = none := by unfold readF; rw [h]
theorem readF_two {k : Txt} {t a b : Int} (h : parseF k = some (t, [a, b])) : readF k = some (a, b) := by unfold readF; rw [h]
theorem readF_other {k : Txt} {t : Int} {xs : List Int} (h : parseF k = some (t, xs)) (hl : xs.length ≠ 2) : readF k = none := by
  unfold readF
  rw [h]
  match xs, hl with
  | [], _ => rfl
  | [_], _ => rfl
  | _ :: _ :: _ :: _, _ => rfl
def ReadRet (w : World) (k : Txt) (e : Ending) (w' : World) : Prop := ∃ (a b : Int) (q : Bool), e = .returned (.tuple #[.agg #[.int .i64 a, .int .i64 b], .bool q]) ∧ (q = true → readF k = some (a, b)) ∧ (q = false → readF k = none) ∧ Below w.heap.size w w'
theorem Try.zeroPl (w : World) : (zeroValue 81).run Try.prog w = .ok (.agg #[.int .i64 0, .int .i64 0]) w := by kernel_rfl
theorem Try.sizePl : (Try.prog.info? 81).map (·.size) = some 2 := by kernel_rfl
theorem one_i64 (a b : Int) : (#[Value.int .i64 a, .int .i64 b].all (·.oneCell')) = true := by simp [Value.oneCell']
theorem one_str (a b : Txt) : (#[Value.string (bs a), .string (bs b)].all (·.oneCell')) = true := by simp [Value.oneCell']

set_option maxHeartbeats 4000000 in
set_option maxRecDepth 100000 in
theorem read_any (k : Txt) (w : World) (hk : k.length ≤ 1000000) : Calls Try.prog 75 #[.string (bs k)] w (ReadRet w k) := by
  have HK := Lib.hid hk
  clear hk
  go_enter Try.func75, Try.ntmps75
  have HB := Lib.hid (Below.refl w.heap.size w)
  go_wp2_with (refine wpList_alloc_g rfl _ rfl _ _ Try.zeroPl rfl ?_)
  intro R a1 hR
  have WR : Hid (w.heap.size ≤ R) := Lib.hid (by rw [hR.out.eq]; exact (HB.out).size)
  have HRz := Lib.hid hR.out.cells; have hbR := hR.out.below
  clear hR
  have HBm := Lib.hid (HB.out.trans (hbR.mono HB.out.size))
  clear hbR HB
  have HB := HBm
  clear HBm
  have HR := HRz
  clear HRz
  go_wp2_with fail
  refine (parse_any (bs k) _ (by rw [bs_size]; have := HK.out; omega)).mono ?_
  rintro e a2 ⟨hb, hsay⟩
  rw [show (bs k).data.toList = k from rfl] at hsay
  have HBm := Lib.hid (HB.out.trans (hb.mono HB.out.size))
  have HRm := Lib.hid (below_at' hb HR.out)
  clear hb HB HR
  have HB := HBm
  have HR := HRm
  clear HBm HRm
  cases hp : parseF k with
  | none =>
    rw [hp] at hsay
    have HP := Lib.hid hp
    obtain rfl := hsay
    clear hp
    go_wp2_with (refine wpList_store_row_g (t := 81) (old := #[.int .i64 0, .int .i64 0]) rfl 81 _ _ rfl R #[.int .i64 0, .int .i64 0] rfl rfl HR.out Try.sizePl rfl (one_i64 _ _) ?_)
    intro a3 hxR kR zR
    clear zR
    have HBm := Lib.hid (HB.out.trans (kR.below (B := w.heap.size) (fun y hy e => by have := WR.out; omega) HB.out.size))
    have HRm := Lib.hid hxR
    clear hxR kR HB HR
    have HB := HBm
    have HR := HRm
    clear HBm HRm
    go_wp2_with fail
    exact bodyPost_ret (res_row_val rfl _ _ R _ _ _ _ rfl HR.out Try.underlying81 rfl Try.sizePl _ rfl) rfl ⟨0, 0, false, rfl, (fun h => by cases h), (fun _ => readF_none HP.out), HB.out⟩
  | some tx =>
    obtain ⟨t, xs⟩ := tx
    rw [hp] at hsay
    obtain ⟨v, rfl, ho⟩ := hsay
    have HP := Lib.hid hp
    have HO := Lib.hid (LO.of_own ho)
    obtain ⟨adv, capv, rfl, y1, y2⟩ := HO.out.shape
    clear hp ho
    by_cases h2 : xs.length = 2
    · obtain ⟨x0, x1, rfl⟩ : ∃ x0 x1, xs = [x0, x1] := by
        match xs, h2 with
        | [p, q], _ => exact ⟨p, q, rfl⟩
      obtain ⟨G, capg, cur, hv, hg, _, _, _, ht⟩ := HO.out.opened (by simp)
      obtain ⟨rfl, _⟩ := Value.slice.inj hv
      have e0 : cur[0]? = some (.int .i64 x0) := by
        have := congrArg (fun l : List Value => l[0]?) ht
        simpa [intE, List.getElem?_take] using this
      have e1 : cur[1]? = some (.int .i64 x1) := by
        have := congrArg (fun l : List Value => l[1]?) ht
        simpa [intE, List.getElem?_take] using this
      have HG := Lib.hid hg; have E0 := Lib.hid e0; have E1 := Lib.hid e1
      have NGR : Hid (G ≠ R) := Lib.hid (by intro e; subst e; have h8 := HR.out; rw [hg] at h8; cases h8)
      clear hv hg ht e0 e1 HO h2
      have hl2 : ([x0, x1] : List Int).length = 2 := rfl
      rw [hl2] at y1 ⊢
      clear hl2
      go_wp2_with fail
      obtain ⟨a3, hwz⟩ : ∃ wz, wz = a2.drew := ⟨_, rfl⟩
      have hbz : Below a2.heap.size a2 a3 := by rw [hwz]; exact (Below.refl _ _).drew
      have HBm := Lib.hid (HB.out.trans (hbz.mono HB.out.size))
      have HRm := Lib.hid (below_at' hbz HR.out)
      have HGm := Lib.hid (below_at' hbz HG.out)
      clear hbz HB HR HG
      have HB := HBm
      have HR := HRm
      have HG := HGm
      clear HBm HRm HGm
      have hS : a3.heap[G]? = some (.cells cur 3 (0, 0)) := HG.out
      refine wp_region_till (fun w' => w'.heap[G]? = some (.cells cur 3 (0, 0))) 9 9 (by kernel_rfl) rfl ?_
      rw [← hwz]
      clear hwz
      refine till_take 0 (some 21) rfl rfl (by kernel_rfl) (by kernel_rfl) (by kernel_rfl) (by kernel_rfl) (by kernel_rfl) (by kernel_rfl) (fun _ _ _ h => h) (.inl ⟨by rfl, fun w' _ => (by go_simp; rfl)⟩) hS ?_
      go_frame
      refine till_take 1 (some 22) rfl rfl (by kernel_rfl) (by kernel_rfl) (by kernel_rfl) (by kernel_rfl) (by kernel_rfl) (by kernel_rfl) (fun _ _ _ h => h) (.inl ⟨by rfl, fun w' _ => (by go_simp; rfl)⟩) hS ?_
      go_frame
      refine till_take 2 (some 23) rfl rfl (by kernel_rfl) (by kernel_rfl) (by kernel_rfl) (by kernel_rfl) (by kernel_rfl) (by kernel_rfl) (fun _ _ _ h => h) (.inl ⟨by rfl, fun w' hS' => (by have hc : w'.cell? ⟨G, 0, none⟩ = some (.int .i64 x0) := (Lib.cell_of_heap hS' 0).trans E0.out; go_simp; rfl)⟩) hS ?_
      go_frame
      refine till_take 3 (some 24) rfl rfl (by kernel_rfl) (by kernel_rfl) (by kernel_rfl) (by kernel_rfl) (by kernel_rfl) (by kernel_rfl) (fun _ _ _ h => h) (.inl ⟨by rfl, fun w' _ => (by go_simp; rfl)⟩) hS ?_
      go_frame
      refine till_take 4 (some 25) rfl rfl (by kernel_rfl) (by kernel_rfl) (by kernel_rfl) (by kernel_rfl) (by kernel_rfl) (by kernel_rfl) (fun _ _ _ h => h) (.inl ⟨by rfl, fun w' _ => (by go_simp; rfl)⟩) hS ?_
      go_frame
      refine till_take 5 (some 26) rfl rfl (by kernel_rfl) (by kernel_rfl) (by kernel_rfl) (by kernel_rfl) (by kernel_rfl) (by kernel_rfl) (fun _ _ _ h => h) (.inl ⟨by rfl, fun w' hS' => (by have hc : w'.cell? ⟨G, 1, none⟩ = some (.int .i64 x1) := (Lib.cell_of_heap hS' 1).trans E1.out; go_simp; rfl)⟩) hS ?_
      go_frame
      refine till_take 6 (some 27) rfl rfl (by kernel_rfl) (by kernel_rfl) (by kernel_rfl) (by kernel_rfl) (by kernel_rfl) (by kernel_rfl) (fun _ _ _ h => h) (.inl ⟨by rfl, fun w' _ => (by go_simp; rfl)⟩) hS ?_
      go_frame
      refine till_one 7 rfl (by kernel_rfl) fun K hK => ?_
      simp only [List.getElem_toArray, List.getElem_cons_succ, List.getElem_cons_zero]
      rw [if_pos (by rfl)]
      refine wp_store_row_g (t := 81) (old := #[.int .i64 0, .int .i64 0]) 81 _ _ rfl R #[.int .i64 x0, .int .i64 x1] rfl rfl HR.out Try.sizePl rfl (one_i64 _ _) ?_
      intro a4 hxR kR zR
      clear zR
      have HBm := Lib.hid (HB.out.trans (kR.below (B := w.heap.size) (fun y hy e => by have := WR.out; omega) HB.out.size))
      have HGm := Lib.hid (kR.at HG.out NGR.out)
      have HRm := Lib.hid hxR
      clear hxR kR HB HR HG
      have HB := HBm
      have HR := HRm
      have HG := HGm
      clear HBm HRm HGm
      have hS2 : a4.heap[G]? = some (.cells cur 3 (0, 0)) := HG.out
      refine hK _ _ (fun _ _ => hS2) ?_
      clear hK hS
      have hS := hS2
      clear hS2
      refine till_take 8 (some 3) rfl rfl (by kernel_rfl) (by kernel_rfl) (by kernel_rfl) (by kernel_rfl) (by kernel_rfl) (by kernel_rfl) (fun _ _ _ h => h) (.inl ⟨by rfl, fun w' _ => (by go_simp; rfl)⟩) hS ?_
      go_frame
      refine till_done (by kernel_rfl) ?_ _
      clear hS
      go_wp2_with fail
      exact bodyPost_ret (res_row_val rfl _ _ R _ _ _ _ rfl HR.out Try.underlying81 rfl Try.sizePl _ rfl) rfl ⟨x0, x1, true, rfl, (fun _ => readF_two HP.out), (fun h => by cases h), HB.out⟩
    · have H2 := Lib.hid h2
      obtain ⟨m, hm⟩ : ∃ m, m = xs.length := ⟨_, rfl⟩
      rw [← hm] at y1 h2 ⊢
      have hne : ((m : Int) != 2) = true := by rw [bne_iff_ne]; omega
      have hne2 : ((m : Int) == 2) = false := by rw [beq_eq_false_iff_ne]; omega
      clear HO hm h2
      go_wp2_with (refine wpList_store_row_g (t := 81) (old := #[.int .i64 0, .int .i64 0]) rfl 81 _ _ rfl R #[.int .i64 0, .int .i64 0] rfl rfl HR.out Try.sizePl rfl (one_i64 _ _) ?_)
      intro a3 hxR kR zR
      clear zR
      have HBm := Lib.hid (HB.out.trans (kR.below (B := w.heap.size) (fun y hy e => by have := WR.out; omega) HB.out.size))
      have HRm := Lib.hid hxR
      clear hxR kR HB HR
      have HB := HBm
      have HR := HRm
      clear HBm HRm
      go_wp2_with fail
      exact bodyPost_ret (res_row_val rfl _ _ R _ _ _ _ rfl HR.out Try.underlying81 rfl Try.sizePl _ rfl) rfl ⟨0, 0, false, rfl, (fun h => by cases h), (fun _ => readF_other HP.out H2.out), HB.out⟩

set_option maxHeartbeats 4000000 in
set_option maxRecDepth 100000 in
theorem pkey_any {b n : Int} (hb : -9223372036854775808 ≤ b ∧ b < 9223372036854775808) (hn : -9223372036854775808 ≤ n ∧ n < 9223372036854775808) (w : World) : Calls Try.prog 40 #[.agg #[.int .i64 b, .int .i64 n]] w (Ret w (.string (bs (keyF 26 [b, n])))) := by
  have HBN := Lib.hid (And.intro hb hn)
  clear hb hn
  go_enter Try.func40, Try.ntmps40
  have c0 : (w.alloc (.cells #[.int .i64 b, .int .i64 n] 81)).cell? ⟨w.heap.size, 0, none⟩ = some (.int .i64 b) := Lib.cell_of_heap (heap_alloc_new w _) 0
  have c1 : (w.alloc (.cells #[.int .i64 b, .int .i64 n] 81)).cell? ⟨w.heap.size, 1, none⟩ = some (.int .i64 n) := Lib.cell_of_heap (heap_alloc_new w _) 1
  go_wp2_with fail
  clear c0 c1
  obtain ⟨w1, hw1⟩ : ∃ w1, w1 = w.alloc (.cells #[.int .i64 b, .int .i64 n] 81) := ⟨_, rfl⟩
  have hb1 : Below w.heap.size w w1 := by rw [hw1]; exact below_new _ _
  rw [← hw1]
  obtain ⟨w2, hw2⟩ : ∃ w2, w2 = w1.alloc (.cells #[.int .i64 b, .int .i64 n] 3) := ⟨_, rfl⟩
  obtain ⟨gi, hgi⟩ : ∃ gi, gi = w1.heap.size := ⟨_, rfl⟩
  have hgi2 : w.heap.size + 1 = gi := by rw [hgi, hw1, World.size_alloc]
  try rw [hgi2]
  try rw [← hgi]
  rw [← hw2]
  have HOI : Hid (Own w2 0 3 intE 1 (.slice (some ⟨gi, 0, none⟩) 2 2) [b, n]) := Lib.hid (own_lit (l := [b, n]) (by rw [hw2, hgi]; exact heap_alloc_new _ _) (Nat.zero_le _) (by unfold maxLen; simp))
  have HB : Hid (Below w.heap.size w w2) := Lib.hid (by rw [hw2]; exact hb1.trans ((below_new w1 _).mono hb1.size))
  clear hw1 hw2 hgi hgi2 hb1
  refine (key_any 26 [b, n] _ _ (by simp) (I64s.two HBN.out.1 HBN.out.2) (own_rd HOI.out)).mono ?_
  rintro e w3 ⟨rfl, hb⟩
  have HBF := Lib.hid (HB.out.trans (hb.mono HB.out.size))
  clear hb
  go_wp2_with fail
  go_ret
  exact ⟨rfl, HBF.out⟩

set_option maxHeartbeats 4000000 in
set_option maxRecDepth 100000 in
theorem dlen_any {w : World} {x : Option Addr} {m : Bool} {f : Txt → Option Txt} (h : Look w x m f) (hf : FitF f) : Calls Try.prog 14 #[.pointer x] w (Ret w (.int .i64 (getI f (keyF 27 [])))) := by
  have H := Lib.hid h; have HF := Lib.hid hf
  clear h hf
  go_enter Try.func14, Try.ntmps14
  go_wp2_with fail
  refine (key_any 27 [] _ _ (by simp) I64s_nil (Rd.nil _ _ _)).mono ?_
  rintro e w1 ⟨rfl, hb⟩
  have HB := Lib.hid hb
  clear hb
  go_wp2_with fail
  refine (int_any (H.out.later HB.out) HF.out (keyF 27 [])).mono ?_
  rintro e w2 ⟨rfl, hb⟩
  have HB2 := Lib.hid (HB.out.trans (hb.mono HB.out.size))
  clear hb
  go_wp2_with fail
  go_ret
  exact ⟨rfl, HB2.out⟩
theorem all_any (x : Option Addr) (k : Txt) (w : World) : Calls Try.prog 38 #[.pointer x, .string (bs k)] w fun e w' => e = .returned (.func (.func 74) #[] #[.pointer (some ⟨w.heap.size, 0, none⟩), .pointer (some ⟨w.heap.size + 1, 0, none⟩)]) ∧ w' = (w.alloc (.cells #[.pointer x] 30)).alloc (.cells #[.string (bs k)] 9) := by
  go_enter Try.func38, Try.ntmps38
  go_wp2
  go_ret
  exact ⟨rfl, rfl⟩

/-! ### the iterator -/
structure DRow where
  b : Int
  n : Int
  v : Value
  l : List Int
def drE (x : DRow) : Array Value := #[.agg #[.int .i64 x.b, .int .i64 x.n], x.v]
def drK (x : DRow) : (Int × Int) × List Int := ((x.b, x.n), x.l)
/-- A pair as a row that is due. -/
def rowT (p : Txt × Txt) : Option ((Int × Int) × List Int) := match readF p.1, numsF p.2 with
  | some x, some l => some (x, l)
  | _, _ => none
def rowsT (t : Tab) : List ((Int × Int) × List Int) := t.filterMap rowT
theorem rowsT_nil : rowsT [] = [] := rfl
theorem rowsT_take {t : Tab} {i : Nat} (h : i < t.length) : rowsT (t.take (i + 1)) = rowsT (t.take i) ++ (rowT t[i]).toList := by
  unfold rowsT
  rw [List.take_succ_eq_append_getElem h, List.filterMap_append, List.filterMap_cons]
  cases rowT t[i] <;> rfl
theorem rowsT_len (t : Tab) : (rowsT t).length ≤ t.length := List.length_filterMap_le _ _
theorem rowsT_prefix (t : Tab) (i : Nat) : rowsT (t.take i) <+: rowsT t := by
  refine ⟨rowsT (t.drop i), ?_⟩
  unfold rowsT
  rw [← List.filterMap_append, List.take_append_drop]
/-- What holds of a row where it is yielded. -/
def drG (T : Tab) (x : DRow) (W : World) : Prop := LO W 3 intE 1 x.v x.l ∧ drK x ∈ rowsT T
theorem rowsT_mem {t : Tab} {p : Txt × Txt} {y : (Int × Int) × List Int} (h : p ∈ t) (hp : rowT p = some y) : y ∈ rowsT t := List.mem_filterMap.2 ⟨p, h, hp⟩
/-- What a round's body must keep: the pairs that were told. -/
def KpP (A B : World) : Prop := A.heap.size ≤ B.heap.size ∧ ∀ (k : Nat) (cs : Array Value) (fr : Nat × Nat), A.heap[k]? = some (.cells cs 99 fr) → B.heap[k]? = some (.cells cs 99 fr)
theorem KpP.refl (A : World) : KpP A A := ⟨Nat.le_refl _, fun _ _ _ h => h⟩
theorem KpP.trans {A B C : World} (h : KpP A B) (k : KpP B C) : KpP A C := ⟨Nat.le_trans h.1 k.1, fun i cs fr hi => k.2 i cs fr (h.2 i cs fr hi)⟩
theorem KpP.aside {B : Nat} {A A' : World} (h : Aside B A A') : KpP A A' := ⟨h.size, fun k _ _ hk => h.keep k _ hk (.inr rfl)⟩
theorem KpP.below {A A' : World} (h : Below A.heap.size A A') : KpP A A' := KpP.aside (Aside.of_below (B := 0) h)
theorem LO.kpp {w w' : World} {v : Value} {t : Tab} (h : LO w 99 pairE 2 v t) (k : KpP w w') : LO w' 99 pairE 2 v t := by
  rcases h with h | ⟨g, cap, cur, rfl, hh, r⟩
  · exact .inl h
  · exact .inr ⟨g, cap, cur, rfl, k.2 g _ _ hh, r⟩

set_option maxHeartbeats 8000000 in
set_option maxRecDepth 100000 in
theorem all_seq {w : World} {x : Option Addr} {T : Tab} {b : Txt} {A1 A2 : Nat} (h1 : w.heap[A1]? = some (.cells #[.pointer x] 30 (0, 0))) (h2 : w.heap[A2]? = some (.cells #[.string (bs b)] 9 (0, 0)))
    (hU : ∀ W, Below w.heap.size w W → Calls Try.prog 54 #[.pointer x, .string (bs b)] W (CloneRet W 99 pairE 2 T)) (hT : T.length < 1099511627776) (hs : ∀ p ∈ T, p.1.length ≤ 1000000 ∧ p.2.length ≤ 1000000) (n : Nat) :
    SeqG n Try.prog 74 #[.pointer (some ⟨A1, 0, none⟩), .pointer (some ⟨A2, 0, none⟩)] drE (drG T) KpP (fun xs => xs.map drK = rowsT T) (fun pre => pre.map drK <+: rowsT T) T.length w := by
  intro lp J Jx W hbW hJ hJx hY h0
  refine callsIn_wide.2 ?_
  show Calls _ _ #[.func (.yield lp) #[] #[], .pointer (some ⟨A1, 0, none⟩), .pointer (some ⟨A2, 0, none⟩)] W _
  have HU := Lib.hid (hU W hbW); have HJ := Lib.hid hJ; have HY := Lib.hid hY; have HS := Lib.hid hs; have J0 := Lib.hid h0
  have c1 : W.cell? ⟨A1, 0, none⟩ = some (.pointer x) := Lib.cell_of_heap (below_at' hbW h1) 0
  have c2 : W.cell? ⟨A2, 0, none⟩ = some (.string (bs b)) := Lib.cell_of_heap (below_at' hbW h2) 0
  clear h1 h2 hU hbW hJ hJx hY h0 hs
  go_enter Try.func74, Try.ntmps74
  go_wp2_with fail
  clear c1 c2
  refine HU.out.mono ?_
  rintro e w1 ⟨v, rfl, hl, hb, _⟩
  obtain ⟨ad, cap, rfl, z1, z2⟩ := hl.shape
  obtain ⟨N, hN⟩ : ∃ N, N = T.length := ⟨_, rfl⟩
  rw [← hN] at hl z1 hT ⊢
  have HL := Lib.hid hl; have HN := Lib.hid hN; have J1 := Lib.hid (HJ.out _ _ _ J0.out hb)
  clear hl hb hN J0 HU
  go_wp2_with fail
  go_loopw [14] (fun vi wr => ∃ (i : Nat) (pre : List DRow), vi = .int .i64 i ∧ i ≤ N ∧ Hid (pre.map drK = rowsT (T.take i)) ∧ Hid (LO wr 99 pairE 2 (.slice ad N cap) T) ∧ Hid (J pre wr)) (fun vi _ => N - (intOf vi).toNat)
  case atStart => exact ⟨0, [], rfl, Nat.zero_le _, Lib.hid rfl, HL, J1⟩
  case round =>
    clear HL J1
    obtain ⟨i, pre, rfl, hin, HP, HL, HJ1⟩ := hrel
    by_cases hlt : i < N
    · have hi : i < T.length := by rw [← HN.out]; exact hlt
      obtain ⟨gL, rfl, hgL, q0, q1⟩ := LO.pair HL.out i hi
      have hss := HS.out _ (List.getElem_mem hi)
      have hrt := rowsT_take hi
      have hmm : T[i] ∈ T := List.getElem_mem hi
      obtain ⟨⟨kk, vv⟩, hp⟩ : ∃ p, p = T[i] := ⟨_, rfl⟩
      rw [← hp] at q0 q1 hss hrt hmm
      have q0' : wr.cell? ⟨gL, i * 2, none⟩ = some (.string (bs kk)) := q0
      have q1' : wr.cell? ⟨gL, i * 2 + 1, none⟩ = some (.string (bs vv)) := q1
      have HSS : Hid (kk.length ≤ 1000000 ∧ vv.length ≤ 1000000) := Lib.hid hss
      have HRT := Lib.hid hrt; have HLT := Lib.hid hlt; have HMM := Lib.hid hmm
      clear q0 q1 hss hrt hmm hp hgL hi hlt
      go_wp2_with (refine wpList_alloc_g rfl _ rfl _ _ Try.zeroPairE rfl ?_)
      intro P d1 hP
      go_wp2_with (refine wpList_store_row_g (t := 99) (old := #[.string (bs []), .string (bs [])]) rfl 99 _ _ rfl P #[.string (bs kk), .string (bs vv)] rfl rfl hP.out.cells Try.sizePair rfl (one_str _ _) ?_)
      intro d2 hxP kP zP
      clear zP
      have hbP : Below wr.heap.size wr d2 := hP.out.below.trans (kP.below (B := wr.heap.size) (fun x hx e => by have := hP.out.eq; omega) hP.out.below.size)
      have HPPz := Lib.hid hxP
      clear hP hxP kP
      have HLm := Lib.hid (HL.out.later hbP)
      have HJ1m := Lib.hid (HJ.out _ _ _ HJ1.out hbP)
      clear hbP HL HJ1
      have HL := HLm
      have HJ1 := HJ1m
      clear HLm HJ1m
      have HPP := HPPz
      clear HPPz
      clear q0' q1'
      have c0 : d2.cell? ⟨P, 0, none⟩ = some (.string (bs kk)) := Lib.cell_of_heap HPP.out 0
      go_wp2_with fail
      clear c0
      refine (read_any kk _ HSS.out.1).mono ?_
      rintro e d3 ⟨xb, xn, q, rfl, hq1, hq2, hb⟩
      have HQA := Lib.hid (And.intro hq1 hq2)
      clear hq1 hq2
      have HLm := Lib.hid (HL.out.later hb)
      have HJ1m := Lib.hid (HJ.out _ _ _ HJ1.out hb)
      have HPPm := Lib.hid (below_at' hb HPP.out)
      clear hb HL HJ1 HPP
      have HL := HLm
      have HJ1 := HJ1m
      have HPP := HPPm
      clear HLm HJ1m HPPm
      go_wp2_with (refine wpList_alloc_g rfl _ rfl _ _ Try.zeroPl rfl ?_)
      intro Q d4 hQ
      go_wp2_with (refine wpList_store_row_g (t := 81) (old := #[.int .i64 0, .int .i64 0]) rfl 81 _ _ rfl Q #[.int .i64 xb, .int .i64 xn] rfl rfl hQ.out.cells Try.sizePl rfl (one_i64 _ _) ?_)
      intro d5 hxQ kQ zQ
      clear zQ
      have hbQ : Below d3.heap.size d3 d5 := hQ.out.below.trans (kQ.below (B := d3.heap.size) (fun x hx e => by have := hQ.out.eq; omega) hQ.out.below.size)
      have NPQ : Hid (P ≠ Q) := Lib.hid (by have := hQ.out.eq; have := heap_lt HPP.out; omega)
      have HQz := Lib.hid hxQ
      clear hQ hxQ kQ
      have HLm := Lib.hid (HL.out.later hbQ)
      have HJ1m := Lib.hid (HJ.out _ _ _ HJ1.out hbQ)
      have HPPm := Lib.hid (below_at' hbQ HPP.out)
      clear hbQ HL HJ1 HPP
      have HL := HLm
      have HJ1 := HJ1m
      have HPP := HPPm
      clear HLm HJ1m HPPm
      have HQ := HQz
      clear HQz
      have c0 : d5.cell? ⟨P, 1, none⟩ = some (.string (bs vv)) := Lib.cell_of_heap HPP.out 1
      go_wp2_with fail
      clear c0
      refine (nums_any (bs vv) _ (by rw [bs_size]; have := HSS.out.2; omega)).mono ?_
      intro e d6 hsay
      obtain ⟨hb, hor⟩ := says_cases hsay
      rw [show (bs vv).data.toList = vv from rfl] at hor
      clear hsay
      have HLm := Lib.hid (HL.out.later hb)
      have HJ1m := Lib.hid (HJ.out _ _ _ HJ1.out hb)
      have HPPm := Lib.hid (below_at' hb HPP.out)
      have HQm := Lib.hid (below_at' hb HQ.out)
      clear hb HL HJ1 HPP HQ
      have HL := HLm
      have HJ1 := HJ1m
      have HPP := HPPm
      have HQ := HQm
      clear HLm HJ1m HPPm HQm
      obtain ⟨xs, v, hx, rfl, ho⟩ | ⟨hx, rfl⟩ := hor
      · have HX := Lib.hid hx; have HO := Lib.hid (LO.of_own ho)
        obtain ⟨adv, capv, rfl, y1, y2⟩ := HO.out.shape
        clear hx ho
        cases q with
        | false =>
          have HE : Hid (pre.map drK = rowsT (T.take (i + 1))) := Lib.hid (by rw [HRT.out, show rowT (kk, vv) = none by unfold rowT; rw [HQA.out.2 rfl], HP.out]; simp)
          go_wp2_with fail
          go_roundw
          case rel => exact ⟨i + 1, pre, by go_num, HLT.out, HE, HL, HJ1⟩
          case measure => have := HLT.out; simp [intOf]; omega
        | true =>
          have HRV : Hid (rowT (kk, vv) = some ((xb, xn), xs)) := Lib.hid (by unfold rowT; rw [HQA.out.1 rfl, HX.out])
          obtain ⟨m, hm⟩ : ∃ m, m = xs.length := ⟨_, rfl⟩
          rw [← hm] at y1 ⊢
          have HO2 : Hid (LO d6 3 intE 1 (.slice adv m capv) xs) := Lib.hid (by rw [hm]; exact HO.out)
          have HPRE : Hid ((pre ++ [(⟨xb, xn, .slice adv m capv, xs⟩ : DRow)]).map drK = rowsT (T.take (i + 1))) := Lib.hid (by rw [HRT.out, HRV.out, List.map_append, HP.out]; rfl)
          have hln : pre.length < T.length := by
            have h8 := congrArg List.length HP.out
            rw [List.length_map] at h8
            have h9 := rowsT_len (T.take i)
            rw [List.length_take] at h9
            have h7 := HLT.out
            have h6 := HN.out
            omega
          obtain ⟨fn, tmps, assign, body, hy, hR⟩ := HY.out pre ⟨xb, xn, .slice adv m capv, xs⟩ d6 HJ1.out ⟨HO2.out, rowsT_mem HMM.out HRV.out⟩ hln
          clear hln
          simp only [drE] at hy
          have HR := Lib.hid hR
          have c60 : d6.cell? ⟨Q, 0, none⟩ = some (.int .i64 xb) := Lib.cell_of_heap HQ.out 0
          have c61 : d6.cell? ⟨Q, 1, none⟩ = some (.int .i64 xn) := Lib.cell_of_heap HQ.out 1
          clear hR hm HO
          go_upto_region 5 with fail
          refine (wpIn_wide (n := n)).1 ?_
          gi_wp2_with fail
          refine ⟨fun h => (by cases h), HR.out.mono ?_⟩
          rintro e w9 (⟨rfl, hj9, hk9⟩ | ⟨rfl, hj9⟩)
          · have HL9 := Lib.hid (HL.out.kpp hk9); have HJ9 := Lib.hid hj9
            clear hk9 hj9 hy c60 c61
            gi_wp2_with fail
            go_wp2_with fail
            go_roundw
            case rel => exact ⟨i + 1, _, by go_num, HLT.out, HPRE, HL9, HJ9⟩
            case measure => have := HLT.out; simp [intOf]; omega
          · have HJ9 := Lib.hid hj9
            clear hj9 hy c60 c61
            gi_wp2_with fail
            go_wp2_with fail
            refine bodyPost_ret (results_none rfl _ _ _) rfl ?_
            exact ⟨⟨_, rfl⟩, .inr ⟨_, by rw [HPRE.out]; exact rowsT_prefix _ _, HJ9.out⟩⟩
      · have HX := Lib.hid hx
        clear hx
        cases q with
        | false =>
          have HE : Hid (pre.map drK = rowsT (T.take (i + 1))) := Lib.hid (by rw [HRT.out, show rowT (kk, vv) = none by unfold rowT; rw [HX.out]; split <;> first | rfl | simp_all, HP.out]; simp)
          go_wp2_with fail
          go_roundw
          case rel => exact ⟨i + 1, pre, by go_num, HLT.out, HE, HL, HJ1⟩
          case measure => have := HLT.out; simp [intOf]; omega
        | true =>
          have HE : Hid (pre.map drK = rowsT (T.take (i + 1))) := Lib.hid (by rw [HRT.out, show rowT (kk, vv) = none by unfold rowT; rw [HX.out]; split <;> first | rfl | simp_all, HP.out]; simp)
          go_wp2_with fail
          go_roundw
          case rel => exact ⟨i + 1, pre, by go_num, HLT.out, HE, HL, HJ1⟩
          case measure => have := HLT.out; simp [intOf]; omega
    · obtain rfl : i = N := by omega
      have HE : Hid (pre.map drK = rowsT T) := Lib.hid (by have h8 := HP.out; rwa [List.take_of_length_le (by rw [HN.out]; exact Nat.le_refl _)] at h8)
      clear HP
      go_wp2_with fail
      go_end0
      exact ⟨⟨_, rfl⟩, .inl ⟨pre, HE.out, HJ1.out⟩⟩
end Go.Proofs.Ythnjakomkdlglaa
