/- cell.Row, put, SetRow, and the document's Row, SetRow: their contracts. -/
import Derived.Test.YthnjakomkdlglaaCelP
import Derived.Test.YthnjakomkdlglaaLiv
namespace Go.Proofs.Ythnjakomkdlglaa
open Go.RowKit

/-- A row of numbers is handed back. -/
def RowRet (w : World) (l : List Int) (e : Ending) (w' : World) : Prop := ∃ v, e = .returned v ∧ Own w' w.heap.size 3 intE 1 v l ∧ Below w.heap.size w w'
theorem RowRet.rd {w w' : World} {l : List Int} {v : Value} (h : Own w' w.heap.size 3 intE 1 v l) : Rd w' intE 1 v l := h.rd fun _ => rfl
theorem row_says {w w' : World} {t : Txt} {e : Ending} (h : NumsSays w t e w') : ∃ v b, e = .returned (.tuple #[v, .bool b]) ∧ Own w' w.heap.size 3 intE 1 v (rowF t) ∧ Below w.heap.size w w' ∧ (b = false → v = .slice none 0 0) := by
  obtain ⟨hb, h⟩ := h
  unfold rowF
  split at h
  · rename_i xs hx; obtain ⟨v, rfl, ho⟩ := h; rw [hx]; exact ⟨v, true, rfl, ho, hb, fun h => by cases h⟩
  · rename_i hx; subst h; rw [hx]; exact ⟨_, false, rfl, Own.nil _ _ _ _ _, hb, fun _ => rfl⟩
theorem bs_le {t : Txt} {n : Nat} (h : t.length ≤ n) : (bs t).size ≤ n := by rw [bs_size]; exact h

set_option maxHeartbeats 1000000 in
theorem row_any {w : World} {x : Option Addr} {m : Bool} {f : Txt → Option Txt} (h : Look w x m f) (hf : FitF f) (k : Txt) :
    Calls Try.prog 84 #[.pointer x, .string (bs k)] w (RowRet w (rowF (valF f k))) := by
  have H := Lib.hid h; have HV := Lib.hid (hf k)
  clear h hf
  obtain ⟨v, hv⟩ : ∃ v, v = valF f k := ⟨_, rfl⟩
  have HVV := Lib.hid hv
  rw [← hv] at HV ⊢
  clear hv
  go_enter Try.func84, Try.ntmps84
  go_wp2_with fail
  refine (lget_any H.out k).mono ?_
  rintro e w1 ⟨rfl, rfl⟩
  obtain ⟨b0, hb0⟩ : ∃ b, b = (f k).isSome := ⟨_, rfl⟩
  rw [← hb0, show (f k).getD [] = valF f k from rfl, ← HVV.out]
  clear hb0
  go_wp2_with fail
  refine (nums_any (bs v) _ (Nat.le_trans (bs_le HV.out) (by decide))).mono ?_
  intro e w1 hr
  obtain ⟨u, b, rfl, ho, hb, hn⟩ := row_says hr
  have HO := Lib.hid ho; have HB := Lib.hid hb
  clear hr ho hb
  cases b with
  | true =>
    clear hn
    go_wp2_with fail
    go_ret
    exact ⟨_, rfl, HO.out, HB.out⟩
  | false =>
    obtain rfl := hn rfl
    clear hn
    go_wp2_with fail
    go_ret
    exact ⟨_, rfl, HO.out, HB.out⟩

set_option maxHeartbeats 1000000 in
theorem rrow_any {w : World} {g : Nat} {s : PS} {F : List Nat} (h : RS w g s F) (hz : s.sz < 1099511627776) (hf : Fit s) (k : Txt) :
    Calls Try.prog 92 #[.pointer (some ⟨g, 0, none⟩), .string (bs k)] w (RowRet w (rowF (valF (getP s.t) k))) := by
  have H := Lib.hid h; have HV := Lib.hid (hf.val k)
  have hz2 : s.t.length < 4611686018427387904 := by unfold PS.sz at hz; omega
  have HZ := Lib.hid hz2
  clear h hf hz hz2
  obtain ⟨v, hv⟩ : ∃ v, v = valF (getP s.t) k := ⟨_, rfl⟩
  have HVV := Lib.hid hv
  rw [← hv] at HV ⊢
  clear hv
  go_enter Try.func92, Try.ntmps92
  go_wp2_with fail
  refine (rget_any H.out HZ.out k).mono ?_
  rintro e w1 ⟨rfl, rfl⟩
  obtain ⟨b0, hb0⟩ : ∃ b, b = (getP s.t k).isSome := ⟨_, rfl⟩
  rw [← hb0, show (getP s.t k).getD [] = valF (getP s.t) k from rfl, ← HVV.out]
  clear hb0
  go_wp2_with fail
  refine (refNums_any (bs v) _ (Nat.le_trans (bs_le HV.out) (by decide))).mono ?_
  intro e w1 hr
  obtain ⟨u, b, rfl, ho, hb, hn⟩ := row_says hr
  have HO := Lib.hid ho; have HB := Lib.hid hb
  clear hr ho hb
  cases b with
  | true =>
    clear hn
    go_wp2_with fail
    go_ret
    exact ⟨_, rfl, HO.out, HB.out⟩
  | false =>
    obtain rfl := hn rfl
    clear hn
    go_wp2_with fail
    go_ret
    exact ⟨_, rfl, HO.out, HB.out⟩

set_option maxHeartbeats 1000000 in
theorem put_any {w : World} {g : Nat} {s : PS} {F : List Nat} (h : St w g s F) (hz : s.sz < 1099511627776) (k v : Txt) :
    Calls Try.prog 81 #[.pointer (some ⟨g, 0, none⟩), .string (bs k), .string (bs v)] w (StRet w g F (s.putv k v) (.tuple #[])) := by
  have L := Lib.hid (Liv.start h); have HZ := Lib.hid hz
  clear h hz
  by_cases hv : v = []
  · subst hv
    have j1 : (bs ([] : Txt)).toList = [] := toList_bs _
    have j2 : (bs ([] : Txt)).toList.isEmpty = true := by rw [toList_bs]; rfl
    have hp : s.putv k [] = s.del k := by unfold PS.putv; rw [if_pos rfl]
    rw [hp]
    clear hp
    go_enter Try.func81, Try.ntmps81
    go_wp2_with fail
    refine (L.out.call fun F h => sdel_any h (by have := HZ.out; unfold PS.sz at this; omega) (by have := HZ.out; unfold PS.sz at this; omega) k).mono ?_
    rintro e w1 ⟨rfl, L1, _⟩
    have L1 := Lib.hid L1
    go_wp2_with fail
    go_end0
    exact L1.out.ret
  · have j1 : (bs v).toList ≠ [] := by rw [toList_bs]; exact hv
    have j2 : (bs v).toList.isEmpty = false := by rw [toList_bs]; cases v <;> simp_all
    have j3 : ((bs v).toList == []) = false := by rw [toList_bs]; cases v <;> simp_all
    have hp : s.putv k v = s.set k v := by unfold PS.putv; rw [if_neg hv]
    rw [hp]
    clear hp hv
    go_enter Try.func81, Try.ntmps81
    go_wp2_with fail
    refine (L.out.call fun F h => sset_any h (by have := HZ.out; unfold PS.sz at this; omega) (by have := HZ.out; unfold PS.sz at this; omega) k v).mono ?_
    rintro e w1 ⟨rfl, L1, _⟩
    have L1 := Lib.hid L1
    go_wp2_with fail
    go_end0
    exact L1.out.ret

def flatT (l : List Int) (k : Nat) : Txt := (l.take k).flatMap numL
theorem flatT_zero (l : List Int) : flatT l 0 = [] := rfl
theorem flatT_succ (l : List Int) (k : Nat) (hk : k < l.length) : flatT l (k + 1) = flatT l k ++ numL l[k] := by
  unfold flatT; rw [List.take_succ_eq_append_getElem hk, List.flatMap_append]; simp
theorem flatT_len (l : List Int) (k : Nat) : (flatT l k).length ≤ 8 * l.length := by
  unfold flatT; rw [cflat_length, List.length_take]; omega
theorem setRow_neg {s : PS} {k : Txt} {l : List Int} {i : Nat} (hi : i < l.length) (h : l[i] < 0) : s.setRow k l = s := by
  unfold PS.setRow; rw [if_pos ⟨_, List.getElem_mem hi, h⟩]
theorem setRow_ok {s : PS} {k : Txt} {l : List Int} (h : ∀ x ∈ l, 0 ≤ x) : s.setRow k l = s.putv k (l.flatMap numL) := by
  unfold PS.setRow; rw [if_neg]
  rintro ⟨x, hx, h1⟩
  have := h x hx; omega
theorem setRow_done {s : PS} {k : Txt} {l : List Int} {i : Nat} (hi : ¬ i < l.length) (h : ∀ x ∈ l.take i, 0 ≤ x) : s.setRow k l = s.putv k (flatT l i) := by
  unfold flatT
  rw [List.take_of_length_le (by omega)] at h ⊢
  exact setRow_ok h

set_option maxHeartbeats 1000000 in
theorem setRow_any {w : World} {g : Nat} {s : PS} {F : List Nat} (h : St w g s F) (hz : s.sz < 1099511627776) (k : Txt) {l : List Int} {v : Value} (hl : l.length ≤ 100000000) (hi : I64s l) (hrd : Rd w intE 1 v l) :
    Calls Try.prog 41 #[.pointer (some ⟨g, 0, none⟩), .string (bs k), v] w (StRet w g F (s.setRow k l) (.tuple #[])) := by
  have L := Lib.hid (Liv.start h); have HZ := Lib.hid hz
  obtain ⟨ad, cap, rfl, hc1, hc2⟩ := hrd.shape
  clear h hz
  go_enter Try.func41, Try.ntmps41
  go_wp2_with fail
  have hb2 := (Below.refl w.heap.size w).alloc (Nat.le_refl _) (.cells #[.pointer none, .slice none 0 0] 132)
  have hbl := Bld.fresh w _ (Nat.le_refl w.heap.size)
  rw [← flatT_zero l] at hbl
  go_loopw [11] (fun i wr => ∃ k : Nat, k ≤ l.length ∧ i = .int .i64 k ∧ Hid (∀ x ∈ l.take k, 0 ≤ x) ∧ Bld wr w.heap.size w.heap.size (flatT l k) ∧ Below w.heap.size w wr) (fun i _ => l.length - (intOf i).toNat)
  case atStart => exact ⟨0, by omega, rfl, by simp [Hid], hbl, hb2⟩
  case round =>
    clear hbl hb2
    obtain ⟨i, hk, rfl, hp, hbl, hb⟩ := hrel
    have hz := hb.size
    by_cases hlt : i < l.length
    · obtain ⟨b, off, rfl, hbb, hcell⟩ := (hrd.later hb).at i hlt
      obtain ⟨n, hn⟩ : ∃ n, n = l[i] := ⟨_, rfl⟩
      rw [← hn] at hcell
      have hni := hi n (by rw [hn]; exact List.getElem_mem hlt)
      replace hcell : wr.cell? ⟨b, off + i, none⟩ = some (.int .i64 n) := hcell
      have hlen := flatT_len l i
      have HN := Lib.hid hn; clear hn
      by_cases hneg : n < 0
      · have hs : s.setRow k l = s := setRow_neg hlt (by rw [← HN.out]; exact hneg)
        have HS := Lib.hid hs; clear hs
        go_wp2
        go_end0
        have h1 := (L.out.later hb).ret (v := .tuple #[])
        rw [HS.out]
        exact h1
      · go_wp2_with (first | (go_at_call 79; refine (num_pos n _ (by omega) hni.2).mono ?_; rintro e w1 ⟨rfl, hb1⟩; have hbl1 := hbl.later hb1; have hb2 := hb.trans (hb1.mono hz); have hz2 := hb2.size; clear hb1) | (go_at_call 78; refine (writeString_any w.heap.size w.heap.size _ _ _ hbl1 (by rw [bs_size, numL_length]; omega) hz2).mono ?_; rintro e w2 ⟨rfl, hbl2, hb3⟩))
        have hkt : bs (numL n) = bs (numL l[i]) := by rw [HN.out]
        rw [show (bs (numL n)).data.toList = numL l[i] by rw [HN.out]; rfl, ← flatT_succ l i hlt] at hbl2
        have hp2 := take_nonneg hlt hp.out (by rw [← HN.out]; omega)
        go_roundw
        case rel => exact ⟨i + 1, by omega, by go_num, hp2, hbl2, hb2.trans hb3⟩
        case measure => simp [intOf]; omega
    · have hke := setRow_done (s := s) (k := k) hlt hp.out
      have HKE := Lib.hid hke
      clear hke
      go_wp2_with (go_at_call 80; refine (bString_any w.heap.size w.heap.size _ _ hbl hz).mono ?_; rintro e w1 ⟨rfl, hb1⟩)
      have L1 := Lib.hid (L.out.later (hb.trans hb1))
      clear hb hb1 hbl
      refine (L1.out.call fun F h => put_any h HZ.out k (flatT l i)).mono ?_
      rintro e w2 ⟨rfl, L2, _⟩
      have L2 := Lib.hid L2
      go_wp2_with fail
      go_end0
      rw [HKE.out]
      exact L2.out.ret

set_option maxHeartbeats 1000000 in
theorem rsetRow_any {w : World} {g : Nat} {s : PS} {F : List Nat} (h : RS w g s F) (hz0 : s.sz < 1099511627776) (k : Txt) {l : List Int} {v : Value} (hl : l.length ≤ 100000000) (hi : I64s l) (hrd : Rd w intE 1 v l) :
    Calls Try.prog 52 #[.pointer (some ⟨g, 0, none⟩), .string (bs k), v] w (RRet w g F (s.setRow k l) (.tuple #[])) := by
  have L := Lib.hid (RLiv.start h); have HZ := Lib.hid hz0
  obtain ⟨ad, cap, rfl, hc1, hc2⟩ := hrd.shape
  clear h hz0
  go_enter Try.func52, Try.ntmps52
  go_wp2_with fail
  go_loopw [6, 11] (fun s i wr => ∃ k : Nat, k ≤ l.length ∧ i = .int .i64 k ∧ Hid (∀ x ∈ l.take k, 0 ≤ x) ∧ s = .string (bs (flatT l k)) ∧ Below w.heap.size w wr) (fun _ i _ => l.length - (intOf i).toNat)
  case atStart => exact ⟨0, by omega, rfl, by simp [Hid], by rw [flatT_zero]; rfl, Below.refl _ _⟩
  case round =>
    obtain ⟨i, hk, rfl, hp, rfl, hb⟩ := hrel
    have hz := hb.size
    by_cases hlt : i < l.length
    · obtain ⟨b, off, rfl, hbb, hcell⟩ := (hrd.later hb).at i hlt
      obtain ⟨n, hn⟩ : ∃ n, n = l[i] := ⟨_, rfl⟩
      rw [← hn] at hcell
      have hni := hi n (by rw [hn]; exact List.getElem_mem hlt)
      replace hcell : wr.cell? ⟨b, off + i, none⟩ = some (.int .i64 n) := hcell
      have hlen := flatT_len l i
      have HN := Lib.hid hn; clear hn
      by_cases hneg : n < 0
      · have hs : s.setRow k l = s := setRow_neg hlt (by rw [← HN.out]; exact hneg)
        have HS := Lib.hid hs; clear hs
        go_wp2
        go_end0
        have h1 := (L.out.later hb).ret (v := .tuple #[])
        rw [HS.out]
        exact h1
      · have hsz := bs_size (flatT l i)
        have hszn : (bs (numL n)).size = 8 := by rw [bs_size, numL_length]
        go_wp2_with (first | (go_at_call 90; refine (refNum_pos n _ (by omega) hni.2).mono ?_; rintro e w1 ⟨rfl, hb1⟩; have hb2 := hb.trans (hb1.mono hz); have hz2 := hb2.size; clear hb1))
        have hp2 := take_nonneg hlt hp.out (by rw [← HN.out]; omega)
        go_roundw
        case rel => exact ⟨i + 1, by omega, by go_num, hp2, by rw [bs_append, flatT_succ l i hlt, HN.out], hb2⟩
        case measure => simp [intOf]; omega
    · have hke := setRow_done (s := s) (k := k) hlt hp.out
      have L1 := Lib.hid (L.out.later hb)
      obtain ⟨x, hx⟩ : ∃ x, x = flatT l i := ⟨_, rfl⟩
      rw [← hx] at hke ⊢
      have HKE := Lib.hid hke
      clear hke hx hb hp
      by_cases hv : x = []
      · subst hv
        have j1 : (bs ([] : Txt)).toList = [] := toList_bs _
        have j2 : (bs ([] : Txt)).toList.isEmpty = true := by rw [toList_bs]; rfl
        have hq : s.setRow k l = s.del k := by rw [HKE.out]; unfold PS.putv; rw [if_pos rfl]
        have HQ := Lib.hid hq
        clear hq
        go_wp2_with fail
        refine (L1.out.call fun F h => rdel_any h (by have := HZ.out; unfold PS.sz at this; omega) (by have := HZ.out; unfold PS.sz at this; omega) k).mono ?_
        rintro e w1 ⟨rfl, L2, _⟩
        have L2 := Lib.hid L2
        go_wp2_with fail
        go_end0
        rw [HQ.out]
        exact L2.out.ret
      · have j1 : (bs x).toList ≠ [] := by rw [toList_bs]; exact hv
        have j2 : (bs x).toList.isEmpty = false := by rw [toList_bs]; cases x <;> simp_all
        have j3 : ((bs x).toList == []) = false := by rw [toList_bs]; cases x <;> simp_all
        have hq : s.setRow k l = s.set k x := by rw [HKE.out]; unfold PS.putv; rw [if_neg hv]
        have HQ := Lib.hid hq
        clear hq hv
        go_wp2_with fail
        refine (L1.out.call fun F h => rset_any h (by have := HZ.out; unfold PS.sz at this; omega) (by have := HZ.out; unfold PS.sz at this; omega) k x).mono ?_
        rintro e w1 ⟨rfl, L2, _⟩
        have L2 := Lib.hid L2
        go_wp2_with fail
        go_end0
        rw [HQ.out]
        exact L2.out.ret
end Go.Proofs.Ythnjakomkdlglaa
