/- keys.Parse and its reference, Ints: their contracts. -/
import Derived.Test.YthnjakomkdlglaaKeysC
import Derived.Deep.QuietTactic
import Derived.BigQuiet
import Derived.WalkSmall
namespace Go.Proofs.Ythnjakomkdlglaa
open Go.RowKit

/-- What Parse answers: a table and numbers. -/
def parseF : List UInt8 → Option (Int × List Int)
  | [] => none
  | c :: l => if c.toNat = 0 then none else match numsF l with
    | none => none
    | some xs => some ((c.toNat : Int), xs)

def ParseSays (w : World) (l : List UInt8) (e : Ending) (w' : World) : Prop :=
  Below w.heap.size w w' ∧ match parseF l with
    | some (t, xs) => ∃ v, e = .returned (.tuple #[.int .i64 t, v, .bool true]) ∧ Own w' w.heap.size 3 intE 1 v xs
    | none => e = .returned (.tuple #[.int .i64 0, .slice none 0 0, .bool false])
theorem psays_none {w w' : World} {l : List UInt8} (h : parseF l = none) (hb : Below w.heap.size w w') : ParseSays w l (.returned (.tuple #[.int .i64 0, .slice none 0 0, .bool false])) w' := by
  unfold ParseSays; rw [h]; exact ⟨hb, rfl⟩
theorem psays_some {w w' : World} {l : List UInt8} {t : Int} {xs : List Int} {v : Value} (h : parseF l = some (t, xs)) (hb : Below w.heap.size w w') (ho : Own w' w.heap.size 3 intE 1 v xs) : ParseSays w l (.returned (.tuple #[.int .i64 t, v, .bool true])) w' := by
  unfold ParseSays; rw [h]; exact ⟨hb, v, rfl, ho⟩

theorem says_cases {w w' : World} {l : List UInt8} {e : Ending} (h : NumsSays w l e w') : Below w.heap.size w w' ∧ ((∃ xs v, numsF l = some xs ∧ e = .returned (.tuple #[v, .bool true]) ∧ Own w' w.heap.size 3 intE 1 v xs) ∨ (numsF l = none ∧ e = .returned (.tuple #[.slice none 0 0, .bool false]))) := by
  obtain ⟨hb, h⟩ := h
  refine ⟨hb, ?_⟩
  split at h
  · rename_i xs hx; obtain ⟨v, h1, h2⟩ := h; exact .inl ⟨xs, v, hx, h1, h2⟩
  · rename_i hx; exact .inr ⟨hx, h⟩

set_option maxHeartbeats 1000000 in
theorem parse_any (s : ByteArray) (w : World) (hs : s.size ≤ 1000000000) :
    Calls Try.prog 108 #[.string s] w (ParseSays w s.data.toList) := by
  obtain ⟨l, rfl⟩ : ∃ l, s = bs l := ⟨s.data.toList, rfl⟩
  rw [bs_size] at hs
  cases l with
  | nil =>
    have hemp : (bs []).toList.isEmpty = true := bs_isEmpty []
    go_enter Try.func108, Try.ntmps108
    go_wp2
    go_ret3
    exact psays_none rfl (Below.refl _ _)
  | cons c l =>
    have hlen : (bs (c :: l)).size = l.length + 1 := bs_size _
    have hemp : (bs (c :: l)).toList.isEmpty = false := bs_isEmpty (c :: l)
    have h00 : (bs (c :: l))[0]'(by rw [bs_size]; simp) = c := rfl
    have htl := bs_tail c l
    have hls : (bs l).size ≤ 1000000000 := by rw [bs_size]; simp at hs; omega
    have hcl := c.toNat_lt
    by_cases hc : c.toNat = 0
    · have hc0 : ((c.toNat : Int) == 0) = true := by rw [hc]; rfl
      have hpn : Hid (parseF (c :: l) = none) := if_pos hc
      clear hc
      go_enter Try.func108, Try.ntmps108
      go_wp2
      go_ret3
      exact psays_none hpn.out (Below.refl _ _)
    · have hc0 : ((c.toNat : Int) == 0) = false := by simp; omega
      have hpn : Hid (parseF (c :: l) = match numsF l with | none => none | some xs => some ((c.toNat : Int), xs)) := if_neg hc
      go_enter Try.func108, Try.ntmps108
      go_wp2_with fail
      refine (nums_any (bs l) _ hls).mono ?_
      intro e w1 hsay
      obtain ⟨hb, ⟨xs, v, hx, rfl, hown⟩ | ⟨hx, rfl⟩⟩ := says_cases hsay
      · have hp2 := hpn.out
        rw [show (bs l).data.toList = l from rfl] at hx
        rw [hx] at hp2
        have hp3 := Lib.hid hp2
        clear hp2 hx hpn hsay
        go_wp2
        go_ret3
        exact psays_some hp3.out hb hown
      · have hp2 := hpn.out
        rw [show (bs l).data.toList = l from rfl] at hx
        rw [hx] at hp2
        have hp3 := Lib.hid hp2
        clear hp2 hx hpn hsay
        go_wp2
        go_ret3
        exact psays_none hp3.out hb

set_option maxHeartbeats 1000000 in
theorem refParse_any (s : ByteArray) (w : World) (hs : s.size ≤ 1000000000) :
    Calls Try.prog 86 #[.string s] w (ParseSays w s.data.toList) := by
  obtain ⟨l, rfl⟩ : ∃ l, s = bs l := ⟨s.data.toList, rfl⟩
  rw [bs_size] at hs
  cases l with
  | nil =>
    have hemp : (bs []).toList.isEmpty = true := bs_isEmpty []
    go_enter Try.func86, Try.ntmps86
    go_wp2
    go_ret3
    exact psays_none rfl (Below.refl _ _)
  | cons c l =>
    have hlen : (bs (c :: l)).size = l.length + 1 := bs_size _
    have hemp : (bs (c :: l)).toList.isEmpty = false := bs_isEmpty (c :: l)
    have h00 : (bs (c :: l))[0]'(by rw [bs_size]; simp) = c := rfl
    have htl := bs_tail c l
    have hls : (bs l).size ≤ 1000000000 := by rw [bs_size]; simp at hs; omega
    have hcl := c.toNat_lt
    by_cases hc : c.toNat = 0
    · have hc0 : ((c.toNat : Int) == 0) = true := by rw [hc]; rfl
      have hpn : Hid (parseF (c :: l) = none) := if_pos hc
      clear hc
      go_enter Try.func86, Try.ntmps86
      go_wp2
      go_ret3
      exact psays_none hpn.out (Below.refl _ _)
    · have hc0 : ((c.toNat : Int) == 0) = false := by simp; omega
      have hpn : Hid (parseF (c :: l) = match numsF l with | none => none | some xs => some ((c.toNat : Int), xs)) := if_neg hc
      go_enter Try.func86, Try.ntmps86
      go_wp2_with fail
      refine (refNums_any (bs l) _ hls).mono ?_
      intro e w1 hsay
      obtain ⟨hb, ⟨xs, v, hx, rfl, hown⟩ | ⟨hx, rfl⟩⟩ := says_cases hsay
      · have hp2 := hpn.out
        rw [show (bs l).data.toList = l from rfl] at hx
        rw [hx] at hp2
        have hp3 := Lib.hid hp2
        clear hp2 hx hpn hsay
        go_wp2
        go_ret3
        exact psays_some hp3.out hb hown
      · have hp2 := hpn.out
        rw [show (bs l).data.toList = l from rfl] at hx
        rw [hx] at hp2
        have hp3 := Lib.hid hp2
        clear hp2 hx hpn hsay
        go_wp2
        go_ret3
        exact psays_none hp3.out hb

/-- ints: the very same? -/
theorem take_eq {α : Type} {l m : List α} {k : Nat} (h1 : k < l.length) (h2 : k < m.length) (h : l.take k = m.take k) (he : l[k] = m[k]) : l.take (k + 1) = m.take (k + 1) := by
  rw [List.take_succ_eq_append_getElem h1, List.take_succ_eq_append_getElem h2, h, he]

set_option maxHeartbeats 1000000 in
theorem ints_any (l m : List Int) (u v : Value) (w : World) (hu : Rd w intE 1 u l) (hv : Rd w intE 1 v m) :
    Calls Try.prog 46 #[u, v] w (Ret w (.bool (decide (l = m)))) := by
  obtain ⟨ad, cap, rfl, hc1, hc2⟩ := hu.shape
  obtain ⟨ad2, cap2, rfl, hc3, hc4⟩ := hv.shape
  by_cases hne : l.length = m.length
  · have hd : ((l.length : Int) != (m.length : Int)) = false := by rw [hne]; simp
    have HN := Lib.hid hne; clear hne
    go_enter Try.func46, Try.ntmps46
    go_wp2
    go_loopw [13] (fun i wr => ∃ k : Nat, k ≤ l.length ∧ i = .int .i64 k ∧ Hid (l.take k = m.take k) ∧ Below w.heap.size w wr) (fun i _ => l.length - (intOf i).toNat)
    case atStart => exact ⟨0, by omega, rfl, rfl, Below.refl _ _⟩
    case round =>
      obtain ⟨k, hk, rfl, hp, hb⟩ := hrel
      by_cases hlt : k < l.length
      · have hlt2 : k < m.length := by rw [← HN.out]; exact hlt
        obtain ⟨b, off, rfl, hbb, hcell⟩ := (hu.later hb).at k hlt
        obtain ⟨b2, off2, rfl, hbb2, hcell2⟩ := (hv.later hb).at k hlt2
        obtain ⟨x, hx⟩ : ∃ x, x = l[k] := ⟨_, rfl⟩
        obtain ⟨y, hy⟩ : ∃ y, y = m[k] := ⟨_, rfl⟩
        rw [← hx] at hcell; rw [← hy] at hcell2
        replace hcell : wr.cell? ⟨b, off + k, none⟩ = some (.int .i64 x) := hcell
        replace hcell2 : wr.cell? ⟨b2, off2 + k, none⟩ = some (.int .i64 y) := hcell2
        have HX := Lib.hid hx; have HY := Lib.hid hy; clear hx hy
        have hi1 : (k : Int) < (l.length : Int) := by omega
        have hi2 : (k : Int) < (m.length : Int) := by omega
        by_cases he : x = y
        · subst he
          have hp2 := Lib.hid (take_eq hlt hlt2 hp.out (HX.out.symm.trans HY.out))
          go_wp2
          go_quiet (fail)
          go_wp2
          go_roundw
          case rel => exact ⟨k + 1, by omega, by go_num, hp2, below_drewN hb _⟩
          case measure => simp [intOf]; omega
        · have hne : (x != y) = true := by simp [he]
          have HE := Lib.hid he
          clear he
          go_wp2
          go_quiet (fail)
          go_wp2
          go_ret
          exact ⟨by rw [decide_eq_false (fun h => HE.out (by rw [HX.out, HY.out]; subst h; rfl))]; rfl, below_drewN hb _⟩
      · have hlm : Hid (l = m) := by
          have h := hp.out
          have h2 := HN.out
          rwa [List.take_of_length_le (by omega), List.take_of_length_le (by omega)] at h
        go_wp2
        go_ret
        exact ⟨by rw [decide_eq_true hlm.out]; rfl, hb⟩
  · have hd : ((l.length : Int) != (m.length : Int)) = true := by simp; omega
    go_enter Try.func46, Try.ntmps46
    go_wp2
    go_ret
    exact ⟨by rw [decide_eq_false (by intro h; exact hne (by rw [h]))]; rfl, Below.refl _ _⟩
end Go.Proofs.Ythnjakomkdlglaa
