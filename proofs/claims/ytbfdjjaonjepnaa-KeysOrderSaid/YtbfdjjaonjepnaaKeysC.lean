/- keys.Key and its reference, Table, Parse, Less, Ints: their contracts. -/
import Derived.Test.YtbfdjjaonjepnaaKeysB
import Derived.Test.YtbfdjjaonjepnaaBuilder
namespace Go.Proofs.Ytbfdjjaonjepnaa
open Go.RowKit

/-- A key's bytes. -/
def keyF (t : Int) (l : List Int) : List UInt8 := if t < 1 ∨ 255 < t ∨ ∃ x ∈ l, x < 0 then [] else UInt8.ofNat t.toNat :: l.flatMap numL
def keyTo (t : Int) (l : List Int) (k : Nat) : List UInt8 := UInt8.ofNat t.toNat :: (l.take k).flatMap numL
theorem keyF_bad (t : Int) (l : List Int) (h : t < 1 ∨ 255 < t) : keyF t l = [] := by
  unfold keyF; rw [if_pos (by rcases h with h | h; exact .inl h; exact .inr (.inl h))]
theorem keyF_neg (t : Int) (l : List Int) (k : Nat) (hk : k < l.length) (h : l[k] < 0) : keyF t l = [] := by
  unfold keyF; rw [if_pos (.inr (.inr ⟨_, List.getElem_mem hk, h⟩))]
theorem keyTo_all (t : Int) (l : List Int) (k : Nat) (hk : ¬ k < l.length) (h1 : ¬ t < 1) (h2 : ¬ 255 < t) (hp : ∀ x ∈ l.take k, 0 ≤ x) : keyTo t l k = keyF t l := by
  have ht : l.take k = l := List.take_of_length_le (by omega)
  rw [ht] at hp
  unfold keyTo keyF
  rw [ht, if_neg]
  rintro (h | h | ⟨x, hx, h⟩)
  · exact h1 h
  · exact h2 h
  · have := hp x hx; omega
theorem keyTo_zero (t : Int) (l : List Int) : keyTo t l 0 = [] ++ [UInt8.ofNat t.toNat] := by simp [keyTo]
theorem keyTo_succ (t : Int) (l : List Int) (k : Nat) (hk : k < l.length) : keyTo t l (k + 1) = keyTo t l k ++ numL l[k] := by
  unfold keyTo; rw [List.take_succ_eq_append_getElem hk, List.flatMap_append]; simp
theorem keyTo_len (t : Int) (l : List Int) (k : Nat) : (keyTo t l k).length ≤ 8 * l.length + 1 := by
  have h : ∀ m : List Int, (m.flatMap numL).length = 8 * m.length := by
    intro m; induction m with
    | nil => rfl
    | cons x m ih => rw [List.flatMap_cons, List.length_append, ih, numL_length, List.length_cons]; omega
  rw [keyTo, List.length_cons, h, List.length_take]; omega
theorem take_nonneg {l : List Int} {k : Nat} (hk : k < l.length) (h : ∀ x ∈ l.take k, 0 ≤ x) (h0 : 0 ≤ l[k]) : ∀ x ∈ l.take (k + 1), 0 ≤ x := by
  rw [List.take_succ_eq_append_getElem hk]
  intro x hx
  rcases List.mem_append.1 hx with h1 | h1
  · exact h x h1
  · simp at h1; subst h1; exact h0

set_option maxHeartbeats 1000000 in
theorem key_any (t : Int) (l : List Int) (v : Value) (w : World) (hl : l.length ≤ 100000000) (hi : I64s l) (hrd : Rd w intE 1 v l) :
    Calls Try.prog 19 #[.int .i64 t, v] w (Ret w (.string (bs (keyF t l)))) := by
  obtain ⟨ad, cap, rfl, hc1, hc2⟩ := hrd.shape
  by_cases h1 : t < 1
  · go_enter Try.func19, Try.ntmps19
    go_wp2
    go_ret
    exact ⟨by rw [keyF_bad _ _ (.inl h1)]; rfl, Below.refl _ _⟩
  by_cases h2 : 255 < t
  · go_enter Try.func19, Try.ntmps19
    go_wp2
    go_ret
    exact ⟨by rw [keyF_bad _ _ (.inr h2)]; rfl, Below.refl _ _⟩
  have hw0 : t % 256 = t := by omega
  go_enter Try.func19, Try.ntmps19
  go_wp2_with (go_at_call 71; refine (writeByte_any w.heap.size w.heap.size [] t _ (by omega) (by omega) (Bld.fresh w _ (Nat.le_refl _)) (by simp) (by simp)).mono ?_; rintro e w1 ⟨rfl, hbl, hb1⟩)
  have hb2 := (Below.refl w.heap.size w).alloc (Nat.le_refl _) (.cells #[.pointer none, .slice none 0 0] 106) |>.trans hb1
  rw [← keyTo_zero t l] at hbl
  clear hb1
  go_loopw [19] (fun i wr => ∃ k : Nat, k ≤ l.length ∧ i = .int .i64 k ∧ Hid (∀ x ∈ l.take k, 0 ≤ x) ∧ Bld wr w.heap.size w.heap.size (keyTo t l k) ∧ Below w.heap.size w wr) (fun i _ => l.length - (intOf i).toNat)
  case atStart => exact ⟨0, by omega, rfl, by simp [Hid], hbl, hb2⟩
  case round =>
    clear hbl hb2
    obtain ⟨k, hk, rfl, hp, hbl, hb⟩ := hrel
    have hz := hb.size
    by_cases hlt : k < l.length
    · obtain ⟨b, off, rfl, hbb, hcell⟩ := (hrd.later hb).at k hlt
      obtain ⟨n, hn⟩ : ∃ n, n = l[k] := ⟨_, rfl⟩
      rw [← hn] at hcell
      have hni := hi n (by rw [hn]; exact List.getElem_mem hlt)
      replace hcell : wr.cell? ⟨b, off + k, none⟩ = some (.int .i64 n) := hcell
      have hlen := keyTo_len t l k
      have HN := Lib.hid hn; clear hn
      by_cases hneg : n < 0
      · go_wp2
        go_ret
        exact ⟨by rw [keyF_neg t l k hlt (by rw [← HN.out]; exact hneg)]; rfl, hb⟩
      · go_wp2_with (first | (go_at_call 30; refine (num_pos n _ (by omega) hni.2).mono ?_; rintro e w1 ⟨rfl, hb1⟩; have hbl1 := hbl.later hb1; have hb2 := hb.trans (hb1.mono hz); have hz2 := hb2.size; clear hb1) | (go_at_call 72; refine (writeString_any w.heap.size w.heap.size _ _ _ hbl1 (by rw [bs_size, numL_length]; omega) hz2).mono ?_; rintro e w2 ⟨rfl, hbl2, hb3⟩))
        have hkt : bs (numL n) = bs (numL l[k]) := by rw [HN.out]
        rw [show (bs (numL n)).data.toList = numL l[k] by rw [HN.out]; rfl, ← keyTo_succ t l k hlt] at hbl2
        have hp2 := take_nonneg hlt hp.out (by rw [← HN.out]; omega)
        go_roundw
        case rel => exact ⟨k + 1, by omega, by go_num, hp2, hbl2, hb2.trans hb3⟩
        case measure => simp [intOf]; omega
    · have hke := keyTo_all t l k hlt (by omega) (by omega) hp.out
      rw [hke] at hbl
      clear hke
      go_wp2_with (go_at_call 73; refine (bString_any w.heap.size w.heap.size _ _ hbl hz).mono ?_; rintro e w1 ⟨rfl, hb1⟩)
      go_ret
      exact ⟨rfl, hb.trans hb1⟩

set_option maxHeartbeats 1000000 in
theorem refKey_any (t : Int) (l : List Int) (v : Value) (w : World) (hl : l.length ≤ 100000000) (hi : I64s l) (hrd : Rd w intE 1 v l) :
    Calls Try.prog 28 #[.int .i64 t, v] w (Ret w (.string (bs (keyF t l)))) := by
  obtain ⟨ad, cap, rfl, hc1, hc2⟩ := hrd.shape
  by_cases h1 : t < 1
  · go_enter Try.func28, Try.ntmps28
    go_wp2
    go_ret
    exact ⟨by rw [keyF_bad _ _ (.inl h1)]; rfl, Below.refl _ _⟩
  by_cases h2 : 255 < t
  · go_enter Try.func28, Try.ntmps28
    go_wp2
    go_ret
    exact ⟨by rw [keyF_bad _ _ (.inr h2)]; rfl, Below.refl _ _⟩
  have hw0 : t % 256 = t := by omega
  have hcv := conv_row (P := Try.prog) (w.alloc (.cells #[.int .u8 t] 5)) 43 9 5 Try.underlying43 Try.underlying5 Try.underlying9 w.heap.size 0 1 1 [UInt8.ofNat t.toNat] rfl _ _ _ (heap_alloc_new _ _) (by simp [byteV_of t (by omega) (by omega)])
  go_enter Try.func28, Try.ntmps28
  go_wp2
  clear hcv
  go_loopw [5, 20] (fun s i wr => ∃ k : Nat, k ≤ l.length ∧ i = .int .i64 k ∧ Hid (∀ x ∈ l.take k, 0 ≤ x) ∧ s = .string (bs (keyTo t l k)) ∧ Below w.heap.size w wr) (fun _ i _ => l.length - (intOf i).toNat)
  case atStart => exact ⟨0, by omega, rfl, by simp [Hid], by rw [keyTo_zero]; rfl, (Below.refl _ _).alloc (Nat.le_refl _) _⟩
  case round =>
    obtain ⟨k, hk, rfl, hp, rfl, hb⟩ := hrel
    have hz := hb.size
    by_cases hlt : k < l.length
    · obtain ⟨b, off, rfl, hbb, hcell⟩ := (hrd.later hb).at k hlt
      obtain ⟨n, hn⟩ : ∃ n, n = l[k] := ⟨_, rfl⟩
      rw [← hn] at hcell
      have hni := hi n (by rw [hn]; exact List.getElem_mem hlt)
      replace hcell : wr.cell? ⟨b, off + k, none⟩ = some (.int .i64 n) := hcell
      have hlen := keyTo_len t l k
      have HN := Lib.hid hn; clear hn
      by_cases hneg : n < 0
      · go_wp2
        go_ret
        exact ⟨by rw [keyF_neg t l k hlt (by rw [← HN.out]; exact hneg)]; rfl, hb⟩
      · have hsz := bs_size (keyTo t l k)
        have hszn : (bs (numL n)).size = 8 := by rw [bs_size, numL_length]
        go_wp2_with (first | (go_at_call 31; refine (refNum_pos n _ (by omega) hni.2).mono ?_; rintro e w1 ⟨rfl, hb1⟩; have hb2 := hb.trans (hb1.mono hz); have hz2 := hb2.size; clear hb1))
        have hp2 := take_nonneg hlt hp.out (by rw [← HN.out]; omega)
        go_roundw
        case rel => exact ⟨k + 1, by omega, by go_num, hp2, by rw [bs_append, keyTo_succ t l k hlt, HN.out], hb2⟩
        case measure => simp [intOf]; omega
    · have hke := keyTo_all t l k hlt (by omega) (by omega) hp.out
      have HK := Lib.hid hke; clear hke
      go_wp2
      go_ret
      exact ⟨by rw [← HK.out]; rfl, hb⟩

theorem I64s_nil : I64s [] := fun _ h => by cases h

set_option maxHeartbeats 1000000 in
theorem table_any (t : Int) (w : World) :
    Calls Try.prog 29 #[.int .i64 t] w (Ret w (.string (bs (keyF t [])))) := by
  go_enter Try.func29, Try.ntmps29
  go_wp2_with (go_at_call 19; refine (key_any t [] (.slice none 0 0) _ (by simp) I64s_nil (Rd.nil _ _ _)).mono ?_; rintro e w1 ⟨rfl, hb1⟩)
  go_ret
  exact ⟨rfl, hb1⟩

/-- Which bytes stand ahead. -/
def lexLt : List UInt8 → List UInt8 → Bool
  | [], [] => false
  | [], _ :: _ => true
  | _ :: _, [] => false
  | a :: l, b :: m => if a = b then lexLt l m else decide (a < b)
theorem lexLt_drop {l m : List UInt8} {k : Nat} (h1 : k < l.length) (h2 : k < m.length) (h : l[k] = m[k]) : lexLt (l.drop k) (m.drop k) = lexLt (l.drop (k + 1)) (m.drop (k + 1)) := by
  rw [List.drop_eq_getElem_cons h1, List.drop_eq_getElem_cons h2, lexLt, if_pos h]
theorem lexLt_ne {l m : List UInt8} {k : Nat} (h1 : k < l.length) (h2 : k < m.length) (h : ¬ l[k] = m[k]) : lexLt (l.drop k) (m.drop k) = decide (l[k] < m[k]) := by
  rw [List.drop_eq_getElem_cons h1, List.drop_eq_getElem_cons h2, lexLt, if_neg h]
theorem lexLt_short {l m : List UInt8} {k : Nat} (h1 : k < l.length) (h2 : ¬ k < m.length) : lexLt (l.drop k) (m.drop k) = false := by
  rw [List.drop_eq_getElem_cons h1, List.drop_of_length_le (l := m) (by omega)]; rfl
theorem lexLt_end {l m : List UInt8} {k : Nat} (h1 : k = l.length) : lexLt (l.drop k) (m.drop k) = decide (l.length < m.length) := by
  subst h1
  rw [List.drop_length]
  by_cases h : l.length < m.length
  · rw [List.drop_eq_getElem_cons h]; simp [lexLt, h]
  · rw [List.drop_of_length_le (by omega)]; simp [lexLt, h]

set_option maxHeartbeats 1000000 in
theorem less_any (s t : ByteArray) (w : World) (hs : s.size ≤ 1000000000) (_ht : t.size ≤ 1000000000) :
    Calls Try.prog 20 #[.string s, .string t] w (Ret w (.bool (lexLt s.data.toList t.data.toList))) := by
  go_enter Try.func20, Try.ntmps20
  go_wp2_with (refine wp_bytes rfl _ _ _ rfl Try.underlying9 Try.underlying43 Try.underlying5 s rfl (by omega) ?_; intro ad cap w1 hrd hb1 hcap)
  go_loopw [10] (fun i wr => ∃ k : Nat, k ≤ s.size ∧ i = .int .i64 k ∧ Hid (lexLt s.data.toList t.data.toList = lexLt (s.data.toList.drop k) (t.data.toList.drop k)) ∧ Below w.heap.size w wr ∧ Rd wr u8E 1 (.slice ad s.size cap) s.data.toList) (fun i _ => s.size - (intOf i).toNat)
  case atStart => exact ⟨0, by omega, rfl, rfl, hb1, hrd⟩
  case round =>
    clear hrd hb1
    obtain ⟨k, hk, rfl, hp, hb, hrd⟩ := hrel
    by_cases hlt : k < s.size
    · obtain ⟨b, off, rfl, hbb, hcell⟩ := hrd.at k hlt
      replace hcell : wr.cell? ⟨b, off + k, none⟩ = some (.int .u8 ((s[k]'hlt).toNat : Int)) := hcell
      by_cases ht2 : k < t.size
      · by_cases heq : s[k]'hlt = t[k]'ht2
        · have hne : (((s[k]'hlt).toNat : Int) != ((t[k]'ht2).toNat : Int)) = false := by rw [heq]; simp
          have hp2 := Lib.hid (hp.out.trans (lexLt_drop hlt ht2 heq))
          clear heq
          go_wp2
          go_roundw
          case rel => exact ⟨k + 1, by omega, by go_num, hp2, hb, hrd⟩
          case measure => simp [intOf]; omega
        · have hne : (((s[k]'hlt).toNat : Int) != ((t[k]'ht2).toNat : Int)) = true := by
            simp only [bne_iff_ne, ne_eq, Int.natCast_inj]
            intro h; exact heq (UInt8.toNat_inj.1 h)
          have hp2 := Lib.hid (hp.out.trans (lexLt_ne hlt ht2 heq))
          clear heq
          go_wp2
          go_ret
          exact ⟨by rw [hp2.out]; simp [UInt8.lt_iff_toNat_lt]; rfl, hb⟩
      · have hp2 := Lib.hid (hp.out.trans (lexLt_short hlt ht2))
        go_wp2
        go_ret
        exact ⟨by rw [hp2.out]; rfl, hb⟩
    · obtain rfl : k = s.size := by omega
      have hp2 := Lib.hid (hp.out.trans (lexLt_end rfl))
      go_wp2
      go_ret
      exact ⟨by rw [hp2.out]; simp, hb⟩
end Go.Proofs.Ytbfdjjaonjepnaa
