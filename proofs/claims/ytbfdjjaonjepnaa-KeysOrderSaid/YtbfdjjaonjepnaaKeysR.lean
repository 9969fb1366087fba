/- The law KeysOrder: its walk: it returns true, whatever the input, and turns nothing that was there. -/
import Derived.Test.YtbfdjjaonjepnaaKeysO
import Derived.Test.YtbfdjjaonjepnaaOwn
import Derived.Deep.RegionHeld3
import Derived.Deep.QuietTactic
import Derived.BigQuiet
import Derived.WalkSmall
namespace Go.Proofs.Ytbfdjjaonjepnaa
open Go.RowKit

set_option maxHeartbeats 1000000 in
set_option maxRecDepth 100000 in
theorem order_long (l m : List Int) (u v : Value) (s0 s1 : ByteArray) (w : World) (hu : Rd w intE 1 u l) (hv : Rd w intE 1 v m) (z0 : s0.size ≤ 9223372036854775807) (z1 : s1.size ≤ 9223372036854775807)
    (hl : 50 < l.length ∨ 200 < s0.size ∨ 200 < s1.size) :
    Calls Try.prog 3 #[u, v, .agg #[.string s0, .string s1]] w (Ret w (.bool true)) := by
  have hlen := hu.len
  obtain ⟨ad, cap, rfl, hc1, hc2⟩ := hu.shape
  obtain ⟨ad2, cap2, rfl, hc3, hc4⟩ := hv.shape
  by_cases h1 : 50 < l.length
  · go_enter Try.func3, Try.ntmps3
    go_wp2_with (go_at_call 18; refine (lives09_any _).mono ?_; rintro e w1 ⟨rfl, hb⟩)
    go_ret
    exact ⟨rfl, ((Below.refl _ _).alloc (Nat.le_refl _) _).trans (hb.mono (by simp))⟩
  by_cases h2 : 200 < s0.size
  · go_enter Try.func3, Try.ntmps3
    go_wp2_with (go_at_call 18; refine (lives09_any _).mono ?_; rintro e w1 ⟨rfl, hb⟩)
    go_ret
    exact ⟨rfl, ((Below.refl _ _).alloc (Nat.le_refl _) _).trans (hb.mono (by simp))⟩
  have h3 : 200 < s1.size := by omega
  clear hl
  go_enter Try.func3, Try.ntmps3
  go_wp2_with (go_at_call 18; refine (lives09_any _).mono ?_; rintro e w1 ⟨rfl, hb⟩)
  go_ret
  exact ⟨rfl, ((Below.refl _ _).alloc (Nat.le_refl _) _).trans (hb.mono (by simp))⟩

set_option maxHeartbeats 4000000 in
set_option maxRecDepth 100000 in
theorem order_main (l m : List Int) (u v : Value) (s0 s1 : ByteArray) (w : World) (hu : Rd w intE 1 u l) (hv : Rd w intE 1 v m) (hil : I64s l) (him : I64s m)
    (hl : ¬ 50 < l.length) (h2 : ¬ 200 < s0.size) (h3 : ¬ 200 < s1.size) :
    Calls Try.prog 3 #[u, v, .agg #[.string s0, .string s1]] w (Ret w (.bool true)) := by
  have hlen := hv.len
  obtain ⟨ad, cap, rfl, hc1, hc2⟩ := hu.shape
  obtain ⟨ad2, cap2, rfl, hc3, hc4⟩ := hv.shape
  have hd1 : decide (50 < (l.length : Int)) = false := by simp; omega
  have hd2 : decide (200 < (s0.size : Int)) = false := by simp; omega
  have hd3 : decide (200 < (s1.size : Int)) = false := by simp; omega
  go_enter Try.func3, Try.ntmps3
  go_wp2_with fail
  go_loopw [8, 9, 39] (fun x y i wr => ∃ k : Nat, k ≤ l.length ∧ i = .int .i64 k ∧ Hid (∀ n ∈ l.take k, 0 ≤ n) ∧ Hid (∀ n ∈ mix l m k, 0 ≤ n ∧ n < 9223372036854775808) ∧ Own wr (w.heap.size + 1) 3 intE 1 x (l.take k) ∧ Own wr (w.heap.size + 1) 3 intE 1 y (mix l m k) ∧ Apart x y ∧ Below w.heap.size w wr ∧ wr.heap[w.heap.size]? = some (.cells #[.string s0, .string s1] 23 (0, 0))) (fun _ _ i _ => l.length - (intOf i).toNat)
  case atStart => exact ⟨0, by omega, rfl, by simp [Hid], by simp [Hid, mix], Own.nil _ _ _ _ _, Own.nil _ _ _ _ _, Apart.nil _, (Below.refl _ _).alloc (Nat.le_refl _) _, heap_alloc_new _ _⟩
  case round =>
    obtain ⟨k, hk, rfl, hp, hq, hx, hy, hap, hb, hpar⟩ := hrel
    have hz := hb.size
    have hz1 : w.heap.size + 1 ≤ wr.heap.size := (Array.getElem?_eq_some_iff.1 hpar).1
    by_cases hlt : k < l.length
    · obtain ⟨b, off, rfl, hbb, hcell⟩ := (hu.later hb).at k hlt
      obtain ⟨n, hn⟩ : ∃ n, n = l[k] := ⟨_, rfl⟩
      rw [← hn] at hcell
      replace hcell : wr.cell? ⟨b, off + k, none⟩ = some (.int .i64 n) := hcell
      have hni := hil n (by rw [hn]; exact List.getElem_mem hlt)
      have HN := Lib.hid hn; clear hn
      have hlx : Hid ((l.take k).length = k) := by unfold Hid; simp; omega
      by_cases hm : k < m.length
      · obtain ⟨b2, off2, rfl, hbb2, hcell2⟩ := (hv.later hb).at k hm
        obtain ⟨q, hqq⟩ : ∃ q, q = m[k] := ⟨_, rfl⟩
        rw [← hqq] at hcell2
        replace hcell2 : wr.cell? ⟨b2, off2 + k, none⟩ = some (.int .i64 q) := hcell2
        have hqi := him q (by rw [hqq]; exact List.getElem_mem hm)
        have HQ := Lib.hid hqq; clear hqq
        by_cases hn0 : n < 0
        · go_wp2_with (go_at_call 18; refine (lives09_any _).mono ?_; rintro e w1 ⟨rfl, hb2⟩)
          go_ret
          exact ⟨rfl, hb.trans (hb2.mono hz)⟩
        by_cases hq0 : q < 0
        · go_wp2_with (go_at_call 18; refine (lives09_any _).mono ?_; rintro e w1 ⟨rfl, hb2⟩)
          go_ret
          exact ⟨rfl, hb.trans (hb2.mono hz)⟩
        · go_wp2_with (first | (at_builtin; refine own_app rfl (.tmp 60) (.tmp 62) _ rfl Try.underlying22 Try.infoInt rfl (by decide) n hx rfl rfl rfl rfl (by simp [intE, Value.oneCell']) (by rw [hlx.out]; unfold maxLen; omega) (by rw [hlx.out]; omega) hb (by omega) hz1 (Nat.le_refl _) ?_; intro x' w1 hx' hb1 hg1 hm1; have hy1 := hy.kept hg1 hap; have hap1 := Apart.moved hy hm1 hap; have hpar1 := hx.other hg1 (Nat.lt_succ_self _) hpar; have hz2 := Nat.le_trans hz1 hg1.size) | (at_builtin; refine own_app rfl (.tmp 64) (.tmp 66) _ rfl Try.underlying22 Try.infoInt rfl (by decide) q hy1 rfl rfl rfl rfl (by simp [intE, Value.oneCell']) (by rw [mix_length]; unfold maxLen; omega) (by rw [mix_length]; omega) hb1 (by omega) hz2 (Nat.le_refl _) ?_; intro y' w2 hy2 hb2 hg2 hm2; have hx2 := hx'.kept hg2 hap1.symm; have hap2 := (Apart.moved hx' hm2 hap1.symm).symm; have hpar2 := hy1.other hg2 (Nat.lt_succ_self _) hpar1))
          rw [HN.out, ← List.take_succ_eq_append_getElem hlt] at hx2
          rw [HQ.out, ← mix_in l m k hm] at hy2
          have hp2 := Lib.hid (take_nonneg hlt hp.out (by rw [← HN.out]; omega))
          have hq2 : Hid (∀ n ∈ mix l m (k + 1), 0 ≤ n ∧ n < 9223372036854775808) := by
            unfold Hid; rw [mix_in l m k hm]; intro c hc
            rcases List.mem_append.1 hc with hc | hc
            · exact hq.out c hc
            · simp at hc; subst hc; rw [← HQ.out]; omega
          go_roundw
          case rel => exact ⟨k + 1, by omega, by go_num, hp2, hq2, hx2, hy2, hap2, hb2, hpar2⟩
          case measure => simp [intOf]; omega
      · by_cases hn0 : n < 0
        · go_wp2_with (go_at_call 18; refine (lives09_any _).mono ?_; rintro e w1 ⟨rfl, hb2⟩)
          go_ret
          exact ⟨rfl, hb.trans (hb2.mono hz)⟩
        · go_wp2_with (first | (at_builtin; refine own_app rfl (.tmp 60) (.tmp 62) _ rfl Try.underlying22 Try.infoInt rfl (by decide) n hx rfl rfl rfl rfl (by simp [intE, Value.oneCell']) (by rw [hlx.out]; unfold maxLen; omega) (by rw [hlx.out]; omega) hb (by omega) hz1 (Nat.le_refl _) ?_; intro x' w1 hx' hb1 hg1 hm1; have hy1 := hy.kept hg1 hap; have hap1 := Apart.moved hy hm1 hap; have hpar1 := hx.other hg1 (Nat.lt_succ_self _) hpar; have hz2 := Nat.le_trans hz1 hg1.size) | (at_builtin; refine own_app rfl (.tmp 64) (.tmp 66) _ rfl Try.underlying22 Try.infoInt rfl (by decide) n hy1 rfl rfl rfl rfl (by simp [intE, Value.oneCell']) (by rw [mix_length]; unfold maxLen; omega) (by rw [mix_length]; omega) hb1 (by omega) hz2 (Nat.le_refl _) ?_; intro y' w2 hy2 hb2 hg2 hm2; have hx2 := hx'.kept hg2 hap1.symm; have hap2 := (Apart.moved hx' hm2 hap1.symm).symm; have hpar2 := hy1.other hg2 (Nat.lt_succ_self _) hpar1))
          rw [HN.out, ← List.take_succ_eq_append_getElem hlt] at hx2
          rw [HN.out, ← mix_out l m k hm hlt] at hy2
          have hp2 := Lib.hid (take_nonneg hlt hp.out (by rw [← HN.out]; omega))
          have hq2 : Hid (∀ n ∈ mix l m (k + 1), 0 ≤ n ∧ n < 9223372036854775808) := by
            unfold Hid; rw [mix_out l m k hm hlt]; intro c hc
            rcases List.mem_append.1 hc with hc | hc
            · exact hq.out c hc
            · simp at hc; subst hc; rw [← HN.out]; omega
          go_roundw
          case rel => exact ⟨k + 1, by omega, by go_num, hp2, hq2, hx2, hy2, hap2, hb2, hpar2⟩
          case measure => simp [intOf]; omega
    · obtain rfl : k = l.length := by omega
      obtain ⟨X, hX⟩ : ∃ X, X = l.take l.length := ⟨_, rfl⟩
      obtain ⟨Y, hY⟩ : ∃ Y, Y = mix l m l.length := ⟨_, rfl⟩
      rw [← hX] at hx hp; rw [← hY] at hy hq
      have hXl : X.length = l.length := by rw [hX, List.take_length]
      have hYl : Y.length = l.length := by rw [hY, mix_length]
      have hXi : Hid (∀ n ∈ X, 0 ≤ n ∧ n < 9223372036854775808) := by
        intro n hn
        refine ⟨hp.out n hn, ?_⟩
        rw [hX, List.take_length] at hn
        exact (hil n hn).2
      clear hX hY hp hu hv hil him hap
      have rx := hx.rd (fun _ => rfl)
      have ry := hy.rd (fun _ => rfl)
      clear hx hy
      obtain ⟨adx, capx, rfl, hcx, hcx2⟩ := rx.shape
      obtain ⟨ady, capy, rfl, hcy, hcy2⟩ := ry.shape
      rw [hXl] at rx hcx ⊢
      rw [hYl] at ry hcy ⊢
      have HXL := Lib.hid hXl; have HYL := Lib.hid hYl; clear hXl hYl
      go_wp2_with fail
      obtain ⟨wo, rfl⟩ : ∃ wo : World, wo = wr := ⟨_, rfl⟩
      go_loopw [13, 14] (fun b i wq => ∃ j : Nat, j ≤ l.length ∧ i = .int .i64 ((j : Int) - 1) ∧ b = .bool (lexI (X.drop j) (Y.drop j)) ∧ Below wo.heap.size wo wq) (fun _ i _ => (intOf i + 1).toNat)
      case atStart => exact ⟨l.length, by omega, rfl, by rw [← HXL.out, lexI_none], Below.refl _ _⟩
      case round =>
        obtain ⟨j, hj, rfl, rfl, hbq⟩ := hrel
        cases j with
        | zero =>
          rw [List.drop_zero, List.drop_zero]
          have hbw : Below w.heap.size w wr := hb.trans (hbq.mono hz)
          have hparq := (hbq.block _ (Array.getElem?_eq_some_iff.1 hpar).1).trans hpar
          have ht1 : (1 : Int) ≤ 1 + (s0.size : Int) % 255 := by omega
          have ht2 : 1 + (s0.size : Int) % 255 ≤ 255 := by omega
          have hkl := Lib.hid (lexLt_key (1 + (s0.size : Int) % 255) X Y ht1 ht2 (by rw [HXL.out, HYL.out]) hXi.out hq.out)
          have hbl : Hid (Op.bytesLess (bs (keyF (1 + (s0.size : Int) % 255) X)).toList (bs (keyF (1 + (s0.size : Int) % 255) Y)).toList = lexI X Y) := by
            unfold Hid; rw [bytesLess_lex, Lib.toList_data, Lib.toList_data]; exact hkl.out
          have hbs : Hid (Op.bytesLess s0.toList s1.toList = lexLt s0.data.toList s1.data.toList) := by
            unfold Hid; rw [bytesLess_lex, Lib.toList_data, Lib.toList_data]
          have hi64X : I64s X := fun n hn => by have := hXi.out n hn; omega
          have hi64Y : I64s Y := fun n hn => by have := hq.out n hn; omega
          have hXs : X.length ≤ 100000000 := by rw [HXL.out]; omega
          have hYs : Y.length ≤ 100000000 := by rw [HYL.out]; omega
          have rx1 := rx.later hbq
          have ry1 := ry.later hbq
          have hKX := keyTo_len (1 + (s0.size : Int) % 255) X X.length
          have hKY := keyTo_len (1 + (s0.size : Int) % 255) Y Y.length
          have hsX : (bs (keyF (1 + (s0.size : Int) % 255) X)).size ≤ 1000000000 := by
            rw [bs_size, keyF_good _ _ ht1 ht2 (fun n hn => (hXi.out n hn).1), List.length_cons, flat_length]; omega
          have hsY : (bs (keyF (1 + (s0.size : Int) % 255) Y)).size ≤ 1000000000 := by
            rw [bs_size, keyF_good _ _ ht1 ht2 (fun n hn => (hq.out n hn).1), List.length_cons, flat_length]; omega
          clear hb hbq hpar hz hz1 rx ry hKX hKY ht1 ht2
          go_wp2_with fail
          refine (key_any _ X _ _ hXs hi64X rx1).mono ?_
          rintro e w1 ⟨rfl, hb2⟩
          have ry2 := ry1.later hb2
          have hpar1 := (hb2.block _ (Array.getElem?_eq_some_iff.1 hparq).1).trans hparq
          have hb1 := hbw.trans (hb2.mono hbw.size)
          clear hb2 rx1 ry1 hparq hbw
          go_wp2_with fail
          refine (key_any _ Y _ _ hYs hi64Y ry2).mono ?_
          rintro e w2 ⟨rfl, hb2⟩
          have hpar2 := (hb2.block _ (Array.getElem?_eq_some_iff.1 hpar1).1).trans hpar1
          have hb3 := hb1.trans (hb2.mono hb1.size)
          clear hb2 hpar1 hb1 ry2
          have c0 : w2.cell? ⟨w.heap.size, 0, none⟩ = some (.string s0) := Lib.cell_of_heap hpar2 0
          have c1 : w2.cell? ⟨w.heap.size, 1, none⟩ = some (.string s1) := Lib.cell_of_heap hpar2 1
          have hlt2 : w.heap.size < w2.heap.size := (Array.getElem?_eq_some_iff.1 hpar2).1
          clear hpar2
          have hle1 : ∀ w : World, Calls Try.prog 20 #[.string (bs (keyF (1 + (s0.size : Int) % 255) X)), .string (bs (keyF (1 + (s0.size : Int) % 255) Y))] w (Ret w (.bool (lexI X Y))) := by
            intro w
            have h := less_any _ _ w hsX hsY
            rw [show (bs (keyF (1 + (s0.size : Int) % 255) X)).data.toList = keyF (1 + (s0.size : Int) % 255) X from rfl, show (bs (keyF (1 + (s0.size : Int) % 255) Y)).data.toList = keyF (1 + (s0.size : Int) % 255) Y from rfl, hkl.out] at h
            exact h
          have hle2 : ∀ w : World, Calls Try.prog 20 #[.string s0, .string s1] w (Ret w (.bool (lexLt s0.data.toList s1.data.toList))) := fun w => less_any _ _ w (by omega) (by omega)
          have hLE1 := Lib.hid hle1; have hLE2 := Lib.hid hle2; clear hle1 hle2
          have hble := hbl.out
          have hbse := hbs.out
          go_wp2_with fail
          go_region_held3 (fun w' => w'.cell? ⟨w.heap.size, 0, none⟩ = some (.string s0) ∧ w'.cell? ⟨w.heap.size, 1, none⟩ = some (.string s1) ∧ w.heap.size < w'.heap.size ∧ Below w.heap.size w w')
            (first
              | (go_keep; done)
              | exact ⟨c0, c1, hlt2, hb3.drew⟩
              | (refine ⟨?_, ?_, ?_, ?_⟩ <;> go_keep)
              | (go_split_ands
                 refine ⟨?_, ?_, ?_, ?_⟩
                 · exact (hbq.cell (p := ⟨w.heap.size, 0, none⟩) (by assumption)).trans (by assumption)
                 · exact (hbq.cell (p := ⟨w.heap.size, 1, none⟩) (by assumption)).trans (by assumption)
                 · have := hbq.size; omega
                 · exact Below.trans (by assumption) (hbq.mono (by omega))))
            (first
              | (go_at_call 20; ((with_reducible refine (hLE1.out _).mono ?_); rintro e w' ⟨rfl, hbq⟩))
              | (go_at_call 20; ((with_reducible refine (hLE2.out _).mono ?_); rintro e w' ⟨rfl, hbq⟩))
              | (go_at_call 18; refine (lives09_any _).mono ?_; rintro e w' ⟨rfl, hbq⟩))
          all_goals
            go_split_ands
            go_wp2
            go_ret
            exact ⟨rfl, by assumption⟩
        | succ j =>
          have hjx : j < X.length := by rw [HXL.out]; omega
          have hjy : j < Y.length := by rw [HYL.out]; omega
          have e0 : (((j + 1 : Nat) : Int) - 1) = (j : Int) := by omega
          rw [e0]
          clear e0
          obtain ⟨b, off, rfl, hbb, hcell⟩ := (rx.later hbq).at j hjx
          obtain ⟨b2, off2, rfl, hbb2, hcell2⟩ := (ry.later hbq).at j hjy
          obtain ⟨n, hn⟩ : ∃ n, n = X[j] := ⟨_, rfl⟩
          obtain ⟨q, hqq⟩ : ∃ q, q = Y[j] := ⟨_, rfl⟩
          rw [← hn] at hcell; rw [← hqq] at hcell2
          replace hcell : _ = some (Value.int .i64 n) := hcell
          replace hcell2 : _ = some (Value.int .i64 q) := hcell2
          have HN := Lib.hid hn; have HQ := Lib.hid hqq; clear hn hqq
          have hi1 : (j : Int) < (l.length : Int) := by omega
          by_cases hnq : n = q
          · have hle := Lib.hid (lexI_eq hjx hjy (by rw [← HN.out, ← HQ.out]; exact hnq))
            subst hnq
            go_wp2
            go_quiet (fail)
            go_wp2
            go_roundw
            case rel => exact ⟨j, by omega, by go_num, by rw [hle.out], below_drewN hbq _⟩
            case measure => simp [intOf]
          · have hle := Lib.hid (lexI_ne hjx hjy (by rw [← HN.out, ← HQ.out]; exact hnq))
            have hne : (n != q) = true := by simp [hnq]
            clear hnq
            go_wp2
            go_quiet (fail)
            go_wp2
            go_quiet (fail)
            go_wp2
            go_roundw
            case rel => exact ⟨j, by omega, by go_num, by rw [hle.out, ← HN.out, ← HQ.out], below_drewN hbq _⟩
            case measure => simp [intOf]

theorem law_order (l m : List Int) (u v : Value) (s0 s1 : ByteArray) (w : World) (hu : Rd w intE 1 u l) (hv : Rd w intE 1 v m) (hil : I64s l) (him : I64s m) (z0 : s0.size ≤ 9223372036854775807) (z1 : s1.size ≤ 9223372036854775807) :
    Calls Try.prog 3 #[u, v, .agg #[.string s0, .string s1]] w (Ret w (.bool true)) := by
  by_cases h : 50 < l.length ∨ 200 < s0.size ∨ 200 < s1.size
  · exact order_long l m u v s0 s1 w hu hv z0 z1 h
  · exact order_main l m u v s0 s1 w hu hv hil him (by omega) (by omega) (by omega)
end Go.Proofs.Ytbfdjjaonjepnaa
