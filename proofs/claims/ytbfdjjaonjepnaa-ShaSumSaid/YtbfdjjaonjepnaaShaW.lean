/- tallagelaw05.ShaSum: its walk. -/
import Derived.Test.YtbfdjjaonjepnaaShaV
import Derived.Test.YtbfdjjaonjepnaaShaN
import Derived.Test.YtbfdjjaonjepnaaShaQ
import Derived.Lib.QuietBelow
namespace Go.Proofs.Ytbfdjjaonjepnaa
open Go.RowKit Go.Sort

/-- Which of the first i digits a byte is. -/
def dTo (c : UInt8) : Nat → Int
  | 0 => -1
  | i + 1 => if hexC i = c then (i : Int) else dTo c i
theorem dTo_full (c : UInt8) : dTo c 16 = digF c := by
  have : ∀ m : Fin 256, dTo (UInt8.ofNat m.val) 16 = digF (UInt8.ofNat m.val) := by decide +kernel
  have h2 := this ⟨c.toNat, c.toNat_lt⟩
  simpa only [UInt8.ofNat_toNat] using h2
theorem held_row {w0 : World} {g : Nat} {l : List UInt8} {T : TypeId} (h : w0.heap[g]? = some (.cells (c8 l) T (0, 0))) (h32 : l.length = 32) (w' : World) (hb : Below w0.heap.size w0 w') :
    (Instr.loadAt 48 (.pointer (some ⟨g, 0, none⟩))).run Try.prog w' = .ok (.agg (c8 l)) w' := by
  have h2 := (hb.block g (heap_lt h)).trans h
  simp only [Instr.loadAt, Instr.sureAddr, Sem.run_bind, Sem.run_pure, Result.andThen_ok, run_loadVar_row (P := Try.prog) w' g T 48 (c8 l) (0, 0) _ h2 Try.underlying48 rfl (Try.sizeHs l h32)]

/-- A load of a row, in a region that is walked in the text's order: one value in every world of the class. -/
theorem quiet_load {P : Program} {ops : Array Oper} {C : World → Prop} {Q : Act → Prop} {a : Act} {o : Oper} {rest : List Oper} (hw : Region.wanted o (yielded ops a.tmps) = true) (ty : TypeId) (x : Operand) (ho : o.op = .load ty x) (pv : Value) (hx : a.eval x = pv) (v : Value)
    (hl : ∀ w, C w → (Instr.loadAt ty pv).run P w = .ok v w) (h : wpQuiet P ops C Q rest (a.put o.dst v)) : wpQuiet P ops C Q (o :: rest) a := by
  refine wpQuiet_step fun K hK => ?_
  rw [if_pos hw]
  refine ⟨v, fun w hC => ?_, hK _ h⟩
  unfold Oper.quietAt execOp
  simp only [ho, hx, Sem.run_bind, Sem.run_pure, hl w hC, Result.andThen_ok]
  exact ⟨rfl, rfl⟩
set_option maxRecDepth 100000 in
set_option maxHeartbeats 4000000 in
theorem law_sum5 (b l : List UInt8) (c : UInt8) (vb : Value) (w : World) (rb : Rd w u8E 1 vb b) (hl : l.length ≤ 9223372036854775807) : Calls Try.prog 8 #[vb, .string (bs l), .int .u8 c.toNat] w (Ret w (.bool true)) := by
  obtain ⟨ab, cb, rfl, hb1, hb2⟩ := rb.shape
  have RB := Lib.hid rb
  clear rb
  obtain ⟨n, hn⟩ : ∃ n, n = b.length := ⟨_, rfl⟩
  rw [← hn] at hb1 RB ⊢
  have HN := Lib.hid hn
  clear hn
  have hsz := bs_size l
  by_cases hbig : 500 < n ∨ 200 < l.length
  · rcases (show 500 < n ∨ (n ≤ 500 ∧ 200 < l.length) by omega) with h1 | ⟨h1, h2⟩
    · clear hsz hbig
      go_enter Try.func8, Try.ntmps8
      go_wp2_with fail
      refine (lives_any _).mono ?_
      rintro e w1 ⟨rfl, hb1⟩
      go_wp2_with fail
      go_ret
      exact ⟨rfl, hb1⟩
    · have e1 : ((bs l).size : Int) > 200 := by rw [hsz]; omega
      clear hsz hbig
      go_enter Try.func8, Try.ntmps8
      go_wp2_with fail
      refine (lives_any _).mono ?_
      rintro e w1 ⟨rfl, hb1⟩
      go_wp2_with fail
      go_ret
      exact ⟨rfl, hb1⟩
  · have h1 : n ≤ 500 := by omega
    have e1 : ¬ ((bs l).size : Int) > 200 := by rw [hsz]; omega
    have e2 : ((bs l).size : Int) ≤ 200 := by rw [hsz]; omega
    have hl2 : l.length ≤ 200 := by omega
    clear hsz hbig
    have hcl := c.toNat_lt
    go_enter Try.func8, Try.ntmps8
    go_wp2_with fail
    refine (sha_any _ b _ RB.out (by rw [← HN.out]; omega)).mono ?_
    rintro e w1 ⟨rfl, hbw1⟩
    go_wp2_with (refine wpList_alloc_g rfl _ rfl _ _ Try.zeroHash rfl ?_)
    intro X w2 h2
    go_wp2_with (refine wpList_store_row_g (t := 48) (old := cB 32 []) rfl 48 (.tmp 7) _ rfl X (c8 (shaF b)) rfl rfl h2.out.cells (Try.sizeHs _ (shaF_length b)) (by rw [c8_size, shaF_length]; rfl) (by rw [← cB_full 32 _ (shaF_length b)]; exact one_b _ _) ?_)
    intro w3 h3 k3 z3
    have hwX : w.heap.size ≤ X := by have := h2.out.eq; have := hbw1.size; omega
    have hbw3 : Below w.heap.size w w3 := k3.onto (hbw1.trans (h2.out.below.mono hbw1.size)) (Nat.le_refl _) hwX
    have HX3 := Lib.hid h3; have HB3 := Lib.hid hbw3
    clear h3 k3 z3 hbw1 hbw3 h2
    go_wp2_with fail
    refine (parse_any l _).mono ?_
    rintro e w4 ⟨rfl, hb4⟩
    obtain ⟨r, hr⟩ : ∃ r, r = hpF l := ⟨_, rfl⟩
    have HRR := Lib.hid hr
    obtain ⟨p, hp⟩ : ∃ p, p = r.getD (List.replicate 32 0) := ⟨_, rfl⟩
    have hp32 : p.length = 32 := by
      rw [hp]
      cases r with
      | none => simp
      | some q => exact hpF_len l q hr.symm
    have hp2 : hpV (hpF l) = .tuple #[.agg (c8 p), .bool r.isSome] := by rw [← hr, hp]; rfl
    rw [hp2]
    obtain ⟨ok, hok⟩ : ∃ ok, ok = r.isSome := ⟨_, rfl⟩
    rw [← hok] at hp2 ⊢
    have HP2 := Lib.hid hp2; have HP32 := Lib.hid hp32
    have hX4 := (hb4.block X (heap_lt HX3.out)).trans HX3.out
    have hbw4 := HB3.out.trans (hb4.mono HB3.out.size)
    have HX4 := Lib.hid hX4; have HB4 := Lib.hid hbw4
    clear hr hp hp32 hp2 hb4 hok hX4 hbw4 HX3 HB3
    go_wp2_with (refine wpList_alloc_g rfl _ rfl _ _ Try.zeroHash rfl ?_)
    intro Y w5 h5
    have hXY : X < Y := by have := h5.out.eq; have := heap_lt HX4.out; omega
    go_wp2_with (refine wpList_store_row_g (t := 48) (old := cB 32 []) rfl 48 (.tmp 8) _ rfl Y (c8 p) rfl rfl h5.out.cells (Try.sizeHs p HP32.out) (by rw [c8_size, HP32.out]; rfl) (by rw [← cB_full 32 _ HP32.out]; exact one_b _ _) ?_)
    intro w6 h6 k6 z6
    have hX6 := k6.at ((h5.out.below.block X (heap_lt HX4.out)).trans HX4.out) (by omega)
    have hb6 := k6.onto (HB4.out.trans (h5.out.below.mono HB4.out.size)) (Nat.le_refl _) (by omega)
    have HY6 := Lib.hid h6; have HX6 := Lib.hid hX6; have HB6 := Lib.hid hb6
    clear h6 k6 z6 hX6 hb6 h5 HX4 HB4
    go_wp2_with fail
    refine (refParse_any l _ (by omega)).mono ?_
    rintro e w7 ⟨rfl, hb7⟩
    rw [HP2.out]
    have hX7 := (hb7.block X (heap_lt HX6.out)).trans HX6.out
    have hY7 := (hb7.block Y (heap_lt HY6.out)).trans HY6.out
    have hbw7 := HB6.out.trans (hb7.mono HB6.out.size)
    have HX7 := Lib.hid hX7; have HY7 := Lib.hid hY7; have HB7 := Lib.hid hbw7
    clear hX7 hY7 hbw7 hb7 HX6 HY6 HB6
    go_wp2_with (refine wpList_alloc_g rfl _ rfl _ _ Try.zeroHash rfl ?_)
    intro Z w8 h8
    have hYZ : Y < Z := by have := h8.out.eq; have := heap_lt HY7.out; omega
    go_wp2_with (refine wpList_store_row_g (t := 48) (old := cB 32 []) rfl 48 (.tmp 10) _ rfl Z (c8 p) rfl rfl h8.out.cells (Try.sizeHs p HP32.out) (by rw [c8_size, HP32.out]; rfl) (by rw [← cB_full 32 _ HP32.out]; exact one_b _ _) ?_)
    intro w9 h9 k9 z9
    have hX9 := k9.at ((h8.out.below.block X (heap_lt HX7.out)).trans HX7.out) (by omega)
    have hY9 := k9.at ((h8.out.below.block Y (heap_lt HY7.out)).trans HY7.out) (by omega)
    have hb9 := k9.onto (HB7.out.trans (h8.out.below.mono HB7.out.size)) (Nat.le_refl _) (by omega)
    have HZ9 := Lib.hid h9; have HY9 := Lib.hid hY9; have HX9 := Lib.hid hX9; have HB9 := Lib.hid hb9
    clear h9 k9 z9 hX9 hY9 hb9 h8 HX7 HY7 HB7
    go_wp2_with fail
    go_loopw [12, 13] (fun x y wr => ∃ i : Nat, i ≤ 16 ∧ y = .int .i64 i ∧ x = .int .i64 (dTo c i) ∧ wr = w9) (fun _ y _ => 16 - (intOf y).toNat)
    case atStart => exact ⟨0, Nat.zero_le _, rfl, rfl, rfl⟩
    case round =>
      obtain ⟨i, hi, rfl, rfl, rfl⟩ := hrel
      by_cases hlt : i < 16
      · have hx1 : ∀ w, (Instr.index 9 (.string ⟨#[48, 49, 50, 51, 52, 53, 54, 55, 56, 57, 97, 98, 99, 100, 101, 102]⟩) (.int .i64 (i : Int))).run Try.prog w = .ok (.int .u8 ((hexC i).toNat : Int)) w := fun w =>
          hex_index _ Try.underlying9 _ _ hlt _ rfl w
        have j0 : (i : Int) < 16 := by omega
        by_cases he : hexC i = c
        · have hd : dTo c (i + 1) = (i : Int) := by rw [dTo, if_pos he]
          have he2 : ((hexC i).toNat : Int) = (c.toNat : Int) := by rw [he]
          have HD := Lib.hid hd
          clear hd he
          go_wp2_with fail
          clear he2
          go_roundw
          case rel => exact ⟨i + 1, by omega, by go_num, by rw [HD.out], trivial⟩
          case measure => simp [intOf]; omega
        · have hd : dTo c (i + 1) = dTo c i := by rw [dTo, if_neg he]
          have he2 : ¬ ((hexC i).toNat : Int) = (c.toNat : Int) := fun h => he (UInt8.toNat_inj.1 (by omega))
          have HD := Lib.hid hd
          clear hd he
          go_wp2_with fail
          clear he2
          go_roundw
          case rel => exact ⟨i + 1, by omega, by go_num, by rw [HD.out], trivial⟩
          case measure => simp [intOf]; omega
      · obtain rfl : i = 16 := by omega
        rw [dTo_full]
        obtain ⟨w0, hw0⟩ : ∃ w0, w0 = wr := ⟨_, rfl⟩
        rw [← hw0] at HX9 HY9 HZ9 HB9 ⊢
        clear hw0 wr
        have hLX : Hid (∀ w', (∃ p : Regrown, w' = grow (redrawn w0 p.d) p.os) → _) := Lib.hid fun w' hw' => held_row (T := 48) HX9.out (shaF_length b) w' (by obtain ⟨q, hq⟩ := hw'; rw [hq]; exact below_regrown w0 _ _)
        have hLY : Hid (∀ w', (∃ p : Regrown, w' = grow (redrawn w0 p.d) p.os) → _) := Lib.hid fun w' hw' => held_row (T := 48) HY9.out HP32.out w' (by obtain ⟨q, hq⟩ := hw'; rw [hq]; exact below_regrown w0 _ _)
        have hLZ : Hid (∀ w', (∃ p : Regrown, w' = grow (redrawn w0 p.d) p.os) → _) := Lib.hid fun w' hw' => held_row (T := 48) HZ9.out HP32.out w' (by obtain ⟨q, hq⟩ := hw'; rw [hq]; exact below_regrown w0 _ _)
        have q1 := Try.eqH (shaF b) (shaF b) (shaF_length _) (shaF_length _)
        rw [decide_eq_true (rfl : shaF b = shaF b)] at q1
        have q2 := Try.eqH p p HP32.out HP32.out
        rw [decide_eq_true (rfl : p = p)] at q2
        have hb500 : b.length < 1099511627776 := by rw [← HN.out]; omega
        have hrs : ∀ d os, Calls Try.prog 43 #[.slice ab n cb] (grow (redrawn w0 d) os) (Ret (grow (redrawn w0 d) os) (.agg (c8 (shaF b)))) := fun d os =>
          refSum_any _ b _ (RB.out.later (HB9.out.trans ((below_regrown w0 d os).mono HB9.out.size))) hb500
        obtain ⟨dd, hdd⟩ : ∃ dd, dd = digF c := ⟨_, rfl⟩
        have hdg : ∀ w, Calls Try.prog 46 #[.int .u8 c.toNat] w (Ret w (.int .i64 dd)) := fun w => (digit_any c w).mono fun e w' h => ⟨by rw [hdd]; exact h.1, h.2 ▸ Below.refl _ _⟩
        rw [← hdd]
        have HDG := Lib.hid hdg; have HRS := Lib.hid hrs
        have hse : ((bs (hexF (shaF b))).toList == (bs (hexF (shaF b))).toList) = true := beq_self_eq_true _
        obtain ⟨sx, hsx⟩ : ∃ sx, sx = bs (hexF (shaF b)) := ⟨_, rfl⟩
        have hhx : ∀ w, Calls Try.prog 44 #[.agg (c8 (shaF b))] w (Ret w (.string sx)) := fun w => by rw [hsx]; exact hex_any _ (shaF_length b) w
        have hrx : ∀ w, Calls Try.prog 45 #[.agg (c8 (shaF b))] w (Ret w (.string sx)) := fun w => by rw [hsx]; exact refHex_any _ (shaF_length b) w
        rw [← hsx] at hse
        have HHX := Lib.hid hhx; have HRX := Lib.hid hrx
        clear hdd hdg hrs hsx hhx hrx hb500
        go_wp2_with fail
        refine wp_region_quiet_below (by kernel_rfl) (by kernel_rfl) ?_
        repeat (first | (refine quiet_load rfl _ _ rfl _ rfl _ hLX.out ?_) | (refine quiet_load rfl _ _ rfl _ rfl _ hLY.out ?_) | (refine quiet_load rfl _ _ rfl _ rfl _ hLZ.out ?_) | quiet_step (first
          | (go_at_call 43; (with_reducible exact Calls.regrown_of (HRS.out _ _)))
          | (go_at_call 44; (with_reducible exact Calls.regrown_of (HHX.out _)))
          | (go_at_call 45; (with_reducible exact Calls.regrown_of (HRX.out _)))
          | (go_at_call 46; (with_reducible exact Calls.regrown_of (HDG.out _)))
          | (go_at_call 33; (with_reducible exact Calls.regrown_of (lives_any _)))))
        refine wpQuiet_nil ?_
        intro _ hw'
        obtain ⟨⟨dq, osq⟩, hw''⟩ := hw'
        subst hw''
        go_wp2_with fail
        go_ret
        exact ⟨rfl, HB9.out.trans ((below_regrown w0 dq osq).mono HB9.out.size)⟩
end Go.Proofs.Ytbfdjjaonjepnaa
