/- tallagelaw05.ShaPieces: its walk. -/
import Derived.Test.YtbfdjjaonjepnaaShaU
import Derived.Test.YtbfdjjaonjepnaaShaQ
namespace Go.Proofs.Ytbfdjjaonjepnaa
open Go.RowKit

theorem Rd.sub_lt {α : Type} {w : World} {enc : α → List Value} {sz : Nat} {v v' : Value} {l : List α} (h : Rd w enc sz v l) (hv : ∀ b, v'.ownBlock = some b → v.ownBlock = some b) : ∀ k, v'.ownBlock = some k → l ≠ [] → k < w.heap.size :=
  fun k hk hl => h.lt k (hv k hk) hl
set_option maxRecDepth 100000 in
set_option maxHeartbeats 2000000 in
theorem law_pieces (b cuts more : List UInt8) (vb vc vm : Value) (w : World) (rb : Rd w u8E 1 vb b) (rc : Rd w u8E 1 vc cuts) (rm : Rd w u8E 1 vm more) : Calls Try.prog 6 #[vb, vc, vm] w (Ret w (.bool true)) := by
  obtain ⟨ab, cb, rfl, hb1, hb2⟩ := rb.shape
  obtain ⟨ac, cc, rfl, hc1, hc2⟩ := rc.shape
  obtain ⟨am, cm, rfl, hm1, hm2⟩ := rm.shape
  have RB := Lib.hid rb; have RC := Lib.hid rc; have RM := Lib.hid rm
  clear rb rc rm
  obtain ⟨n, hn⟩ : ∃ n, n = b.length := ⟨_, rfl⟩
  obtain ⟨m, hm⟩ : ∃ m, m = cuts.length := ⟨_, rfl⟩
  obtain ⟨k, hk⟩ : ∃ k, k = more.length := ⟨_, rfl⟩
  rw [← hn] at hb1 RB ⊢
  rw [← hm] at hc1 RC ⊢
  rw [← hk] at hm1 RM ⊢
  have HN := Lib.hid hn; have HM := Lib.hid hm; have HK := Lib.hid hk
  clear hn hm hk
  by_cases hbig : 2000 < n ∨ 60 < m ∨ 200 < k
  · rcases (show 2000 < n ∨ (n ≤ 2000 ∧ 60 < m) ∨ (n ≤ 2000 ∧ m ≤ 60 ∧ 200 < k) by omega) with h1 | ⟨h1, h2⟩ | ⟨h1, h2, h3⟩
    all_goals
      go_enter Try.func6, Try.ntmps6
      go_wp2_with fail
      refine (lives_any _).mono ?_
      rintro e w1 ⟨rfl, hb1⟩
      go_wp2_with fail
      go_ret
      exact ⟨rfl, hb1⟩
  · have h1 : n ≤ 2000 := by omega
    have h2 : m ≤ 60 := by omega
    have h3 : k ≤ 200 := by omega
    clear hbig
    go_enter Try.func6, Try.ntmps6
    go_wp2_with fail
    refine (new_any _).mono ?_
    rintro e w1 ⟨g, rfl, hg, hst, hbl⟩
    have HST := Lib.hid hst; have HBL := Lib.hid hbl
    clear hst hbl
    go_wp2_with fail
    go_loopw [8, 10, 11, 31] (fun x _ _ y wr => ∃ (i j : Nat), i ≤ m ∧ j ≤ n ∧ y = .int .i64 i ∧ Rd wr u8E 1 x (b.drop j) ∧ (∀ q, x.ownBlock = some q → b ≠ [] → q < w.heap.size) ∧ StM wr g (b.take j) ∧ Below w.heap.size w wr) (fun _ _ _ y _ => m - (intOf y).toNat)
    case atStart => exact ⟨0, 0, Nat.zero_le _, Nat.zero_le _, rfl, RB.out.later HBL.out, RB.out.lt, HST.out, HBL.out⟩
    case round =>
      obtain ⟨i, j, hi, hj, rfl, hx, hxb, hstr, hb⟩ := hrel
      obtain ⟨ad, cap, rfl, hcap, hcap2⟩ := hx.shape
      obtain ⟨r, hr⟩ : ∃ r, r = (b.drop j).length := ⟨_, rfl⟩
      have hr0 : r = n - j := by rw [hr, List.length_drop, HN.out]
      have hr1 : r + j = n := by omega
      rw [← hr] at hcap hx hxb ⊢
      have HR := Lib.hid hr; have HR1 := Lib.hid hr1
      have hr2 : r ≤ 2000 := by omega
      clear hr hr0 hr1
      by_cases hlt : i < m
      · have hrc : Rd wr u8E 1 (.slice ac m cc) cuts := RC.out.later hb
        obtain ⟨sb, so, rfl, _, hcell⟩ := hrc.at i (by rw [← HM.out]; exact hlt)
        have hcl : wr.cell? ⟨sb, so + i, none⟩ = some (.int .u8 ((gB cuts i).toNat : Int)) := by
          rw [hcell]
          have : i < cuts.length := by rw [← HM.out]; exact hlt
          simp [u8E, byteV, gB, List.getD, List.getElem?_eq_getElem this]
        have hcl2 := (gB cuts i).toNat_lt
        obtain ⟨c, hc⟩ : ∃ c, c = (gB cuts i).toNat := ⟨_, rfl⟩
        rw [← hc] at hcl hcl2
        have j0 : (i : Int) < (m : Int) := by omega
        obtain ⟨nn, hnn⟩ : ∃ nn, nn = min c r := ⟨_, rfl⟩
        obtain ⟨v1, hs1, hv1, ho1⟩ := hx.upto (P := Try.prog) Try.underlying43 (by kernel_rfl) nn (by rw [← HR.out]; omega)
        obtain ⟨v2, hs2, hv2, ho2⟩ := hx.from (P := Try.prog) Try.underlying43 (by kernel_rfl) nn (by rw [← HR.out]; omega)
        rw [List.drop_drop] at hv2
        have hgw : w.heap.size ≤ g := hg
        have hj2 : b.take j ++ (b.drop j).take nn = b.take (j + nn) := by rw [← List.take_add]
        have O1 := Lib.hid (fun k hk hl => hxb k (ho1 k hk) hl); have O2 := Lib.hid (fun k hk hl => hxb k (ho2 k hk) hl)
        have R1 := Lib.hid hv1; have R2 := Lib.hid hv2; have ST := Lib.hid hstr; have HB := Lib.hid hb; have J2 := Lib.hid hj2; have NN := Lib.hid hnn
        clear hrc hcell hc hx hxb hstr hb hv1 hv2 ho1 ho2 hj2 hnn
        rcases (show (r < c ∧ nn = r) ∨ (c ≤ r ∧ nn = c) by have := NN.out; omega) with ⟨hcc, hnn⟩ | ⟨hcc, hnn⟩
        all_goals
          have HNN := Lib.hid hnn
          rw [hnn] at hs1 hs2
          clear hnn
          go_wp2_with fail
          refine (write_any _ g (b.take j) ((b.drop j).take nn) v1 R1.out ST.out (fun k hk hl e => by
            have := O1.out k hk (by intro e2; rw [e2] at hl; simp at hl)
            omega) (by have := HR1.out; have := HN.out; simp; omega)).mono ?_
          rintro e w2 ⟨rfl, hst2, hk2⟩
          have hr2' := R2.out.keep hk2 (fun k hk hl e => by
            have := O2.out k hk (by intro e2; rw [e2] at hl; simp at hl)
            omega)
          rw [J2.out] at hst2
          have ST2 := Lib.hid hst2; have R2' := Lib.hid hr2'; have HB2 := Lib.hid (hk2.onto HB.out (Nat.le_refl _) hgw)
          clear hst2 hr2' hk2
          go_wp2_with fail
          go_roundw
          case rel => exact ⟨i + 1, j + nn, by omega, by have := NN.out; have := HR1.out; omega, by go_num, R2'.out, O2.out, ST2.out, HB2.out⟩
          case measure => simp [intOf]; omega
      · obtain rfl : i = m := by omega
        have hgw : w.heap.size ≤ g := hg
        have HX := Lib.hid hx; have HXB := Lib.hid hxb; have ST := Lib.hid hstr; have HB := Lib.hid hb
        clear hx hxb hstr hb
        go_wp2_with fail
        refine (write_any _ g (b.take j) (b.drop j) _ HX.out ST.out (fun k hk hl e => by
          have := HXB.out k hk (by intro e2; rw [e2] at hl; simp at hl)
          omega) (by simp [← HN.out]; omega)).mono ?_
        rintro e w2 ⟨rfl, hst2, hk2⟩
        rw [List.take_append_drop] at hst2
        have ST2 := Lib.hid hst2; have HB2 := Lib.hid (hk2.onto HB.out (Nat.le_refl _) hgw)
        clear hst2 hk2 ST HX HXB HB
        go_wp2_with fail
        refine (copy_any _ g b ST2.out).mono ?_
        rintro e w3 ⟨g2, rfl, hg2, hst3, hb3⟩
        have hgg : g < g2 := by obtain ⟨wt, h, _⟩ := ST2.out; have := heap_lt h.1; omega
        have hgw2 : w.heap.size ≤ g2 := by omega
        have ST3 := Lib.hid hst3; have ST2' := Lib.hid (ST2.out.below hb3); have HB3 := Lib.hid (HB2.out.trans (hb3.mono HB2.out.size))
        clear hst3 hb3 ST2 HB2
        go_wp2_with fail
        refine (write_any _ g2 b more _ (RM.out.later HB3.out) ST3.out (fun k hk hl e => by
          have := RM.out.lt k hk hl
          omega) (by rw [← HN.out, ← HK.out]; omega)).mono ?_
        rintro e w4 ⟨rfl, hst4, hk4⟩
        have hst4g : StM w4 g b := by
          obtain ⟨wt, h, h5⟩ := ST2'.out
          exact ⟨wt, ⟨hk4.at h.1 (by omega), h.2⟩, h5⟩
        have ST4 := Lib.hid hst4; have ST4g := Lib.hid hst4g; have HB4 := Lib.hid (hk4.onto HB3.out (Nat.le_refl _) hgw2)
        clear hst4 hst4g hk4 ST3 ST2' HB3
        have q1 := Try.eqH (shaF b) (shaF b) (shaF_length _) (shaF_length _)
        rw [decide_eq_true (rfl : shaF b = shaF b)] at q1
        have q2 := Try.eqH (shaF (b ++ more)) (shaF (b ++ more)) (shaF_length _) (shaF_length _)
        rw [decide_eq_true (rfl : shaF (b ++ more) = shaF (b ++ more))] at q2
        go_wp2_with fail
        refine (sum_any _ g b ST4g.out (by rw [← HN.out]; omega)).mono ?_
        rintro e w5 ⟨rfl, hb5⟩
        have HB5 := Lib.hid (HB4.out.trans (hb5.mono HB4.out.size)); have ST5 := Lib.hid (ST4.out.below hb5); have ST5g := Lib.hid (ST4g.out.below hb5)
        clear hb5 ST4 ST4g HB4
        go_wp2_with fail
        refine (sha_any _ b _ (RB.out.later HB5.out) (by rw [← HN.out]; omega)).mono ?_
        rintro e w6 ⟨rfl, hb6⟩
        have HB6 := Lib.hid (HB5.out.trans (hb6.mono HB5.out.size)); have ST6 := Lib.hid (ST5.out.below hb6); have ST6g := Lib.hid (ST5g.out.below hb6)
        clear hb6 ST5 ST5g HB5
        go_wp2_with fail
        refine (sum_any _ g b ST6g.out (by rw [← HN.out]; omega)).mono ?_
        rintro e w7 ⟨rfl, hb7⟩
        have HB7 := Lib.hid (HB6.out.trans (hb7.mono HB6.out.size)); have ST7 := Lib.hid (ST6.out.below hb7); have ST7g := Lib.hid (ST6g.out.below hb7)
        clear hb7 ST6 ST6g HB6
        go_wp2_with fail
        refine (sha_any _ b _ (RB.out.later HB7.out) (by rw [← HN.out]; omega)).mono ?_
        rintro e w8 ⟨rfl, hb8⟩
        have HB8 := Lib.hid (HB7.out.trans (hb8.mono HB7.out.size)); have ST8 := Lib.hid (ST7.out.below hb8); have ST8g := Lib.hid (ST7g.out.below hb8)
        clear hb8 ST7 ST7g HB7
        go_wp2_with fail
        refine (len_any _ g b ST8g.out).mono ?_
        rintro e w9 ⟨rfl, rfl⟩
        rw [← HN.out]
        go_wp2_with fail
        refine (sum_any _ g2 (b ++ more) ST8.out (by rw [List.length_append, ← HN.out, ← HK.out]; omega)).mono ?_
        rintro e w9 ⟨rfl, hb9⟩
        have HB9 := Lib.hid (HB8.out.trans (hb9.mono HB8.out.size)); have ST9 := Lib.hid (ST8.out.below hb9); have ST9g := Lib.hid (ST8g.out.below hb9)
        clear hb9 ST8 ST8g HB8
        go_wp2_with (at_builtin; refine own_apps_y rfl _ _ _ rfl Try.underlying43 Try.infoU8 rfl (by omega) (fun _ => rfl) u8E_one (own_empty w9 w9.heap.size 5 (Nat.le_refl _)) rfl _ rfl ((RB.out.later HB9.out).alloc _) ?c1 ?c2 (B := w9.heap.size) (w0 := w9) ((Below.refl _ _).alloc (Nat.le_refl _) _) (Nat.le_refl _) (by simp) ?_)
        case c1 => rw [← HN.out]; unfold maxLen; simp; omega
        case c2 => rw [← HN.out]; simp; omega
        intro v1 w10 o1 b1 g1
        have hsz10 : w9.heap.size ≤ w10.heap.size := b1.size
        have B1 := Lib.hid b1; have O1 := Lib.hid o1
        clear b1 o1 g1
        go_wp2_with (at_builtin; refine own_apps_y rfl _ _ _ rfl Try.underlying43 Try.infoU8 rfl (by omega) (fun _ => rfl) u8E_one O1.out rfl _ rfl (RM.out.later (HB9.out.trans (B1.out.mono HB9.out.size))) ?d1 ?d2 (B := w9.heap.size) (w0 := w9) B1.out (Nat.le_refl _) hsz10 ?_)
        case d1 => rw [← HN.out, ← HK.out]; unfold maxLen; omega
        case d2 => rw [← HN.out, ← HK.out]; omega
        intro v2 w11 o2 b2 gr2
        have HB11 := Lib.hid (HB9.out.trans (b2.mono HB9.out.size)); have ST11 := Lib.hid (ST9.out.below b2); have ST11g := Lib.hid (ST9g.out.below b2)
        have O2 := Lib.hid o2
        clear b2 o2 gr2 ST9 ST9g HB9 B1 O1
        go_wp2_with fail
        refine (sha_any _ (b ++ more) _ (O2.out.rd (fun _ => rfl)) (by rw [List.length_append, ← HN.out, ← HK.out]; omega)).mono ?_
        rintro e w12 ⟨rfl, hb12⟩
        have HB12 := Lib.hid (HB11.out.trans (hb12.mono HB11.out.size)); have ST12 := Lib.hid (ST11.out.below hb12); have ST12g := Lib.hid (ST11g.out.below hb12)
        clear hb12 ST11 ST11g HB11 O2
        go_wp2_with fail
        refine (len_any _ g2 (b ++ more) ST12.out).mono ?_
        rintro e w13 ⟨rfl, rfl⟩
        rw [List.length_append, ← HN.out, ← HK.out, Int.natCast_add]
        go_wp2_with fail
        refine (reset_any _ g b ST12g.out).mono ?_
        rintro e w13 ⟨rfl, hst13, hk13⟩
        have HB13 := Lib.hid (hk13.onto HB12.out (Nat.le_refl _) hgw); have ST13 := Lib.hid hst13
        clear hst13 hk13 ST12 ST12g HB12
        go_wp2_with fail
        refine (len_any _ g [] ST13.out).mono ?_
        rintro e w14 ⟨rfl, rfl⟩
        have q3 := Try.eqH (shaF []) (shaF []) (shaF_length _) (shaF_length _)
        rw [decide_eq_true (rfl : shaF [] = shaF [])] at q3
        go_wp2_with fail
        refine (sum_any _ g [] ST13.out (by simp)).mono ?_
        rintro e w14 ⟨rfl, hb14⟩
        have HB14 := Lib.hid (HB13.out.trans (hb14.mono HB13.out.size))
        clear hb14 HB13 ST13
        go_wp2_with fail
        refine (sha_any _ [] _ (Rd.nil _ _ _) (by simp)).mono ?_
        rintro e w15 ⟨rfl, hb15⟩
        have HB15 := Lib.hid (HB14.out.trans (hb15.mono HB14.out.size))
        clear hb15 HB14
        go_wp2_with fail
        refine (lives_any _).mono ?_
        rintro e w16 ⟨rfl, hb16⟩
        have HB16 := Lib.hid (HB15.out.trans (hb16.mono HB15.out.size))
        clear hb16 HB15
        go_wp2_with fail
        go_ret
        exact ⟨rfl, HB16.out⟩
end Go.Proofs.Ytbfdjjaonjepnaa
