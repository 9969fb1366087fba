/- FifoOrder: the walk. No condition. -/
import Derived.Test.YtohedljdkfmkdaaFifF
namespace Go.Proofs.Ytohedljdkfmkdaa
open Go.RowKit

/-- What the law knows of its store and its own queue. -/
structure OrdI (w0 w : World) (g : Nat) (s : PS) (vq : Value) (q : List Rw) (N : Nat) : Prop where
  one : One w0 w g s
  fit : Fit s
  sz : s.sz ≤ 4 * N
  qi : QI s (q.map Prod.snd) N
  fo : FO w w0.heap.size vq q
  rows : RowsR w0 q
  goods : ∀ p ∈ q, goodR p.2
theorem OrdI.later {w0 w w' : World} {g : Nat} {s : PS} {vq : Value} {q : List Rw} {N : Nat} (h : OrdI w0 w g s vq q N) (hb : Below w.heap.size w w') : OrdI w0 w' g s vq q N := ⟨h.one.later hb, h.fit, h.sz, h.qi, h.fo.later hb, h.rows, h.goods⟩
theorem OrdI.more {w0 w : World} {g : Nat} {s : PS} {vq : Value} {q : List Rw} {N M : Nat} (h : OrdI w0 w g s vq q N) (hm : N ≤ M) : OrdI w0 w g s vq q M := ⟨h.one, h.fit, by have := h.sz; omega, h.qi.more (by omega), h.fo, h.rows, h.goods⟩
theorem One.turn {w0 w w' : World} {g : Nat} {s : PS} (h : One w0 w g s) {u : Value} {B : Nat} {q : List Rw} (hf : FO w B u q) (hB : w0.heap.size ≤ B) (hk : Keep (fun k => u.ownBlock = some k) w w') : One w0 w' g s := by
  obtain ⟨F, h1, h2, h3⟩ := h
  refine ⟨F, h1.keep hk fun x hx hu => ?_, h2, h3.trans (hk.below (B := w0.heap.size) (fun y hy e => by have := (hf.block y e).1; omega) h3.size)⟩
  obtain ⟨o, ho, k1⟩ := h1.kind x hx
  obtain ⟨_, cur, hc⟩ := hf.block x hu
  rw [ho] at hc
  cases hc
  have k2 : stoKind (.cells cur 43 (0, 0)) = false := rfl
  rw [k2] at k1; cases k1

set_option maxHeartbeats 16000000 in
set_option maxRecDepth 100000 in
theorem order12_any {w : World} {v1 : Value} {l : List Act12} (c0 : UInt8) (h1 : Rd w act12E 3 v1 l) (hgd : ∀ a ∈ l, Good12 w a) :
    Calls Try.prog 10 #[.int .u8 c0.toNat, v1] w (Ret w (.bool true)) := by
  obtain ⟨ad, cap, e1, c1, c1'⟩ := h1.shape
  obtain ⟨n, hn⟩ : ∃ n, n = l.length := ⟨_, rfl⟩
  rw [← hn] at e1 c1
  subst e1
  have H1 := Lib.hid h1; have HN := Lib.hid hn; have HGD := Lib.hid hgd
  obtain ⟨c, hc⟩ : ∃ c : Nat, c = c0.toNat := ⟨_, rfl⟩
  rw [← hc]
  have hcb : c < 256 := by rw [hc]; exact c0.toNat_lt
  clear h1 hn hgd hc
  go_enter Try.func10, Try.ntmps10
  go_wp2_with fail
  refine (light12_any H1.out).mono ?_
  rintro e w1 ⟨r, rfl, hr, hb⟩
  cases r with
  | false =>
    have HB := Lib.hid hb
    clear hr hb
    go_wp2_with fail
    refine (lives12_any _).mono ?_
    rintro e w2 ⟨rfl, hb2⟩
    have HB2 := Lib.hid (HB.out.trans (hb2.mono HB.out.size))
    clear hb2
    go_wp2_with fail
    go_ret
    exact ⟨rfl, HB2.out⟩
  | true =>
  have HL := Lib.hid (hr rfl); have HB0 := Lib.hid hb
  clear hr hb
  obtain ⟨J, hJ⟩ : ∃ J : Int, (c : Int) % 9 = J := ⟨_, rfl⟩
  have hJ0 : 0 ≤ J := by omega
  have hJ1 : J < 9 := by omega
  go_wp2_with fail
  obtain ⟨M, hM⟩ : ∃ M : Int, 1 + J = M := ⟨_, rfl⟩
  rw [hM]
  have HM : Hid (1 ≤ M ∧ M ≤ 9) := Lib.hid (by omega)
  clear hM hJ0 hJ1 hJ hcb
  refine (snew_any _).mono ?_
  rintro e w3 ⟨g, F, rfl, q1, hb3, q3⟩
  have O3 : Hid (OrdI w w3 g PS.new (.slice none 0 0) [] 0) := Lib.hid ⟨⟨F, q1, fun x hx => Nat.le_trans HB0.out.size (q3 x hx), HB0.out.trans (hb3.mono HB0.out.size)⟩, Fit.new, by decide, QI.new, FO.nil _ _, (fun p hp => by cases hp), (fun p hp => by cases hp)⟩
  clear q1 hb3 q3 HB0
  go_wp2_with fail
  go_loopw [7, 24] (fun vx vi wr => ∃ (vq : Value) (i : Nat) (q : List Rw) (s : PS), vq = vx ∧ vi = .int .i64 i ∧ i ≤ n ∧ Hid (OrdI w wr g s vq q i)) (fun _ vi _ => n - (intOf vi).toNat)
  case atStart => exact ⟨_, 0, [], _, rfl, rfl, Nat.zero_le _, O3⟩
  case round =>
    clear O3
    obtain ⟨vq, i, q, s, rfl, rfl, hin, OI⟩ := hrel
    by_cases hlt : i < n
    · have hi : i < l.length := by rw [← HN.out]; exact hlt
      obtain ⟨gL, off, rfl, hgL, q0, q1, q2⟩ := Rd.act12 H1.out i hi
      have q0' := (OI.out.one.below.cell (p := ⟨gL, off + i * 3, none⟩) hgL).trans q0
      have q1' := (OI.out.one.below.cell (p := ⟨gL, off + i * 3 + 1, none⟩) hgL).trans q1
      have q2' := (OI.out.one.below.cell (p := ⟨gL, off + i * 3 + 2, none⟩) hgL).trans q2
      have hmem : l[i] ∈ l := List.getElem_mem hi
      obtain ⟨a, ha⟩ : ∃ a, a = l[i] := ⟨_, rfl⟩
      rw [← ha] at q0' q1' q2' hmem
      have HLT := Lib.hid hlt; have HGX := Lib.hid (HGD.out a hmem); have HRD0 := Lib.hid (HGD.out a hmem).rdl; have HLEN : Hid (a.l.length ≤ 10 ∧ i ≤ 200) := Lib.hid ⟨(HL.out.2 a hmem).2, by have := HL.out.1; have := HN.out; omega⟩
      clear ha q0 q1 q2 hgL hi hmem
      go_wp2_with (refine wpList_alloc_g rfl _ rfl _ _ Try.zeroAct12 rfl ?_)
      intro R w5 h5
      go_wp2_with (refine wpList_store_row_g (t := 71) (old := #[.bool false, .slice none 0 0, .slice none 0 0]) rfl 71 _ _ rfl R #[.bool a.pop, .slice a.ad a.ids.length a.cap, .slice a.ld a.l.length a.lcap] rfl rfl h5.out.cells Try.sizeAct12 rfl (by simp [Value.oneCell']) ?_)
      intro w6 hx6 k56 z56
      have hb56 : Below wr.heap.size wr w6 := h5.out.below.trans (k56.below (B := wr.heap.size) (fun x hx e => by have := h5.out.eq; omega) h5.out.below.size)
      have O6 := Lib.hid (OI.out.later hb56); have HX6 := Lib.hid hx6
      clear h5 hx6 k56 z56 hb56 q0' q1' q2' OI hlt hin
      obtain ⟨ap, hap⟩ : ∃ b, b = a.pop := ⟨_, rfl⟩
      have r0 : w6.cell? ⟨R, 0, none⟩ = some (.bool ap) := by rw [hap]; exact Lib.cell_of_heap HX6.out 0
      have HAP := Lib.hid hap
      clear hap
      have hgx := HGX.out
      have hgR : goodL a.l = true → goodR a.l := fun h => ⟨h, fun x hx => (hgx.l64 x hx).2⟩
      have HGR := Lib.hid hgR
      clear hgR hgx
      cases ap with
      | false =>
        have r2 : (w6.alloc (.cells #[.int .i64 1] 3)).cell? ⟨R, 2, none⟩ = some (.slice a.ld a.l.length a.lcap) := Lib.cell_of_heap (below_at' (below_new _ _) HX6.out) 2
        go_wp2_with fail
        obtain ⟨w7, hwl⟩ : ∃ w2, w2 = w6.alloc (.cells #[.int .i64 1] 3) := ⟨_, rfl⟩
        obtain ⟨gi, hgi⟩ : ∃ gi, gi = w6.heap.size := ⟨_, rfl⟩
        rw [← hwl, ← hgi]
        have hbl : Below w6.heap.size w6 w7 := by rw [hwl]; exact below_new _ _
        have HOI : Hid (Own w7 0 3 intE 1 (.slice (some ⟨gi, 0, none⟩) 1 1) [1]) := Lib.hid (own_lit (l := [1]) (by rw [hwl, hgi]; exact heap_alloc_new _ _) (Nat.zero_le _) (by decide))
        clear hwl hgi
        have O7 := Lib.hid (O6.out.later hbl); have HX7 := Lib.hid (below_at' hbl HX6.out)
        clear O6 HX6 hbl r0 r2
        obtain ⟨a0, ha0, hends, hle⟩ := O7.out.qi.ends (by have := HLEN.out; omega)
        have hG := HGX.out.later O7.out.one.below
        refine (O7.out.one.st fun F h => push_any h (by have := O7.out.sz; have := HLEN.out; omega) O7.out.fit 3 (ids := [1]) (by decide) (I64s.one (by decide)) HOI.out M (l := a.l) (by have := HLEN.out; omega) hG.l64 hG.rdl (by rw [hends]; have := HLEN.out; simp only; omega)).mono ?_
        rintro e w8 ⟨rfl, o8, hoth⟩
        have hft := O7.out.fit.pushS 3 [1] M (l := a.l) (by have := HLEN.out; omega)
        have hsz := sz_pushS s 3 [1] M a.l
        have hcase : (goodL a.l = true ∧ (q.length : Int) < M ∧ pushE (getP s.t) 3 [1] M a.l = 0 ∧ QI (pushS s 3 [1] M a.l) (q.map Prod.snd ++ [a.l]) ((i : Int) + 1)) ∨ (goodL a.l = true ∧ ¬ (q.length : Int) < M ∧ ¬ pushE (getP s.t) 3 [1] M a.l = 0 ∧ pushS s 3 [1] M a.l = s) ∨ (goodL a.l = false ∧ pushE (getP s.t) 3 [1] M a.l = 2 ∧ pushS s 3 [1] M a.l = s) := by
          cases hg : goodL a.l with
          | true =>
            by_cases hq : (q.length : Int) < M
            · have := O7.out.qi.push (by omega) (by have := HLEN.out; omega) (HGR.out hg) HM.out.1 (by rw [List.length_map]; exact hq)
              exact .inl ⟨rfl, hq, this.1, this.2⟩
            · have h0 := O7.out.qi.push_not (by have := HLEN.out; omega) (l := a.l) (n := M) (by rw [List.length_map]; omega)
              exact .inr (.inl ⟨rfl, hq, h0, push_s h0⟩)
          | false =>
            have h0 := push_bad (f := getP s.t) (n := M) hg
            exact .inr (.inr ⟨rfl, h0, push_s (by rw [h0]; decide)⟩)
        obtain ⟨E, hE⟩ : ∃ E, E = pushE (getP s.t) 3 [1] M a.l := ⟨_, rfl⟩
        obtain ⟨s', hs'⟩ : ∃ s', s' = pushS s 3 [1] M a.l := ⟨_, rfl⟩
        rw [← hE, ← hs'] at hcase
        rw [← hs'] at o8 hft hsz
        rw [← hE]
        have ON8 := Lib.hid o8; have FO8 := Lib.hid (O7.out.fo.oth hoth); have HX8 := Lib.hid (hoth.2 R _ HX7.out rfl rfl)
        have HFT := Lib.hid hft; have HSZ : Hid (s'.sz ≤ 4 * (i + 1)) := Lib.hid (by have := O7.out.sz; omega)
        have HRL := Lib.hid ((HGX.out.later o8.below).rdl)
        have HQ := Lib.hid O7.out.qi; have HRO := Lib.hid O7.out.rows; have HGO := Lib.hid O7.out.goods
        obtain ⟨adq, capq, rfl⟩ := O7.out.fo.shape
        clear o8 hoth hft hsz hE hs' O7 HX7 hG hends hle ha0 HOI HGX
        have r2 : w8.cell? ⟨R, 2, none⟩ = some (.slice a.ld a.l.length a.lcap) := Lib.cell_of_heap HX8.out 2
        go_wp2_with fail
        refine (good_any HRL.out).mono ?_
        rintro e w9 ⟨rfl, rfl⟩
        rcases hcase with ⟨h1, h2, h3, h4⟩ | ⟨h1, h2, h3, h4⟩ | ⟨h1, h3, h4⟩
        · rw [h1]
          subst h3
          have HGL := Lib.hid h1; have HQI := Lib.hid h4; have HLM := Lib.hid h2
          clear h1 h4
          go_wp2_with fail
          refine (good_any HRL.out).mono ?_
          rintro e w9 ⟨rfl, rfl⟩
          rw [HGL.out]
          go_wp2_with (refine fo_app rfl _ _ 78 rfl Try.underlying78 Try.infoSI FO8.out ON8.out.below.size rfl (.slice a.ld a.l.length a.lcap, a.l) rfl rfl rfl (by have := HLM.out; have := HM.out; omega) ?_)
          intro v9 w9 hf9 k9
          have OI : Hid (OrdI w w9 g s' v9 (q ++ [(.slice a.ld a.l.length a.lcap, a.l)]) (i + 1)) := Lib.hid (by
            refine ⟨ON8.out.turn FO8.out (Nat.le_refl _) k9, HFT.out, HSZ.out, by rw [List.map_append]; exact HQI.out, hf9, ?_, ?_⟩
            · intro p hp
              rcases List.mem_append.1 hp with hp | hp
              · exact HRO.out p hp
              · rw [List.mem_singleton.1 hp]; exact ⟨HRD0.out, rfl⟩
            · intro p hp
              rcases List.mem_append.1 hp with hp | hp
              · exact HGO.out p hp
              · rw [List.mem_singleton.1 hp]; exact HGR.out HGL.out)
          clear hf9 k9 r2 h2
          have hlt9 := HLT.out
          go_wp2_with fail
          go_roundw
          case rel => exact ⟨_, i + 1, _, _, rfl, by go_num, HLT.out, OI⟩
          case measure => have := HLT.out; simp [intOf]; omega
        · rw [h1]
          have he : (E == 0) = false := beq_eq_false_iff_ne.2 h3
          have HGL := Lib.hid h1
          have h2' : M ≤ (q.length : Int) := by omega
          have OI : Hid (OrdI w w8 g s' (.slice adq q.length capq) q (i + 1)) := Lib.hid ⟨ON8.out, HFT.out, HSZ.out, by rw [h4]; exact HQ.out.more (by omega), FO8.out, HRO.out, HGO.out⟩
          clear h1 h4 h3
          go_wp2_with fail
          refine (good_any HRL.out).mono ?_
          rintro e w9 ⟨rfl, rfl⟩
          rw [HGL.out]
          have hlt9 := HLT.out
          go_wp2_with fail
          go_roundw
          case rel => exact ⟨_, i + 1, _, _, rfl, by go_num, HLT.out, OI⟩
          case measure => have := HLT.out; simp [intOf]; omega
        · rw [h1]
          subst h3
          have HGL := Lib.hid h1
          have OI : Hid (OrdI w w8 g s' (.slice adq q.length capq) q (i + 1)) := Lib.hid ⟨ON8.out, HFT.out, HSZ.out, by rw [h4]; exact HQ.out.more (by omega), FO8.out, HRO.out, HGO.out⟩
          clear h1 h4
          go_wp2_with fail
          refine (good_any HRL.out).mono ?_
          rintro e w9 ⟨rfl, rfl⟩
          rw [HGL.out]
          have hlt9 := HLT.out
          go_wp2_with fail
          go_roundw
          case rel => exact ⟨_, i + 1, _, _, rfl, by go_num, HLT.out, OI⟩
          case measure => have := HLT.out; simp [intOf]; omega
      | true =>
        clear HX6
        go_wp2_with fail
        obtain ⟨w7, hwl⟩ : ∃ w2, w2 = w6.alloc (.cells #[.int .i64 1] 3) := ⟨_, rfl⟩
        obtain ⟨gi, hgi⟩ : ∃ gi, gi = w6.heap.size := ⟨_, rfl⟩
        rw [← hwl, ← hgi]
        have hbl : Below w6.heap.size w6 w7 := by rw [hwl]; exact below_new _ _
        have HOI : Hid (Own w7 0 3 intE 1 (.slice (some ⟨gi, 0, none⟩) 1 1) [1]) := Lib.hid (own_lit (l := [1]) (by rw [hwl, hgi]; exact heap_alloc_new _ _) (Nat.zero_le _) (by decide))
        clear hwl hgi
        have O7 := Lib.hid (O6.out.later hbl)
        clear O6 hbl r0 HGX HGR
        refine (O7.out.one.pop fun F h => pop_any h (by have := O7.out.sz; have := HLEN.out; omega) O7.out.fit 3 (ids := [1]) (by decide) (I64s.one (by decide)) HOI.out).mono ?_
        rintro e w8 ⟨v, rfl, o8, hoth, ho⟩
        have hft := O7.out.fit.popS 3 [1]
        have hsz := sz_popS s 3 [1]
        have FO8 := Lib.hid (O7.out.fo.oth hoth)
        have HRO := Lib.hid O7.out.rows; have HGO := Lib.hid O7.out.goods
        have hq := O7.out.qi
        cases q with
        | nil =>
          obtain ⟨hb, hs⟩ := QI.pop_no hq
          rw [hb]
          rw [hs] at o8
          have OI : Hid (OrdI w w8 g s vq [] (i + 1)) := Lib.hid ⟨o8, O7.out.fit, by have := O7.out.sz; omega, hq.more (by omega), FO8.out, HRO.out, HGO.out⟩
          obtain ⟨adq, capq, rfl⟩ := O7.out.fo.shape
          clear hb hs o8 hoth ho hft hsz hq O7 HOI
          have hlt9 := HLT.out
          go_wp2_with fail
          go_roundw
          case rel => exact ⟨_, i + 1, _, _, rfl, by go_num, HLT.out, OI⟩
          case measure => have := HLT.out; simp [intOf]; omega
        | cons p q' =>
          obtain ⟨hb, hl, hqi⟩ := QI.pop (l := p.2) (q := q'.map Prod.snd) hq (by have := HLEN.out; omega)
          rw [hb]
          rw [hl] at ho
          have HO := Lib.hid ho
          obtain ⟨v', hsl, hfo'⟩ := FO8.out.tail Try.underlying78 Try.sizeSI
          have hrd := FO8.out.rd
          obtain ⟨adq, capq, rfl⟩ := O7.out.fo.shape
          obtain ⟨bq, oq, rfl, _, hcq⟩ := hrd.at 0 (by simp)
          have hcq' : w8.cell? ⟨bq, oq, none⟩ = some p.1 := hcq
          have HRP := Lib.hid (((HRO.out.later o8.below) p (by simp)).1)
          have OI : Hid (OrdI w w8 g (popS s 3 [1]) v' q' (i + 1)) := Lib.hid ⟨o8, hft, by have := O7.out.sz; omega, hqi.more (by omega), hfo', fun x hx => HRO.out x (by simp [hx]), fun x hx => HGO.out x (by simp [hx])⟩
          obtain ⟨m, hm⟩ : ∃ m, m = (p :: q').length := ⟨_, rfl⟩
          rw [← hm] at hsl ⊢
          have hm1 : 0 < m := by rw [hm]; simp
          have hm2 : (0 : Int) < m := by omega
          clear hb hl hqi ho hfo' hrd hcq o8 hft hsz hq hm O7 HOI hoth
          go_wp2_with fail
          refine (ints_any p.2 p.2 v p.1 w8 (own_rd HO.out) HRP.out).mono ?_
          rw [decide_eq_true rfl]
          rintro e w9 ⟨rfl, hb⟩
          have OI := Lib.hid (OI.out.later hb)
          clear hb hcq' hm1 hm2 HO HRP
          have hlt9 := HLT.out
          go_wp2_with fail
          go_roundw
          case rel => exact ⟨_, i + 1, _, _, rfl, by go_num, HLT.out, OI⟩
          case measure => have := HLT.out; simp [intOf]; omega
    · have HIN : Hid (i ≤ 200) := Lib.hid (by have := HL.out.1; have := HN.out; omega)
      clear hin
      go_wp2_with fail
      clear hlt
      obtain ⟨w7, hwl⟩ : ∃ w2, w2 = wr.alloc (.cells #[.int .i64 1] 3) := ⟨_, rfl⟩
      obtain ⟨gi, hgi⟩ : ∃ gi, gi = wr.heap.size := ⟨_, rfl⟩
      rw [← hwl, ← hgi]
      have hbl : Below wr.heap.size wr w7 := by rw [hwl]; exact below_new _ _
      have HOI : Hid (Own w7 0 3 intE 1 (.slice (some ⟨gi, 0, none⟩) 1 1) [1]) := Lib.hid (own_lit (l := [1]) (by rw [hwl, hgi]; exact heap_alloc_new _ _) (Nat.zero_le _) (by decide))
      clear hwl hgi
      have O7 := Lib.hid (OI.out.later hbl)
      clear OI hbl
      obtain ⟨F7, p7⟩ := O7.out.one.get
      obtain ⟨a0, ha0, hends, hall⟩ := O7.out.qi.all (by have := HIN.out; omega)
      have HQL : Hid (q.length ≤ 200) := Lib.hid (by
        obtain ⟨a1, h1, _, h3⟩ := O7.out.qi.ends (by have := HIN.out; omega)
        have := HIN.out
        rw [List.length_map] at h3
        omega)
      rw [List.length_map] at hends hall
      refine (all_any (Look.of_st p7) O7.out.fit.f 3 (ids := [1]) (by decide) (I64s.one (by decide)) (own_rd HOI.out) hends (by have := HQL.out; omega) q.length rfl (q.map Prod.snd) (by rw [← hall]; rfl)).mono ?_
      clear hends hall ha0
      rintro e w8 ⟨va, la, rfl, hfa, hra, hrs, hb⟩
      have O8 := Lib.hid (O7.out.later hb); have HFA := Lib.hid hfa; have HRA := Lib.hid hra; have HRS := Lib.hid hrs
      obtain ⟨adq, capq, rfl⟩ := O7.out.fo.shape
      clear hfa hra hrs hb p7 O7 HOI
      go_wp2_with fail
      refine (rows_any la q va _ w8 HFA.out.rd O8.out.fo.rd HRA.out.rd (O8.out.rows.later O8.out.one.below)).mono ?_
      rw [decide_eq_true HRS.out]
      rintro e w9 ⟨rfl, hb⟩
      have O9 := Lib.hid (O8.out.later hb)
      clear hb O8 HFA HRA HRS
      have ON9 := Lib.hid O9.out.one; have HFT := Lib.hid O9.out.fit; have HSZ := Lib.hid O9.out.sz; have HQ : Hid (QI s (q.map Prod.snd) 200) := Lib.hid (O9.out.qi.more (by have := HIN.out; omega))
      have hml : (q.map Prod.snd).length = q.length := by simp
      obtain ⟨m, hm⟩ : ∃ m, m = q.length := ⟨_, rfl⟩
      rw [← hm] at hml HQL ⊢
      have HML := Lib.hid hml
      clear hm hml O9
      go_wp2_with fail
      go_loopw [100] (fun vi wr => ∃ (k : Nat) (qq : List (List Int)) (s2 : PS), vi = .int .i64 k ∧ k ≤ m ∧ Hid (k + qq.length = m) ∧ Hid (One w wr g s2) ∧ Hid (Fit s2 ∧ s2.sz ≤ 4 * (200 + k)) ∧ Hid (QI s2 qq 200)) (fun vi _ => m - (intOf vi).toNat)
      case atStart => exact ⟨0, _, _, rfl, Nat.zero_le _, Lib.hid (by rw [HML.out]; omega), ON9, Lib.hid ⟨HFT.out, by have := HSZ.out; have := HIN.out; omega⟩, HQ⟩
      case round =>
        clear ON9 HFT HSZ HQ HML
        obtain ⟨k, qq, s2, rfl, hk, HK, ON, HFS, HQ⟩ := hrel
        by_cases hlt : k < m
        · have HLT := Lib.hid hlt
          go_wp2_with fail
          clear hlt hk
          obtain ⟨w7, hwl⟩ : ∃ w2, w2 = wr.alloc (.cells #[.int .i64 1] 3) := ⟨_, rfl⟩
          obtain ⟨gi, hgi⟩ : ∃ gi, gi = wr.heap.size := ⟨_, rfl⟩
          rw [← hwl, ← hgi]
          have hbl : Below wr.heap.size wr w7 := by rw [hwl]; exact below_new _ _
          have HOI : Hid (Own w7 0 3 intE 1 (.slice (some ⟨gi, 0, none⟩) 1 1) [1]) := Lib.hid (own_lit (l := [1]) (by rw [hwl, hgi]; exact heap_alloc_new _ _) (Nat.zero_le _) (by decide))
          clear hwl hgi
          have O7 := Lib.hid (ON.out.later hbl)
          clear ON hbl
          refine (O7.out.pop fun F h => pop_any h (by have := HFS.out.2; have := HLT.out; have := HQL.out; omega) HFS.out.1 3 (ids := [1]) (by decide) (I64s.one (by decide)) HOI.out).mono ?_
          rintro e w8 ⟨v, rfl, o8, _, _⟩
          have hft := HFS.out.1.popS 3 [1]
          have hsz := sz_popS s2 3 [1]
          have hq := HQ.out
          have hk := HK.out
          cases qq with
          | nil => exact absurd HLT.out (by simp at hk; omega)
          | cons x qq' =>
            obtain ⟨_, _, hqi⟩ := QI.pop hq (by decide)
            have ON := Lib.hid o8; have HQ2 := Lib.hid hqi; have HFS2 : Hid (Fit (popS s2 3 [1]) ∧ (popS s2 3 [1]).sz ≤ 4 * (200 + (k + 1))) := Lib.hid ⟨hft, by have := HFS.out.2; omega⟩
            have HK2 : Hid (k + 1 + qq'.length = m) := Lib.hid (by simp at hk; omega)
            clear hft hsz hq hk o8 hqi O7 HOI
            have hlt9 := HLT.out; have hq9 := HQL.out
            go_wp2_with fail
            go_roundw
            case rel => exact ⟨k + 1, qq', _, by go_num, HLT.out, HK2, ON, HFS2, HQ2⟩
            case measure => have := HLT.out; simp [intOf]; omega
        · have hqq : qq = [] := List.length_eq_zero_iff.1 (by have := HK.out; omega)
          have hlen : s2.t.length = 0 := by
            have hq := HQ.out
            rw [hqq] at hq
            rcases hq with ⟨_, h⟩ | ⟨h, _⟩
            · rw [empty_of h]; rfl
            · exact absurd rfl h
          obtain ⟨F2, p2⟩ := ON.out.get
          have HLN := Lib.hid hlen; have P2 := Lib.hid p2
          clear hqq hlen p2
          go_wp2_with fail
          clear hlt hk
          refine (slen_any P2.out).mono ?_
          rw [HLN.out]
          rintro e w10 ⟨rfl, rfl⟩
          go_wp2_with fail
          refine (smade_any P2.out).mono ?_
          rintro e w10 ⟨rfl, rfl⟩
          go_wp2_with fail
          refine (lives12_any _).mono ?_
          rintro e w11 ⟨rfl, hb⟩
          have HBF := Lib.hid (ON.out.below.trans (hb.mono ON.out.below.size))
          clear hb
          go_wp2_with fail
          go_ret
          exact ⟨rfl, HBF.out⟩
end Go.Proofs.Ytohedljdkfmkdaa
