/- Queues: Push (code); acts, light and lives of chapter 12. -/
import Derived.Test.YtohedljdkfmkdaaFifC
import Derived.Deep.QuietTactic
import Derived.BigQuiet
import Derived.WalkSmall
namespace Go.Proofs.Ytohedljdkfmkdaa
open Go.RowKit

theorem push_e2 {f : Txt → Option Txt} {t : Int} {ids : List Int} {m : Int} {l : List Int} (h : keyF t ids = [] ∨ m < 1 ∨ goodL l = false) : pushE f t ids m l = 2 := by unfold pushE; rw [if_pos h]
theorem push_s {s : PS} {t : Int} {ids : List Int} {m : Int} {l : List Int} (h : ¬ pushE (getP s.t) t ids m l = 0) : pushS s t ids m l = s := by unfold pushS; rw [if_neg h]

set_option maxHeartbeats 4000000 in
set_option maxRecDepth 100000 in
theorem push_any {w : World} {g : Nat} {s : PS} {F : List Nat} (h : St w g s F) (hz : s.sz < 1099511627770) (hf : Fit s) (t : Int) {ids : List Int} {vi : Value} (hl : ids.length ≤ 1000000) (hi : I64s ids) {B0 : Nat} (hrd : Own w B0 3 intE 1 vi ids)
    (most : Int) {l : List Int} {vl : Value} (hll : l.length ≤ 100000) (hli : I64s l) (hlr : Rd w intE 1 vl l) (hE : (endsF (getP s.t) t ids).2 < 9223372036854775807) :
    Calls Try.prog 41 #[.pointer (some ⟨g, 0, none⟩), .int .i64 t, vi, .int .i64 most, vl] w (StRet w g F (pushS s t ids most l) (.int .i64 (pushE (getP s.t) t ids most l))) := by
  have L := Lib.hid (Liv.start h); have HZ := Lib.hid hz; have HF := Lib.hid hf; have HL := Lib.hid hl; have HI := Lib.hid hi; have HRD := Lib.hid hrd; have HLL := Lib.hid hll; have HLI := Lib.hid hli; have HLR := Lib.hid hlr
  obtain ⟨adi, capi, rfl, _, _⟩ := (own_rd hrd).shape
  obtain ⟨adl, capl, rfl, _, _⟩ := hlr.shape
  have hof := qof_any (Look.of_st h) hf.f t (by omega) hi (own_rd hrd)
  clear h hz hf hl hi hrd hll hli hlr
  go_enter Try.func41, Try.ntmps41
  go_wp2_with fail
  refine hof.mono ?_
  clear hof
  rintro e w2 ⟨rfl, hb⟩
  have hbd := endsF_bound (getP s.t) t ids
  have HPE : Hid (pushE (getP s.t) t ids most l = (if keyF t ids = [] ∨ most < 1 ∨ goodL l = false then 2 else if most ≤ (endsF (getP s.t) t ids).2 - (endsF (getP s.t) t ids).1 then 7 else 0)) := Lib.hid rfl
  have HPS : Hid (pushS s t ids most l = (if pushE (getP s.t) t ids most l = 0 then turnS (s.setRow (keyF t (ids ++ [(endsF (getP s.t) t ids).2])) l) t ids (endsF (getP s.t) t ids).1 ((endsF (getP s.t) t ids).2 + 1) else s)) := Lib.hid rfl
  obtain ⟨a, b, hab⟩ : ∃ a b, endsF (getP s.t) t ids = (a, b) := ⟨_, _, rfl⟩
  rw [hab] at HPE HPS hbd hE ⊢
  have HAB : Hid (0 ≤ a ∧ a ≤ b ∧ b < 9223372036854775807) := Lib.hid (by simp only at hbd hE; omega)
  have L2 := Lib.hid (L.out.later hb); have R2 := Lib.hid (HRD.out.oth (Oth.of_below hb)); have M2 := Lib.hid (HLR.out.later hb)
  clear hb hab L HRD HLR hbd hE
  go_wp2_with (refine wpList_alloc_g rfl _ rfl _ _ Try.zeroQ rfl ?_)
  intro X w3 h3
  have HX3 := Lib.hid h3.out.cells; have HXW : Hid (w2.heap.size ≤ X) := Lib.hid (Nat.le_of_eq h3.out.eq.symm)
  have hbM := h3.out.below
  clear h3
  go_wp2_with (refine wpList_store_row_g (t := 147) (old := #[.pointer none, .int .i64 0, .slice none 0 0, .int .i64 0, .int .i64 0]) rfl 147 _ _ rfl X (qC (some ⟨g, 0, none⟩) t (.slice adi ids.length capi) a b) rfl rfl HX3.out Try.sizeQ rfl (by simp [qC, Value.oneCell']) ?_)
  intro w4 hx4 k34 z34
  have hb24 : Below w2.heap.size w2 w4 := hbM.trans (k34.below (B := w2.heap.size) (fun y hy e => by have := HXW.out; omega) hbM.size)
  have L4 := Lib.hid (L2.out.later hb24); have R4 := Lib.hid (R2.out.oth (Oth.of_below hb24)); have M4 := Lib.hid (M2.out.later hb24); have HX4 := Lib.hid hx4
  clear hbM hx4 k34 z34 hb24 HX3 HXW L2 R2 M2
  go_wp2_with fail
  obtain ⟨F4, p4, _⟩ := L4.out
  refine (smade_any p4).mono ?_
  rintro e w5 ⟨rfl, rfl⟩
  clear p4
  go_wp2_with fail
  refine (key_any t ids _ _ (by have := HL.out; omega) HI.out (own_rd R4.out)).mono ?_
  rintro e w5 ⟨rfl, hb⟩
  obtain ⟨k, hk⟩ : ∃ k, k = keyF t ids := ⟨_, rfl⟩
  rw [← hk] at HPE ⊢
  have L5 := Lib.hid (L4.out.later hb); have R5 := Lib.hid (R4.out.oth (Oth.of_below hb)); have M5 := Lib.hid (M4.out.later hb); have HX5 := Lib.hid (below_at' hb HX4.out)
  clear hb hk L4 R4 M4 HX4
  by_cases hk0 : k = []
  · subst hk0
    have h1t : (bs ([] : Txt)).toList.isEmpty = true := by rw [txt_empty]; rfl
    have HE : Hid (pushE (getP s.t) t ids most l = 2) := Lib.hid (by rw [HPE.out]; exact if_pos (.inl rfl))
    go_wp2_with fail
    go_ret
    rw [push_s (by rw [HE.out]; decide), HE.out]
    exact L5.out.ret
  have h1t : (bs k).toList.isEmpty = false := by rw [txt_empty]; simpa using hk0
  by_cases hm : most < 1
  · have HE : Hid (pushE (getP s.t) t ids most l = 2) := Lib.hid (by rw [HPE.out]; exact if_pos (.inr (.inl hm)))
    clear hk0
    go_wp2_with fail
    go_ret
    rw [push_s (by rw [HE.out]; decide), HE.out]
    exact L5.out.ret
  have HK0 := Lib.hid hk0
  clear hk0
  go_wp2_with fail
  have HM : Hid (¬ most < 1) := Lib.hid (by omega)
  clear hm h1t
  refine (good_any M5.out).mono ?_
  rintro e w6 ⟨rfl, rfl⟩
  cases hgl : goodL l with
  | false =>
    have HE : Hid (pushE (getP s.t) t ids most l = 2) := Lib.hid (by rw [HPE.out]; exact if_pos (.inr (.inr hgl)))
    clear hgl
    go_wp2_with fail
    go_ret
    rw [push_s (by rw [HE.out]; decide), HE.out]
    exact L5.out.ret
  | true =>
  have HE1 : Hid (pushE (getP s.t) t ids most l = (if most ≤ b - a then 7 else 0)) := Lib.hid (by rw [HPE.out]; exact if_neg (by rintro (h | h | h); exact HK0.out h; exact HM.out h; rw [hgl] at h; cases h))
  clear hgl HPE
  go_wp2_with (refine wpList_load_row rfl 147 _ rfl X rfl 147 (qC (some ⟨g, 0, none⟩) t (.slice adi ids.length capi) a b) _ _ HX5.out Try.underlying147 rfl Try.sizeQ ?_)
  refine (qlen_any _ _ _ _ _ ⟨HAB.out.1, HAB.out.2.1, by have := HAB.out; omega⟩ _).mono ?_
  rintro e w7 ⟨rfl, hb⟩
  have L7 := Lib.hid (L5.out.later hb); have R7 := Lib.hid (R5.out.oth (Oth.of_below hb)); have M7 := Lib.hid (M5.out.later hb); have HX7 := Lib.hid (below_at' hb HX5.out)
  clear hb L5 R5 M5 HX5
  by_cases hfull : most ≤ b - a
  · have HE : Hid (pushE (getP s.t) t ids most l = 7) := Lib.hid (by rw [HE1.out]; exact if_pos hfull)
    go_wp2_with fail
    go_ret
    rw [push_s (by rw [HE.out]; decide), HE.out]
    exact L7.out.ret
  have HE : Hid (pushE (getP s.t) t ids most l = 0) := Lib.hid (by rw [HE1.out]; exact if_neg hfull)
  have HP : Hid (pushS s t ids most l = turnS (s.setRow (keyF t (ids ++ [b])) l) t ids a (b + 1)) := Lib.hid (by rw [HPS.out]; exact if_pos HE.out)
  have q4 : w7.cell? ⟨X, 4, none⟩ = some (.int .i64 b) := Lib.cell_of_heap HX7.out 4
  clear HPS HE1
  go_wp2_with (refine wpList_load_row rfl 147 _ rfl X rfl 147 (qC (some ⟨g, 0, none⟩) t (.slice adi ids.length capi) a b) _ _ HX7.out Try.underlying147 rfl Try.sizeQ ?_)
  clear hfull q4
  refine (qat_any a b HL.out HI.out (own_rd R7.out) ⟨by have := HAB.out; omega, by have := HAB.out; omega⟩).mono ?_
  rintro e w8 ⟨rfl, hb⟩
  have L8 := Lib.hid (L7.out.later hb); have R8 := Lib.hid (R7.out.oth (Oth.of_below hb)); have M8 := Lib.hid (M7.out.later hb); have HX8 := Lib.hid (below_at' hb HX7.out)
  clear hb L7 R7 M7 HX7
  go_wp2_with fail
  refine (L8.out.call fun F h => setRow_any h (by have := HZ.out; omega) (keyF t (ids ++ [b])) (by have := HLL.out; omega) HLI.out M8.out).mono ?_
  rintro e w9 ⟨rfl, l9, o9⟩
  have hz9 := sz_setRow s (keyF t (ids ++ [b])) l
  obtain ⟨s1, hs1⟩ : ∃ s1, s1 = s.setRow (keyF t (ids ++ [b])) l := ⟨_, rfl⟩
  rw [← hs1] at HP l9 hz9
  have HZ9 : Hid (s1.sz < 1099511627776) := Lib.hid (by have := HZ.out; omega)
  have L9 := Lib.hid l9; have R9 := Lib.hid (R8.out.oth o9); have HX9 := Lib.hid (o9.2 X _ HX8.out rfl rfl)
  have q3 : w9.cell? ⟨X, 3, none⟩ = some (.int .i64 a) := Lib.cell_of_heap HX9.out 3
  have q4 : w9.cell? ⟨X, 4, none⟩ = some (.int .i64 b) := Lib.cell_of_heap HX9.out 4
  have i1 := HAB.out.1; have i2 := HAB.out.2.1; have i3 := HAB.out.2.2
  clear hs1 l9 hz9 o9 L8 R8 M8 HX8
  go_wp2_with (refine wpList_load_row rfl 147 _ rfl X rfl 147 (qC (some ⟨g, 0, none⟩) t (.slice adi ids.length capi) a b) _ _ HX9.out Try.underlying147 rfl Try.sizeQ ?_)
  clear q3 q4
  refine (L9.out.call fun F h => turn_any h HZ9.out t HL.out HI.out (own_rd R9.out) a b ⟨i1, by omega⟩ ⟨by omega, by omega⟩).mono ?_
  rintro e wf ⟨rfl, LF, _⟩
  have LF := Lib.hid LF
  clear L9 R9
  go_wp2_with fail
  go_ret
  rw [HP.out, HE.out]
  exact LF.out.ret

theorem One.pop {P : Program} {f : FuncId} {args : Array Value} {w0 w : World} {g : Nat} {s1 s' : PS} {l : List Int} {b : Bool} (t : One w0 w g s1) (hc : ∀ F, St w g s1 F → Calls P f args w (PopRet w g F s' l b)) :
    Calls P f args w (fun e w' => ∃ v, e = .returned (.tuple #[v, .bool b]) ∧ One w0 w' g s' ∧ Oth w w' ∧ Own w' w.heap.size 3 intE 1 v l) := by
  obtain ⟨F, h1, h3, h5⟩ := t
  refine (hc F h1).mono ?_
  rintro e w' ⟨v, ⟨he, F', q1, q2, q3⟩, ho⟩
  refine ⟨v, he, ⟨F', q1, fun x hx => ?_, h5.trans (q2.below (B := w0.heap.size) (fun q hq e => by have := h3 q e; omega) h5.size)⟩, Oth.of_st h1 q2, ho⟩
  rcases q3 x hx with h | h
  · exact h3 x h
  · exact Nat.le_trans h5.size h

/-- An act: a push or a pop. -/
structure Act12 where
  pop : Bool
  ad : Option Addr
  cap : Nat
  ids : List Int
  ld : Option Addr
  lcap : Nat
  l : List Int
def act12E (a : Act12) : List Value := [.bool a.pop, .slice a.ad a.ids.length a.cap, .slice a.ld a.l.length a.lcap]
theorem act12E_len (a : Act12) : (act12E a).length = 3 := rfl
structure Good12 (w : World) (a : Act12) : Prop where
  rd : Rd w intE 1 (.slice a.ad a.ids.length a.cap) a.ids
  i64 : I64s a.ids
  rdl : Rd w intE 1 (.slice a.ld a.l.length a.lcap) a.l
  l64 : I64s a.l
theorem Good12.later {w w' : World} {a : Act12} (h : Good12 w a) (hb : Below w.heap.size w w') : Good12 w' a := ⟨h.rd.later hb, h.i64, h.rdl.later hb, h.l64⟩
theorem Rd.act12 {w : World} {ad : Option Addr} {n cap : Nat} {t : List Act12} (h : Rd w act12E 3 (.slice ad n cap) t) (i : Nat) (hi : i < t.length) :
    ∃ g off, ad = some ⟨g, off, none⟩ ∧ g < w.heap.size ∧ w.cell? ⟨g, off + i * 3, none⟩ = some (.bool t[i].pop) ∧ w.cell? ⟨g, off + i * 3 + 1, none⟩ = some (.slice t[i].ad t[i].ids.length t[i].cap) ∧ w.cell? ⟨g, off + i * 3 + 2, none⟩ = some (.slice t[i].ld t[i].l.length t[i].lcap) := by
  have hne : t ≠ [] := by rintro rfl; simp at hi
  obtain ⟨ax, cx, e3, _, _, h3⟩ := h
  obtain ⟨b, off, e4, hb, h5⟩ := h3 hne
  exact ⟨b, off, (Value.slice.inj e3).1.trans e4, hb, h5 i hi 0 (by decide), h5 i hi 1 (by decide), h5 i hi 2 (by decide)⟩
theorem Try.zeroAct12 (w : World) : (zeroValue 71).run Try.prog w = .ok (.agg #[.bool false, .slice none 0 0, .slice none 0 0]) w := by kernel_rfl
theorem Try.sizeAct12 : (Try.prog.info? 71).map (·.size) = some 3 := by kernel_rfl
theorem litA12 (w : World) (a : Act12) : Rd (w.alloc (.cells #[.bool a.pop, .slice a.ad a.ids.length a.cap, .slice a.ld a.l.length a.lcap] 71)) act12E 3 (.slice (some ⟨w.heap.size, 0, none⟩) 1 1) [a] := by
  refine ⟨_, 1, rfl, Nat.le_refl _, (by unfold maxLen; decide), fun _ => ⟨_, 0, rfl, by rw [World.size_alloc]; omega, fun i hi j hj => ?_⟩⟩
  have h := heap_alloc_new w (.cells #[.bool a.pop, .slice a.ad a.ids.length a.cap, .slice a.ld a.l.length a.lcap] 71)
  simp only [List.length_singleton] at hi
  obtain rfl : i = 0 := by omega
  match j, hj with
  | 0, _ => exact Lib.cell_of_heap h 0
  | 1, _ => exact Lib.cell_of_heap h 1
  | 2, _ => exact Lib.cell_of_heap h 2

/-- What light says. -/
def Light12 (w : World) (l : List Act12) (e : Ending) (w' : World) : Prop := ∃ r : Bool, e = .returned (.bool r) ∧ (r = true → l.length ≤ 200 ∧ ∀ a ∈ l, a.ids.length ≤ 5 ∧ a.l.length ≤ 10) ∧ Below w.heap.size w w'

set_option maxHeartbeats 8000000 in
set_option maxRecDepth 100000 in
theorem light12_any {w : World} {v : Value} {l : List Act12} (h : Rd w act12E 3 v l) : Calls Try.prog 37 #[v] w (Light12 w l) := by
  obtain ⟨ad, cap, e1, l1, l1'⟩ := h.shape
  obtain ⟨n, hn⟩ : ∃ n, n = l.length := ⟨_, rfl⟩
  rw [← hn] at e1 l1
  subst e1
  have H := Lib.hid h; have HN := Lib.hid hn
  clear h hn
  by_cases hl : n ≤ 200
  · have j0 : ¬ 200 < n := by omega
    go_enter Try.func37, Try.ntmps37
    go_wp2_with fail
    clear j0
    go_loopw [4, 10] (fun _ vi wr => ∃ (i : Nat), vi = .int .i64 i ∧ i ≤ n ∧ Hid (∀ a ∈ l.take i, a.ids.length ≤ 5 ∧ a.l.length ≤ 10) ∧ Hid (Below w.heap.size w wr)) (fun _ vi _ => n - (intOf vi).toNat)
    case atStart => exact ⟨0, rfl, Nat.zero_le _, Lib.hid (by simp), Lib.hid (Below.refl _ _)⟩
    case round =>
      obtain ⟨i, rfl, hin, SH, BW⟩ := hrel
      by_cases hlt : i < n
      · have hi : i < l.length := by rw [← HN.out]; exact hlt
        obtain ⟨gL, off, rfl, hgL, q0, q1, q2⟩ := Rd.act12 H.out i hi
        have q0' := (BW.out.cell (p := ⟨gL, off + i * 3, none⟩) hgL).trans q0
        have q1' := (BW.out.cell (p := ⟨gL, off + i * 3 + 1, none⟩) hgL).trans q1
        have q2' := (BW.out.cell (p := ⟨gL, off + i * 3 + 2, none⟩) hgL).trans q2
        have hsh : ∀ q : (l[i].ids.length ≤ 5 ∧ l[i].l.length ≤ 10), ∀ a ∈ l.take (i + 1), a.ids.length ≤ 5 ∧ a.l.length ≤ 10 := by
          intro q a ha
          rw [List.take_succ_eq_append_getElem hi] at ha
          rcases List.mem_append.1 ha with ha | ha
          · exact SH.out a ha
          · simp only [List.mem_singleton] at ha; rw [ha]; exact q
        obtain ⟨a, ha⟩ : ∃ a, a = l[i] := ⟨_, rfl⟩
        rw [← ha] at q0' q1' q2' hsh
        have HLT := Lib.hid hlt; have HSH := Lib.hid hsh
        clear ha q0 q1 q2 hgL hi hsh
        go_wp2_with (refine wpList_alloc_g rfl _ rfl _ _ Try.zeroAct12 rfl ?_)
        intro R w1 h1
        go_wp2_with (refine wpList_store_row_g (t := 71) (old := #[.bool false, .slice none 0 0, .slice none 0 0]) rfl 71 _ _ rfl R #[.bool a.pop, .slice a.ad a.ids.length a.cap, .slice a.ld a.l.length a.lcap] rfl rfl h1.out.cells Try.sizeAct12 rfl (by simp [Value.oneCell']) ?_)
        intro w2 h2' k12 z12
        have hb12 : Below wr.heap.size wr w2 := h1.out.below.trans (k12.below (B := wr.heap.size) (fun x hx e => by have := h1.out.eq; omega) h1.out.below.size)
        have r0 : w2.cell? ⟨R, 0, none⟩ = some (.bool a.pop) := Lib.cell_of_heap h2' 0
        have r1 : w2.cell? ⟨R, 1, none⟩ = some (.slice a.ad a.ids.length a.cap) := Lib.cell_of_heap h2' 1
        have r2 : w2.cell? ⟨R, 2, none⟩ = some (.slice a.ld a.l.length a.lcap) := Lib.cell_of_heap h2' 2
        have HB2 := Lib.hid (BW.out.trans (hb12.mono BW.out.size))
        clear h1 h2' k12 z12 hb12 q0' q1' q2'
        by_cases c0 : ¬ a.ids.length ≤ 5
        · have c0' : 5 < a.ids.length := by omega
          clear c0
          go_wp2_with fail
          go_ret
          exact ⟨false, rfl, fun h => (by cases h), HB2.out⟩
        have d0 : a.ids.length ≤ 5 := by omega
        have d0' : ¬ 5 < a.ids.length := by omega
        clear c0
        by_cases c1 : ¬ a.l.length ≤ 10
        · have c1' : 10 < a.l.length := by omega
          clear c1
          go_wp2_with fail
          go_ret
          exact ⟨false, rfl, fun h => (by cases h), HB2.out⟩
        have d1 : a.l.length ≤ 10 := by omega
        have d1' : ¬ 10 < a.l.length := by omega
        clear c1
        · skip
          go_wp2_with fail
          go_roundw
          case rel => exact ⟨i + 1, by go_num, Nat.succ_le_of_lt HLT.out, Lib.hid (HSH.out (by exact ⟨d0, d1⟩)), HB2⟩
          case measure => have hh : i < n := HLT.out; simp [intOf]; omega
      · have hfin : ∀ a ∈ l, a.ids.length ≤ 5 ∧ a.l.length ≤ 10 := by
          have h8 := SH.out
          rwa [List.take_of_length_le (by rw [← HN.out]; omega)] at h8
        have HF := Lib.hid hfin
        clear hfin SH
        go_wp2_with fail
        go_ret
        exact ⟨true, rfl, fun _ => ⟨by rw [← HN.out]; exact hl, HF.out⟩, BW.out⟩
  · have j0 : 200 < n := by omega
    clear hl
    go_enter Try.func37, Try.ntmps37
    go_wp2_with fail
    go_ret
    exact ⟨false, rfl, fun h => (by cases h), Below.refl _ _⟩
set_option maxHeartbeats 1000000 in
theorem ints_any (l m : List Int) (u v : Value) (w : World) (hu : Rd w intE 1 u l) (hv : Rd w intE 1 v m) :
    Calls Try.prog 52 #[u, v] w (Ret w (.bool (decide (l = m)))) := by
  obtain ⟨ad, cap, rfl, hc1, hc2⟩ := hu.shape
  obtain ⟨ad2, cap2, rfl, hc3, hc4⟩ := hv.shape
  by_cases hne : l.length = m.length
  · have hd : ((l.length : Int) != (m.length : Int)) = false := by rw [hne]; simp
    have HN := Lib.hid hne; clear hne
    go_enter Try.func52, Try.ntmps52
    go_wp2
    go_loopw [13] (fun i wr => ∃ k : Nat, k ≤ l.length ∧ i = .int .i64 k ∧ Hid (l.take k = m.take k) ∧ Below w.heap.size w wr) (fun i _ => l.length - (intOf i).toNat)
    case atStart => exact ⟨0, by omega, rfl, rfl, Below.refl _ _⟩
    case round =>
      obtain ⟨k, hk, rfl, hp, hb⟩ := hrel
      by_cases hlt : k < l.length
      · have hlt2 : k < m.length := by rw [← HN.out]; exact hlt
        obtain ⟨b, off, rfl, hbb, hcell⟩ := (hu.later hb).at k hlt
        obtain ⟨b2, off2, rfl, hbb2, hcell2⟩ := (hv.later hb).at k hlt2
        obtain ⟨x, hx⟩ : ∃ x, x = l[k] := ⟨_, rfl⟩
        obtain ⟨y, hy⟩ : ∃ y, y = m[k] := ⟨_, rfl⟩
        rw [← hx] at hcell; rw [← hy] at hcell2
        replace hcell : wr.cell? ⟨b, off + k, none⟩ = some (.int .i64 x) := hcell
        replace hcell2 : wr.cell? ⟨b2, off2 + k, none⟩ = some (.int .i64 y) := hcell2
        have HX := Lib.hid hx; have HY := Lib.hid hy; clear hx hy
        have hi1 : (k : Int) < (l.length : Int) := by omega
        have hi2 : (k : Int) < (m.length : Int) := by omega
        by_cases he : x = y
        · subst he
          have hp2 := Lib.hid (take_eq hlt hlt2 hp.out (HX.out.symm.trans HY.out))
          go_wp2
          go_quiet (fail)
          go_wp2
          go_roundw
          case rel => exact ⟨k + 1, by omega, by go_num, hp2, below_drewN hb _⟩
          case measure => simp [intOf]; omega
        · have hne : (x != y) = true := by simp [he]
          have HE := Lib.hid he
          clear he
          go_wp2
          go_quiet (fail)
          go_wp2
          go_ret
          exact ⟨by rw [decide_eq_false (fun h => HE.out (by rw [HX.out, HY.out]; subst h; rfl))]; rfl, below_drewN hb _⟩
      · have hlm : Hid (l = m) := by
          have h := hp.out
          have h2 := HN.out
          rwa [List.take_of_length_le (by omega), List.take_of_length_le (by omega)] at h
        go_wp2
        go_ret
        exact ⟨by rw [decide_eq_true hlm.out]; rfl, hb⟩
  · have hd : ((l.length : Int) != (m.length : Int)) = true := by simp; omega
    go_enter Try.func52, Try.ntmps52
    go_wp2
    go_ret
    exact ⟨by rw [decide_eq_false (by intro h; exact hne (by rw [h]))]; rfl, Below.refl _ _⟩
/-! ### the document's example -/
def lvA : PS := pushS PS.new 3 [] 5 [1, 2]
def lvB : PS := pushS lvA 3 [] 5 [3]
def lvC : PS := popS lvB 3 []
theorem lv1 : pushE (getP PS.new.t) 3 [] 5 [1, 2] = 0 := by kernel_rfl
theorem lv2 : pushE (getP lvA.t) 3 [] 5 [3] = 0 := by kernel_rfl
theorem lv3 : peekF (getP lvB.t) 3 [] = [1, 2] ∧ peekB (getP lvB.t) 3 [] = true := by constructor <;> kernel_rfl
theorem lv4 : endsF (getP lvC.t) 3 [] = (1, 2) := by kernel_rfl
theorem lv5 : endsF (getP PS.new.t) 3 [] = (0, 0) ∧ endsF (getP lvA.t) 3 [] = (0, 1) := by constructor <;> kernel_rfl
theorem lvZ : lvA.sz < 1000 ∧ lvB.sz < 1000 ∧ lvC.sz < 1000 := by
  have h0 : PS.new.sz = 0 := rfl
  have h1 : lvA.sz ≤ PS.new.sz + 4 := sz_pushS PS.new 3 [] 5 [1, 2]
  have h2 : lvB.sz ≤ lvA.sz + 4 := sz_pushS lvA 3 [] 5 [3]
  have h3 : lvC.sz ≤ lvB.sz + 4 := sz_popS lvB 3 []
  omega
theorem lvF : Fit lvA ∧ Fit lvB ∧ Fit lvC := ⟨Fit.new.pushS 3 [] 5 (by simp), (Fit.new.pushS 3 [] 5 (by simp)).pushS 3 [] 5 (by simp), ((Fit.new.pushS 3 [] 5 (by simp)).pushS 3 [] 5 (by simp)).popS 3 []⟩

set_option maxHeartbeats 8000000 in
set_option maxRecDepth 100000 in
theorem lives12_any (w : World) : Calls Try.prog 38 #[] w fun e w' => e = .returned (.bool true) ∧ Below w.heap.size w w' := by
  go_enter Try.func38, Try.ntmps38
  go_wp2_with fail
  refine (snew_any _).mono ?_
  rintro e w1 ⟨g, F, rfl, h1, hb1, hf1⟩
  have O1 : Hid (One w w1 g PS.new) := Lib.hid ⟨F, h1, hf1, hb1⟩
  clear h1 hb1 hf1
  go_wp2_with fail
  have O2 := Lib.hid (O1.out.later (below_new w1 (.cells #[.int .i64 1, .int .i64 2] 3)))
  refine (O2.out.st fun F h => push_any h (by decide) Fit.new 3 (ids := []) (by decide) I64s_nil (Own.nil _ 0 _ _ _) 5 (l := [1, 2]) (by decide) (I64s.two (by decide) (by decide)) (lit2 w1 1 2) (by rw [lv5.1]; decide)).mono ?_
  rintro e w2 ⟨rfl, o3, _⟩
  rw [lv1]
  have o3' : One w w2 g lvA := o3
  obtain ⟨sa, hsa⟩ : ∃ s, s = lvA := ⟨_, rfl⟩
  rw [← hsa] at o3'
  have HSA := Lib.hid hsa; have O3 := Lib.hid o3'
  clear o3 o3' hsa O1 O2
  go_wp2_with fail
  have O4 := Lib.hid (O3.out.later (below_new w2 (.cells #[.int .i64 3] 3)))
  refine (O4.out.st fun F h => push_any h (by rw [HSA.out]; have := lvZ; omega) (by rw [HSA.out]; exact lvF.1) 3 (ids := []) (by decide) I64s_nil (Own.nil _ 0 _ _ _) 5 (l := [3]) (by decide) (I64s.one (by decide)) (lit1 w2 3) (by rw [HSA.out, lv5.2]; decide)).mono ?_
  rw [HSA.out]
  rintro e w3 ⟨rfl, o5, _⟩
  rw [lv2]
  have o5' : One w w3 g lvB := o5
  obtain ⟨sb, hsb⟩ : ∃ s, s = lvB := ⟨_, rfl⟩
  rw [← hsb] at o5'
  have HSB := Lib.hid hsb; have O5 := Lib.hid o5'
  clear o5 o5' hsb O3 O4
  go_wp2_with fail
  refine (O5.out.pop fun F h => pop_any h (by rw [HSB.out]; have := lvZ; omega) (by rw [HSB.out]; exact lvF.2.1) 3 (ids := []) (by decide) I64s_nil (Own.nil _ 0 _ _ _)).mono ?_
  rw [HSB.out, lv3.1, lv3.2]
  rintro e w4 ⟨v, rfl, o6, _, ho⟩
  have o6' : One w w4 g lvC := o6
  obtain ⟨sc, hsc⟩ : ∃ s, s = lvC := ⟨_, rfl⟩
  rw [← hsc] at o6'
  have HSC := Lib.hid hsc; have O6 := Lib.hid o6'; have HO := Lib.hid ho
  clear o6 o6' hsc ho O5
  go_wp2_with fail
  have hb := below_new w4 (.cells #[.int .i64 1, .int .i64 2] 3)
  refine (ints_any [1, 2] [1, 2] _ _ _ ((own_rd HO.out).later hb) (lit2 w4 1 2)).mono ?_
  rw [show decide (([1, 2] : List Int) = [1, 2]) = true from decide_eq_true rfl]
  rintro e w5 ⟨rfl, hb5⟩
  have O7 := Lib.hid ((O6.out.later hb).later hb5)
  clear hb hb5 O6 HO
  go_wp2_with fail
  obtain ⟨F7, p7⟩ := O7.out.get
  refine (qLen_any (Look.of_st p7) (by rw [HSC.out]; exact lvF.2.2.f) 3 (ids := []) (by decide) I64s_nil (Rd.nil _ _ _)).mono ?_
  rw [HSC.out, lv4]
  rintro e w6 ⟨rfl, hb⟩
  have O8 := Lib.hid (O7.out.later hb)
  clear hb p7 O7
  go_wp2_with fail
  go_ret
  exact ⟨rfl, O8.out.below⟩
end Go.Proofs.Ytohedljdkfmkdaa
