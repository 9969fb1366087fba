/- StoreUndone: no condition. -/
import Derived.Test.YtggcmaegmkjedaaLawF
namespace Go.Proofs.Ytggcmaegmkjedaa
open Go.RowKit

/-- Later by changes alone, that can be undone. -/
def Ext (s z : PS) : Prop := Up z.t ∧ ∃ n, z.past.length = s.past.length + n ∧ PS.backs n z = s
theorem back_put {s : PS} (hu : Up s.t) (k v : Txt) (b : Bool) : (s.put k v b).back = s := by
  unfold PS.back PS.put
  simp only [List.getLast?_append, List.getLast?_singleton, Option.some_or, List.dropLast_concat]
  obtain ⟨t, past⟩ := s
  congr 1
  refine tab_ext (up_lay (up_lay hu _ _ _) _ _ _) hu fun q => ?_
  rw [getP_lay, getP_lay]
  by_cases h : k = q
  · subst h
    simp only [if_true]
    cases hg : getP t k <;> simp
  · simp [h]
theorem Ext.refl {s : PS} (hu : Up s.t) : Ext s s := ⟨hu, 0, rfl, rfl⟩
theorem Ext.put {s z : PS} (h : Ext s z) (k v : Txt) (b : Bool) : Ext s (z.put k v b) := by
  obtain ⟨hu, n, h1, h2⟩ := h
  refine ⟨up_lay hu _ _ _, n + 1, ?_, ?_⟩
  · unfold PS.put; simp [h1]; omega
  · show PS.backs n (z.put k v b).back = s
    rw [back_put hu, h2]
theorem Ext.set {s z : PS} (h : Ext s z) (k v : Txt) : Ext s (z.set k v) := by
  unfold PS.set; split
  · exact h
  · exact h.put _ _ _
theorem Ext.del {s z : PS} (h : Ext s z) (k : Txt) : Ext s (z.del k) := by
  unfold PS.del; split
  · exact h
  · exact h.put _ _ _
theorem Ext.undo {s z : PS} (h : Ext s z) : z.undo s.past.length = s ∧ undoE z s.past.length = true := by
  obtain ⟨hu, n, h1, h2⟩ := h
  have hE : undoE z s.past.length = true := by unfold undoE; rw [decide_eq_true_iff]; omega
  refine ⟨?_, hE⟩
  unfold PS.undo
  rw [if_pos hE, Int.toNat_natCast, h1, Nat.add_sub_cancel_left, h2]
def doMore (s : PS) (a : ActP) : PS := if a.kind = 0 ∨ a.kind = 1 then doAct s a else s
def doMores (s : PS) (l : List ActP) : PS := l.foldl doMore s
theorem mores_take {s : PS} {l : List ActP} {i : Nat} (hi : i < l.length) : doMores s (l.take (i + 1)) = doMore (doMores s (l.take i)) l[i] := by
  unfold doMores
  rw [List.take_succ_eq_append_getElem hi, List.foldl_append]
  rfl
theorem Ext.more {s z : PS} (h : Ext s z) (a : ActP) : Ext s (doMore z a) := by
  unfold doMore
  split
  · rename_i hk
    unfold doAct
    rcases hk with hk | hk
    · rw [if_pos hk]; exact h.set _ _
    · rw [if_neg (by omega), if_pos hk]; exact h.del _
  · exact h
theorem Ext.mores {s : PS} (l : List ActP) : ∀ {z : PS}, Ext s z → Ext s (doMores z l) := by
  induction l with
  | nil => exact fun h => h
  | cons a l ih => exact fun h => ih (h.more a)
theorem size_more (s : PS) (a : ActP) : sizePS (doMore s a) ≤ sizePS s + 2 := by
  unfold doMore
  split
  · exact size_act s a
  · omega
theorem size_mores : ∀ (l : List ActP) (s : PS), sizePS (doMores s l) ≤ sizePS s + 2 * l.length
  | [], _ => Nat.le_refl _
  | a :: l, s => by
    have h1 := size_mores l (doMore s a)
    have h2 := size_more s a
    have h3 : doMores s (a :: l) = doMores (doMore s a) l := rfl
    rw [h3, List.length_cons]
    omega
/-- A store alone, its blocks in S, or new since w0. -/
def LivS (S : Nat → Prop) (w0 w : World) (g : Nat) (s : PS) : Prop := ∃ F, St w g s F ∧ ∀ x ∈ F, S x ∨ w0.heap.size ≤ x
theorem LivS.later {S : Nat → Prop} {w0 w w' : World} {g : Nat} {s : PS} (h : LivS S w0 w g s) (hb : Below w.heap.size w w') : LivS S w0 w' g s := by
  obtain ⟨F, h1, h2⟩ := h
  exact ⟨F, h1.later hb, h2⟩
theorem BothS.liv {S : Nat → Prop} {w0 w : World} {g h : Nat} {s1 s2 : PS} (hb : BothS S w0 w g h s1 s2) : LivS S w0 w g s1 := by
  obtain ⟨F, G, h1, h2, h3, h4⟩ := hb
  exact ⟨F, h1, h3⟩
theorem Both.mine {B : Nat} {w : World} {g h : Nat} {s1 s2 : PS} (hb : Both B w g h s1 s2) : Mine B w g s1 := by
  obtain ⟨F, G, h1, h2, h3, h4⟩ := hb
  exact ⟨F, h1, h3⟩
theorem Mine.later {B : Nat} {w w' : World} {g : Nat} {s : PS} (h : Mine B w g s) (hb : Below w.heap.size w w') : Mine B w' g s := by
  obtain ⟨F, h1, h2⟩ := h
  exact ⟨F, h1.later hb, h2⟩
theorem up_get {t : Tab} (hu : Up t) {i : Nat} (hi : i < t.length) : getP t t[i].1 = some t[i].2 := getP_of_mem hu (List.getElem_mem hi)
theorem up_lt {t : Tab} (hu : Up t) {i : Nat} (hi : i + 1 < t.length) : less t[i].1 t[i + 1].1 = true := List.pairwise_iff_getElem.1 hu i (i + 1) (by omega) hi (by omega)

set_option maxHeartbeats 8000000 in
set_option maxRecDepth 100000 in
theorem undone_any {w : World} {v1 v2 : Value} {l more : List ActP} (h1 : Rd w actE 4 v1 l) (h2 : Rd w actE 4 v2 more) :
    Calls Try.prog 6 #[v1, v2] w (Ret w (.bool true)) := by
  obtain ⟨ad1, cap1, e1, c1, c1'⟩ := h1.shape
  obtain ⟨ad2, cap2, e2, c2, c2'⟩ := h2.shape
  obtain ⟨n, hn⟩ : ∃ n, n = l.length := ⟨_, rfl⟩
  obtain ⟨m, hm⟩ : ∃ m, m = more.length := ⟨_, rfl⟩
  rw [← hn] at e1 c1
  rw [← hm] at e2 c2
  subst e1 e2
  have H1 := Lib.hid h1; have H2 := Lib.hid h2; have HN := Lib.hid hn; have HM := Lib.hid hm
  clear h1 h2 hn hm
  go_enter Try.func6, Try.ntmps6
  go_wp2_with fail
  refine (light_any H1.out).mono ?_
  rintro e w1 ⟨r, rfl, hr, hb⟩
  cases r with
  | false =>
    have HB := Lib.hid hb
    clear hr hb
    go_wp2_with fail
    refine (lives_any _).mono ?_
    rintro e w2 ⟨rfl, hb2⟩
    have HB2 := Lib.hid (HB.out.trans (hb2.mono HB.out.size))
    clear hb2
    go_wp2_with fail
    go_ret
    exact ⟨rfl, HB2.out⟩
  | true =>
  have hl := hr rfl
  rw [← HN.out] at hl
  have HL := Lib.hid hl; have HB := Lib.hid hb
  clear hr hb hl
  go_wp2_with fail
  refine (light_any (H2.out.later HB.out)).mono ?_
  rintro e w2 ⟨r, rfl, hr, hb⟩
  cases r with
  | false =>
    have HBX := Lib.hid (HB.out.trans (hb.mono HB.out.size))
    clear hr hb
    go_wp2_with fail
    refine (lives_any _).mono ?_
    rintro e w2 ⟨rfl, hb2⟩
    have HB2 := Lib.hid (HBX.out.trans (hb2.mono HBX.out.size))
    clear hb2
    go_wp2_with fail
    go_ret
    exact ⟨rfl, HB2.out⟩
  | true =>
  have hl := hr rfl
  rw [← HM.out] at hl
  have HL2 := Lib.hid hl; have HB2 := Lib.hid (HB.out.trans (hb.mono HB.out.size))
  clear hr hb hl HB
  go_wp2_with fail
  refine (snew_any _).mono ?_
  rintro e w3 ⟨g, F, rfl, q1, hb3, q3⟩
  have HM0 : Hid (Mine w.heap.size w3 g PS.new) := Lib.hid ⟨F, q1, fun x hx => Nat.le_trans HB2.out.size (q3 x hx)⟩
  have HB3 := Lib.hid (HB2.out.trans (hb3.mono HB2.out.size))
  clear q1 hb3 q3 HB2
  go_wp2_with fail
  go_loopw [29] (fun vi wr => ∃ (i : Nat), vi = .int .i64 i ∧ i ≤ n ∧ Hid (Mine w.heap.size wr g (doActs PS.new (l.take i))) ∧ Hid (Below w.heap.size w wr)) (fun vi _ => n - (intOf vi).toNat)
  case atStart => exact ⟨0, rfl, Nat.zero_le _, HM0, HB3⟩
  case round =>
    clear HM0 HB3
    obtain ⟨i, rfl, hin, MO, BW⟩ := hrel
    by_cases hlt : i < n
    · skip
      have hi : i < l.length := by rw [← HN.out]; exact hlt
      obtain ⟨gL, off, rfl, hgL, q0, q1, q2, q3⟩ := Rd.act H1.out i hi
      have q0' := (BW.out.cell (p := ⟨gL, off + i * 4, none⟩) hgL).trans q0
      have q1' := (BW.out.cell (p := ⟨gL, off + i * 4 + 1, none⟩) hgL).trans q1
      have q2' := (BW.out.cell (p := ⟨gL, off + i * 4 + 2, none⟩) hgL).trans q2
      have q3' := (BW.out.cell (p := ⟨gL, off + i * 4 + 3, none⟩) hgL).trans q3
      have hat := acts_take (s := PS.new) hi
      obtain ⟨a, ha⟩ : ∃ a, a = l[i] := ⟨_, rfl⟩
      rw [← ha] at q0' q1' q2' q3' hat
      have hsz := size_acts (l.take i) PS.new
      obtain ⟨s, hs⟩ : ∃ s, s = doActs PS.new (l.take i) := ⟨_, rfl⟩
      rw [← hs] at MO hat hsz
      have hsz2 : s.t.length + s.past.length ≤ 600 := by
        have h5 : sizePS PS.new = 0 := rfl
        rw [h5, List.length_take] at hsz
        have h6 := HL.out
        unfold sizePS at hsz
        omega
      have HAT := Lib.hid hat; have HSZ := Lib.hid hsz2; have HLT := Lib.hid hlt
      clear ha q0 q1 q2 q3 hgL hi hs hsz hsz2 hat
      go_wp2_with (refine wpList_alloc_g rfl _ rfl _ _ Try.zeroAct rfl ?_)
      intro R w5 h5
      go_wp2_with (refine wpList_store_row_g (t := 39) (old := #[.int .i64 0, .string (bs []), .string (bs []), .int .i64 0]) rfl 39 _ _ rfl R #[.int .i64 a.kind, .string (bs a.key), .string (bs a.value), .int .i64 a.n] rfl rfl h5.out.cells Try.sizeAct rfl (by simp [Value.oneCell']) ?_)
      intro w6 hx6 k56 z56
      have hb56 : Below wr.heap.size wr w6 := h5.out.below.trans (k56.below (B := wr.heap.size) (fun x hx e => by have := h5.out.eq; omega) h5.out.below.size)
      have q0 : w6.cell? ⟨R, 0, none⟩ = some (.int .i64 a.kind) := Lib.cell_of_heap hx6 0
      have q1 : w6.cell? ⟨R, 1, none⟩ = some (.string (bs a.key)) := Lib.cell_of_heap hx6 1
      have q2 : w6.cell? ⟨R, 2, none⟩ = some (.string (bs a.value)) := Lib.cell_of_heap hx6 2
      have q3 : w6.cell? ⟨R, 3, none⟩ = some (.int .i64 a.n) := Lib.cell_of_heap hx6 3
      have HX6 := Lib.hid hx6
      clear h5 hx6 k56 z56 q0' q1' q2' q3'
      have MO6 := Lib.hid (MO.out.later hb56); have BW6 := Lib.hid (BW.out.trans (hb56.mono BW.out.size))
      clear hb56 MO BW
      have hx6' := below_at ((Below.refl _ _).alloc (Nat.le_refl _) _ : Below w6.heap.size w6 (World.alloc w6 (.cells #[.slice none 0 0, .slice none 0 0] 55))) HX6.out
      have p0 : (World.alloc w6 (.cells #[.slice none 0 0, .slice none 0 0] 55)).cell? ⟨R, 0, none⟩ = some (.int .i64 a.kind) := Lib.cell_of_heap hx6' 0
      have p1 : (World.alloc w6 (.cells #[.slice none 0 0, .slice none 0 0] 55)).cell? ⟨R, 1, none⟩ = some (.string (bs a.key)) := Lib.cell_of_heap hx6' 1
      have p2 : (World.alloc w6 (.cells #[.slice none 0 0, .slice none 0 0] 55)).cell? ⟨R, 2, none⟩ = some (.string (bs a.value)) := Lib.cell_of_heap hx6' 2
      have p3 : (World.alloc w6 (.cells #[.slice none 0 0, .slice none 0 0] 55)).cell? ⟨R, 3, none⟩ = some (.int .i64 a.n) := Lib.cell_of_heap hx6' 3
      clear hx6'
      go_wp2_with fail
      obtain ⟨w9, hw9⟩ : ∃ w9, w9 = World.alloc w6 (.cells #[.slice none 0 0, .slice none 0 0] 55) := ⟨_, rfl⟩
      obtain ⟨h, hh⟩ : ∃ h, h = w6.heap.size := ⟨_, rfl⟩
      rw [← hw9, ← hh]
      have hb9 : Below w6.heap.size w6 w9 := by rw [hw9]; exact (Below.refl _ _).alloc (Nat.le_refl _) _
      have hx9 : w9.heap[h]? = some (.cells #[.slice none 0 0, .slice none 0 0] 55 (0, 0)) := by rw [hw9, hh]; exact heap_alloc_new _ _
      have hrs : RS w9 h PS.new (rfoot h (.slice none 0 0) (.slice none 0 0)) := ⟨_, _, ⟨hx9, LO.nil _ _ _ _, LO.nil _ _ _ _, List.Pairwise.nil⟩, rfl⟩
      have hnew : ∀ x ∈ rfoot h (.slice none 0 0) (.slice none 0 0), w6.heap.size ≤ x := fun x hx => by
        rw [rfoot_eq] at hx
        rcases hx with e | e | e
        · rw [e, hh]; exact Nat.le_refl _
        · cases e
        · cases e
      clear hw9 hh hx9 p0 p1 p2 p3
      have hbo : Both w.heap.size w9 g h s PS.new := by
        obtain ⟨F, p1, p2⟩ := MO6.out
        exact ⟨F, _, p1.later hb9, hrs, p2, fun x hx => Nat.le_trans BW6.out.size (hnew x hx)⟩
      have BO := Lib.hid hbo; have BW9 := Lib.hid (BW6.out.trans (hb9.mono BW6.out.size))
      clear hbo hb9 hrs hnew MO6 BW6 HX6
      refine (act_any a BW9.out BO.out (by have := HSZ.out; omega) (by show PS.new.t.length + PS.new.past.length < _; decide)).mono ?_
      rintro e w7 ⟨r, rfl, hr, hbo7, hbl7, hac⟩
      have hmi := hbo7.mine
      rw [← HAT.out] at hmi
      have M7 := Lib.hid hmi; have B7 := Lib.hid hbl7
      clear hr hbo7 hbl7 hac hmi BO BW9 q0 q1 q2 q3
      go_wp2_with fail
      go_roundw
      case rel => exact ⟨i + 1, by go_num, Nat.succ_le_of_lt HLT.out, M7, B7⟩
      case measure => have hh : i < n := HLT.out; simp [intOf]; omega
    · have hfin : Mine w.heap.size wr g (doActs PS.new l) := by
        have h8 := MO.out
        rwa [List.take_of_length_le (by rw [← HN.out]; omega)] at h8
      have hsz := size_acts l PS.new
      obtain ⟨s, hs⟩ : ∃ s, s = doActs PS.new l := ⟨_, rfl⟩
      rw [← hs] at hfin hsz
      have hsz2 : s.t.length + s.past.length ≤ 600 := by
        have h5 : sizePS PS.new = 0 := rfl
        rw [h5, ← HN.out] at hsz
        have h6 := HL.out
        unfold sizePS at hsz
        omega
      have HSZ := Lib.hid hsz2
      obtain ⟨F1, p1, p2⟩ := hfin
      have P1 := Lib.hid p1; have P2 := Lib.hid p2
      clear hsz hs hsz2 MO p1 p2
      obtain ⟨wl, hwl⟩ : ∃ wl, wl = wr := ⟨_, rfl⟩
      subst hwl
      go_wp2_with fail
      refine (sall_any P1.out (by have := HSZ.out; omega)).mono ?_
      rintro e wA ⟨vA, rfl, hlA, hbA, hnA⟩
      obtain ⟨adA, capA, eA, _, _⟩ := hlA.shape
      obtain ⟨nA, hnnA⟩ : ∃ nA, nA = s.t.length := ⟨_, rfl⟩
      rw [← hnnA] at eA
      subst eA
      have LA := Lib.hid hlA; have NA := Lib.hid hnA; have BA := Lib.hid (BW.out.trans (hbA.mono BW.out.size)); have HNA := Lib.hid hnnA
      have PA := Lib.hid (P1.out.later hbA); have FL : Hid (∀ x ∈ F1, x < wl.heap.size) := Lib.hid P1.out.lt
      have WLA : Hid (wl.heap.size ≤ wA.heap.size) := Lib.hid hbA.size
      clear hlA hnA hbA hnnA BW P1
      go_wp2_with fail
      refine (smark_any PA.out).mono ?_
      obtain ⟨nP, hnP⟩ : ∃ nP, nP = s.past.length := ⟨_, rfl⟩
      rw [← hnP]
      have HNP := Lib.hid hnP
      clear hnP
      rintro e w8 ⟨rfl, rfl⟩
      go_wp2_with fail
      clear hlt
      go_loopw [45] (fun vi wq => ∃ (i : Nat), vi = .int .i64 i ∧ i ≤ m ∧ Hid (LivS (· ∈ F1) wA wq g (doMores s (more.take i))) ∧ Hid (Keep (· ∈ F1) wA wq)) (fun vi _ => m - (intOf vi).toNat)
      case atStart => exact ⟨0, rfl, Nat.zero_le _, Lib.hid ⟨F1, PA.out, fun x hx => .inl hx⟩, Lib.hid (Keep.refl _ _)⟩
      case round =>
        obtain ⟨i, rfl, hin, LI, KW⟩ := hrel
        have hbw : Below w.heap.size w wr := BA.out.trans (KW.out.below (B := w.heap.size) (fun x hx hF => by have := P2.out x hF; omega) BA.out.size)
        by_cases hlt : i < m
        · skip
          have hi : i < more.length := by rw [← HM.out]; exact hlt
          obtain ⟨gL, off, rfl, hgL, q0, q1, q2, q3⟩ := Rd.act H2.out i hi
          have q0' := (hbw.cell (p := ⟨gL, off + i * 4, none⟩) hgL).trans q0
          have q1' := (hbw.cell (p := ⟨gL, off + i * 4 + 1, none⟩) hgL).trans q1
          have q2' := (hbw.cell (p := ⟨gL, off + i * 4 + 2, none⟩) hgL).trans q2
          have q3' := (hbw.cell (p := ⟨gL, off + i * 4 + 3, none⟩) hgL).trans q3
          have hat := mores_take (s := s) hi
          obtain ⟨a, ha⟩ : ∃ a, a = more[i] := ⟨_, rfl⟩
          rw [← ha] at q0' q1' q2' q3' hat
          have hsz := size_mores (more.take i) s
          obtain ⟨z, hz⟩ : ∃ z, z = doMores s (more.take i) := ⟨_, rfl⟩
          rw [← hz] at LI hat hsz
          have hsz2 : z.t.length + z.past.length ≤ 1200 := by
            rw [List.length_take] at hsz
            have h6 := HL2.out
            have h7 := HSZ.out
            unfold sizePS at hsz
            omega
          have HAT := Lib.hid hat; have HSZ2 := Lib.hid hsz2; have HLT := Lib.hid hlt
          clear ha q0 q1 q2 q3 hgL hi hz hsz hsz2 hat hbw
          go_wp2_with (refine wpList_alloc_g rfl _ rfl _ _ Try.zeroAct rfl ?_)
          intro R w5 h5
          go_wp2_with (refine wpList_store_row_g (t := 39) (old := #[.int .i64 0, .string (bs []), .string (bs []), .int .i64 0]) rfl 39 _ _ rfl R #[.int .i64 a.kind, .string (bs a.key), .string (bs a.value), .int .i64 a.n] rfl rfl h5.out.cells Try.sizeAct rfl (by simp [Value.oneCell']) ?_)
          intro w6 hx6 k56 z56
          have hb56 : Below wr.heap.size wr w6 := h5.out.below.trans (k56.below (B := wr.heap.size) (fun x hx e => by have := h5.out.eq; omega) h5.out.below.size)
          have q0 : w6.cell? ⟨R, 0, none⟩ = some (.int .i64 a.kind) := Lib.cell_of_heap hx6 0
          have q1 : w6.cell? ⟨R, 1, none⟩ = some (.string (bs a.key)) := Lib.cell_of_heap hx6 1
          have q2 : w6.cell? ⟨R, 2, none⟩ = some (.string (bs a.value)) := Lib.cell_of_heap hx6 2
          have q3 : w6.cell? ⟨R, 3, none⟩ = some (.int .i64 a.n) := Lib.cell_of_heap hx6 3
          have HX6 := Lib.hid hx6
          clear h5 hx6 k56 z56 q0' q1' q2' q3'
          have LI6 := Lib.hid (LI.out.later hb56); have KW6 := Lib.hid (KW.out.then_below hb56)
          clear hb56 LI KW
          by_cases hk : a.kind = 0 ∨ a.kind = 1
          · have hmore : doMore z a = doAct z a := by unfold doMore; rw [if_pos hk]
            rw [← HAT.out] at hmore
            have HMO := Lib.hid hmore
            by_cases hk0 : a.kind = 0
            · have j0 : (a.kind == 0) = true := by simpa using hk0
              clear hmore hk hk0
              have hx6' := below_at ((Below.refl _ _).alloc (Nat.le_refl _) _ : Below w6.heap.size w6 (World.alloc w6 (.cells #[.slice none 0 0, .slice none 0 0] 55))) HX6.out
              have p0 : (World.alloc w6 (.cells #[.slice none 0 0, .slice none 0 0] 55)).cell? ⟨R, 0, none⟩ = some (.int .i64 a.kind) := Lib.cell_of_heap hx6' 0
              have p1 : (World.alloc w6 (.cells #[.slice none 0 0, .slice none 0 0] 55)).cell? ⟨R, 1, none⟩ = some (.string (bs a.key)) := Lib.cell_of_heap hx6' 1
              have p2 : (World.alloc w6 (.cells #[.slice none 0 0, .slice none 0 0] 55)).cell? ⟨R, 2, none⟩ = some (.string (bs a.value)) := Lib.cell_of_heap hx6' 2
              have p3 : (World.alloc w6 (.cells #[.slice none 0 0, .slice none 0 0] 55)).cell? ⟨R, 3, none⟩ = some (.int .i64 a.n) := Lib.cell_of_heap hx6' 3
              clear hx6'
              go_wp2_with fail
              obtain ⟨w9, hw9⟩ : ∃ w9, w9 = World.alloc w6 (.cells #[.slice none 0 0, .slice none 0 0] 55) := ⟨_, rfl⟩
              obtain ⟨h, hh⟩ : ∃ h, h = w6.heap.size := ⟨_, rfl⟩
              rw [← hw9, ← hh]
              have hb9 : Below w6.heap.size w6 w9 := by rw [hw9]; exact (Below.refl _ _).alloc (Nat.le_refl _) _
              have hx9 : w9.heap[h]? = some (.cells #[.slice none 0 0, .slice none 0 0] 55 (0, 0)) := by rw [hw9, hh]; exact heap_alloc_new _ _
              have hrs : RS w9 h PS.new (rfoot h (.slice none 0 0) (.slice none 0 0)) := ⟨_, _, ⟨hx9, LO.nil _ _ _ _, LO.nil _ _ _ _, List.Pairwise.nil⟩, rfl⟩
              have hnew : ∀ x ∈ rfoot h (.slice none 0 0) (.slice none 0 0), w6.heap.size ≤ x := fun x hx => by
                rw [rfoot_eq] at hx
                rcases hx with e | e | e
                · rw [e, hh]; exact Nat.le_refl _
                · cases e
                · cases e
              clear hw9 hh hx9 p0 p1 p2 p3
              have hbo : BothS (· ∈ F1) wA w9 g h z PS.new := by
                obtain ⟨F, p1, p2⟩ := LI6.out
                exact ⟨F, _, p1.later hb9, hrs, p2, fun x hx => .inr (Nat.le_trans KW6.out.size (hnew x hx))⟩
              have BO := Lib.hid hbo; have KW9 := Lib.hid (KW6.out.then_below hb9)
              clear hbo hb9 hrs hnew LI6 KW6 HX6
              refine (act_gen a KW9.out BO.out (by have := HSZ2.out; omega) (by show PS.new.t.length + PS.new.past.length < _; decide)).mono ?_
              rintro e w7 ⟨r, rfl, hr, hbo7, hbl7, hac⟩
              have hmi := hbo7.liv
              rw [← HMO.out] at hmi
              have M7 := Lib.hid hmi; have K7 := Lib.hid hbl7
              clear hr hbo7 hbl7 hac hmi BO KW9 q0 q1 q2 q3
              go_wp2_with fail
              go_roundw
              case rel => exact ⟨i + 1, by go_num, Nat.succ_le_of_lt HLT.out, M7, K7⟩
              case measure => have hh : i < m := HLT.out; simp [intOf]; omega
            · have j0 : (a.kind == 0) = false := by simpa using hk0
              have j1 : (a.kind == 1) = true := by rcases hk with h | h; exact absurd h hk0; simpa using h
              clear hmore hk hk0
              have hx6' := below_at ((Below.refl _ _).alloc (Nat.le_refl _) _ : Below w6.heap.size w6 (World.alloc w6 (.cells #[.slice none 0 0, .slice none 0 0] 55))) HX6.out
              have p0 : (World.alloc w6 (.cells #[.slice none 0 0, .slice none 0 0] 55)).cell? ⟨R, 0, none⟩ = some (.int .i64 a.kind) := Lib.cell_of_heap hx6' 0
              have p1 : (World.alloc w6 (.cells #[.slice none 0 0, .slice none 0 0] 55)).cell? ⟨R, 1, none⟩ = some (.string (bs a.key)) := Lib.cell_of_heap hx6' 1
              have p2 : (World.alloc w6 (.cells #[.slice none 0 0, .slice none 0 0] 55)).cell? ⟨R, 2, none⟩ = some (.string (bs a.value)) := Lib.cell_of_heap hx6' 2
              have p3 : (World.alloc w6 (.cells #[.slice none 0 0, .slice none 0 0] 55)).cell? ⟨R, 3, none⟩ = some (.int .i64 a.n) := Lib.cell_of_heap hx6' 3
              clear hx6'
              go_wp2_with fail
              obtain ⟨w9, hw9⟩ : ∃ w9, w9 = World.alloc w6 (.cells #[.slice none 0 0, .slice none 0 0] 55) := ⟨_, rfl⟩
              obtain ⟨h, hh⟩ : ∃ h, h = w6.heap.size := ⟨_, rfl⟩
              rw [← hw9, ← hh]
              have hb9 : Below w6.heap.size w6 w9 := by rw [hw9]; exact (Below.refl _ _).alloc (Nat.le_refl _) _
              have hx9 : w9.heap[h]? = some (.cells #[.slice none 0 0, .slice none 0 0] 55 (0, 0)) := by rw [hw9, hh]; exact heap_alloc_new _ _
              have hrs : RS w9 h PS.new (rfoot h (.slice none 0 0) (.slice none 0 0)) := ⟨_, _, ⟨hx9, LO.nil _ _ _ _, LO.nil _ _ _ _, List.Pairwise.nil⟩, rfl⟩
              have hnew : ∀ x ∈ rfoot h (.slice none 0 0) (.slice none 0 0), w6.heap.size ≤ x := fun x hx => by
                rw [rfoot_eq] at hx
                rcases hx with e | e | e
                · rw [e, hh]; exact Nat.le_refl _
                · cases e
                · cases e
              clear hw9 hh hx9 p0 p1 p2 p3
              have hbo : BothS (· ∈ F1) wA w9 g h z PS.new := by
                obtain ⟨F, p1, p2⟩ := LI6.out
                exact ⟨F, _, p1.later hb9, hrs, p2, fun x hx => .inr (Nat.le_trans KW6.out.size (hnew x hx))⟩
              have BO := Lib.hid hbo; have KW9 := Lib.hid (KW6.out.then_below hb9)
              clear hbo hb9 hrs hnew LI6 KW6 HX6
              refine (act_gen a KW9.out BO.out (by have := HSZ2.out; omega) (by show PS.new.t.length + PS.new.past.length < _; decide)).mono ?_
              rintro e w7 ⟨r, rfl, hr, hbo7, hbl7, hac⟩
              have hmi := hbo7.liv
              rw [← HMO.out] at hmi
              have M7 := Lib.hid hmi; have K7 := Lib.hid hbl7
              clear hr hbo7 hbl7 hac hmi BO KW9 q0 q1 q2 q3
              go_wp2_with fail
              go_roundw
              case rel => exact ⟨i + 1, by go_num, Nat.succ_le_of_lt HLT.out, M7, K7⟩
              case measure => have hh : i < m := HLT.out; simp [intOf]; omega
          · have hmore : doMore z a = z := by unfold doMore; rw [if_neg hk]
            rw [← HAT.out] at hmore
            have HMO := Lib.hid hmore
            have j0 : (a.kind == 0) = false := by simpa using fun h => hk (.inl h)
            have j1 : (a.kind == 1) = false := by simpa using fun h => hk (.inr h)
            clear hmore hk
            go_wp2_with fail
            go_roundw
            case rel => exact ⟨i + 1, by go_num, Nat.succ_le_of_lt HLT.out, Lib.hid (by rw [HMO.out]; exact LI6.out), KW6⟩
            case measure => have hh : i < m := HLT.out; simp [intOf]; omega
        · have hfin : LivS (· ∈ F1) wA wr g (doMores s more) := by
            have h8 := LI.out
            rwa [List.take_of_length_le (by rw [← HM.out]; omega)] at h8
          have hext := (Ext.refl PA.out.up).mores more
          have hsz := size_mores more s
          obtain ⟨z, hz⟩ : ∃ z, z = doMores s more := ⟨_, rfl⟩
          rw [← hz] at hfin hsz hext
          have hsz2 : z.t.length + z.past.length ≤ 1200 := by
            rw [← HM.out] at hsz
            have h6 := HL2.out
            have h7 := HSZ.out
            unfold sizePS at hsz
            omega
          have HSZ2 := Lib.hid hsz2; have HE := Lib.hid hext
          obtain ⟨F2, p3, p4⟩ := hfin
          have P3 := Lib.hid p3; have P4 := Lib.hid p4
          clear hz hsz hsz2 hext p3 p4 LI hbw
          obtain ⟨wm, hwm⟩ : ∃ wm, wm = wr := ⟨_, rfl⟩
          subst hwm
          go_wp2_with fail
          refine (sall_any P3.out (by have := HSZ2.out; omega)).mono ?_
          rintro e wB ⟨vB, rfl, hlB, hbB, hnB⟩
          obtain ⟨adB, capB, eB, lB1, lB2⟩ := hlB.shape
          obtain ⟨nB, hnnB⟩ : ∃ nB, nB = z.t.length := ⟨_, rfl⟩
          rw [← hnnB] at eB lB1
          subst eB
          have LB := Lib.hid hlB; have PB := Lib.hid (P3.out.later hbB); have KB := Lib.hid (KW.out.then_below hbB); have HNB := Lib.hid hnnB
          clear hlB hnB hbB hnnB KW P3
          go_wp2_with fail
          clear hlt
          go_loopw [67] (fun vi wq => ∃ (i : Nat), vi = .int .i64 i ∧ i ≤ nB ∧ Hid (Below wB.heap.size wB wq)) (fun vi _ => nB - (intOf vi).toNat)
          case atStart => exact ⟨0, rfl, Nat.zero_le _, Lib.hid (Below.refl _ _)⟩
          case round =>
            obtain ⟨i, rfl, hin, CW⟩ := hrel
            by_cases hlt : i < nB
            · have hi : i < z.t.length := by rw [← HNB.out]; exact hlt
              obtain ⟨gB, hadB, hgB, q0, q1⟩ := LB.out.pair i hi
              subst hadB
              have q0' := (CW.out.cell (p := ⟨gB, i * 2, none⟩) hgB).trans q0
              have q1' := (CW.out.cell (p := ⟨gB, i * 2 + 1, none⟩) hgB).trans q1
              have hget := up_get PB.out.up hi
              obtain ⟨p, hp⟩ : ∃ p, p = z.t[i] := ⟨_, rfl⟩
              rw [← hp] at q0' q1' hget
              obtain ⟨k, v⟩ := p
              simp only at q0' q1' hget
              have HG := Lib.hid hget; have HLT := Lib.hid hlt
              have hprev : 0 < i → ∃ k', wr.cell? ⟨gB, (i - 1) * 2, none⟩ = some (.string (bs k')) ∧ less k' k = true := by
                intro h0
                obtain ⟨j, rfl⟩ : ∃ j, i = j + 1 := ⟨i - 1, by omega⟩
                obtain ⟨gB', hadB', hgB', t0, _⟩ := LB.out.pair j (by omega)
                cases hadB'
                refine ⟨z.t[j].1, (CW.out.cell (p := ⟨gB, (j + 1 - 1) * 2, none⟩) hgB).trans t0, ?_⟩
                have h5 := up_lt PB.out.up hi
                have h6 : k = z.t[j + 1].1 := by rw [← hp]
                rw [h6]; exact h5
              have HPR := Lib.hid hprev
              clear hp q0 q1 hget hi hprev
              go_wp2_with (refine wpList_alloc_g rfl _ rfl _ _ Try.zeroPairE rfl ?_)
              intro R w5 h5
              go_wp2_with (refine wpList_store_row_g (t := 48) (old := #[.string (bs []), .string (bs [])]) rfl 48 _ _ rfl R #[.string (bs k), .string (bs v)] rfl rfl h5.out.cells Try.sizePair rfl (by simp [Value.oneCell']) ?_)
              intro w6 hx6 k56 z56
              have hb56 : Below wr.heap.size wr w6 := h5.out.below.trans (k56.below (B := wr.heap.size) (fun x hx e => by have := h5.out.eq; omega) h5.out.below.size)
              have r0 : w6.cell? ⟨R, 0, none⟩ = some (.string (bs k)) := Lib.cell_of_heap hx6 0
              have r1 : w6.cell? ⟨R, 1, none⟩ = some (.string (bs v)) := Lib.cell_of_heap hx6 1
              have HX6 := Lib.hid hx6
              have CW6 := Lib.hid (CW.out.trans (hb56.mono CW.out.size)); have HB56 := Lib.hid hb56
              clear h5 hx6 k56 z56 hb56 q0' q1'
              go_wp2_with fail
              refine (sget_any (PB.out.later CW6.out) k).mono ?_
              rw [HG.out]
              rintro e w8 ⟨rfl, rfl⟩
              have g1 : ((bs v).toList == (bs v).toList) = true := by simp
              by_cases h0 : 0 < i
              · obtain ⟨k', t0, hls⟩ := HPR.out h0
                have hls' : Op.bytesLess (bs k').toList (bs k).toList = true := by rw [toList_bs, toList_bs]; exact hls
                have hGl : gB < wr.heap.size := block_lt_of_cell t0
                have t0' := (HB56.out.cell (p := ⟨gB, (i - 1) * 2, none⟩) hGl).trans t0
                have hS : w6.drew.cell? ⟨R, 0, none⟩ = some (.string (bs k)) ∧ w6.drew.cell? ⟨R, 1, none⟩ = some (.string (bs v)) ∧ w6.drew.cell? ⟨gB, (i - 1) * 2, none⟩ = some (.string (bs k')) := ⟨r0, r1, t0'⟩
                have i1 : IntKind.i64.wrap ((i : Int) - 1) = (i : Int) - 1 := IntWalk.i64_in _ (by omega)
                have i2 : ((i : Int) - 1).toNat = i - 1 := by omega
                have i3 : (0 : Int) ≤ (i : Int) - 1 := by omega
                have i4 : (i : Int) - 1 < (nB : Int) := by omega
                have i6 : (1 : Int) ≤ (i : Int) := by omega
                have i5 : decide ((i : Int) > 0) = true := by simp; omega
                clear hls t0 hGl
                have CW7 := Lib.hid CW6.out.drew
                clear HG HB56 HX6 CW CW6
                go_wp2_with fail
                refine wp_region_till (fun w' => w'.cell? ⟨R, 0, none⟩ = some (.string (bs k)) ∧ w'.cell? ⟨R, 1, none⟩ = some (.string (bs v)) ∧ w'.cell? ⟨gB, (i - 1) * 2, none⟩ = some (.string (bs k'))) 23 23 (by kernel_rfl) rfl ?_
                refine till_take 0 (some 79) rfl rfl (by kernel_rfl) (by kernel_rfl) (by kernel_rfl) (by kernel_rfl) (by kernel_rfl) (by kernel_rfl) (fun _ _ _ h => h) (.inl ⟨by rfl, fun w' _ => (by go_simp; rfl)⟩) hS ?_
                go_frame
                refine till_take 1 (some 80) rfl rfl (by kernel_rfl) (by kernel_rfl) (by kernel_rfl) (by kernel_rfl) (by kernel_rfl) (by kernel_rfl) (fun _ _ _ h => h) (.inl ⟨by rfl, fun w' _ => (by go_simp; rfl)⟩) hS ?_
                go_frame
                refine till_take 2 (some 81) rfl rfl (by kernel_rfl) (by kernel_rfl) (by kernel_rfl) (by kernel_rfl) (by kernel_rfl) (by kernel_rfl) (fun _ _ _ h => h) (.inl ⟨by rfl, fun w' _ => (by go_simp; rfl)⟩) hS ?_
                go_frame
                refine till_take 3 (some 82) rfl rfl (by kernel_rfl) (by kernel_rfl) (by kernel_rfl) (by kernel_rfl) (by kernel_rfl) (by kernel_rfl) (fun _ _ _ h => h) (.inl ⟨by rfl, fun w' _ => (by go_simp; rfl)⟩) hS ?_
                go_frame
                refine till_take 4 (some 83) rfl rfl (by kernel_rfl) (by kernel_rfl) (by kernel_rfl) (by kernel_rfl) (by kernel_rfl) (by kernel_rfl) (fun _ _ _ h => h) (.inl ⟨by rfl, fun w' _ => (by go_simp; rfl)⟩) hS ?_
                go_frame
                refine till_take 5 (some 84) rfl rfl (by kernel_rfl) (by kernel_rfl) (by kernel_rfl) (by kernel_rfl) (by kernel_rfl) (by kernel_rfl) (fun _ _ _ h => h) (.inl ⟨by rfl, fun w' hS' => (by obtain ⟨hc1, hc2, hc3⟩ := hS'; go_simp; rfl)⟩) hS ?_
                go_frame
                refine till_take 6 (some 85) rfl rfl (by kernel_rfl) (by kernel_rfl) (by kernel_rfl) (by kernel_rfl) (by kernel_rfl) (by kernel_rfl) (fun _ _ _ h => h) (.inl ⟨by rfl, fun w' _ => (by go_simp; rfl)⟩) hS ?_
                go_frame
                refine till_take 7 (some 86) rfl rfl (by kernel_rfl) (by kernel_rfl) (by kernel_rfl) (by kernel_rfl) (by kernel_rfl) (by kernel_rfl) (fun _ _ _ h => h) (.inl ⟨by rfl, fun w' _ => (by go_simp; rfl)⟩) hS ?_
                go_frame
                refine till_take 8 (some 87) rfl rfl (by kernel_rfl) (by kernel_rfl) (by kernel_rfl) (by kernel_rfl) (by kernel_rfl) (by kernel_rfl) (fun _ _ _ h => h) (.inl ⟨by rfl, fun w' _ => (by go_simp; rfl)⟩) hS ?_
                go_frame
                refine till_take 9 (some 88) rfl rfl (by kernel_rfl) (by kernel_rfl) (by kernel_rfl) (by kernel_rfl) (by kernel_rfl) (by kernel_rfl) (fun _ _ _ h => h) (.inl ⟨by rfl, fun w' _ => (by go_simp; rfl)⟩) hS ?_
                go_frame
                refine till_take 10 (some 89) rfl rfl (by kernel_rfl) (by kernel_rfl) (by kernel_rfl) (by kernel_rfl) (by kernel_rfl) (by kernel_rfl) (fun _ _ _ h => h) (.inl ⟨by rfl, fun w' _ => (by go_simp; rfl)⟩) hS ?_
                go_frame
                refine till_take 11 (some 90) rfl rfl (by kernel_rfl) (by kernel_rfl) (by kernel_rfl) (by kernel_rfl) (by kernel_rfl) (by kernel_rfl) (fun _ _ _ h => h) (.inl ⟨by rfl, fun w' _ => (by go_simp; rfl)⟩) hS ?_
                go_frame
                refine till_take 12 (some 91) rfl rfl (by kernel_rfl) (by kernel_rfl) (by kernel_rfl) (by kernel_rfl) (by kernel_rfl) (by kernel_rfl) (fun _ _ _ h => h) (.inl ⟨by rfl, fun w' _ => (by go_simp; rfl)⟩) hS ?_
                go_frame
                refine till_take 13 (some 92) rfl rfl (by kernel_rfl) (by kernel_rfl) (by kernel_rfl) (by kernel_rfl) (by kernel_rfl) (by kernel_rfl) (fun _ _ _ h => h) (.inl ⟨by rfl, fun w' _ => (by go_simp; rfl)⟩) hS ?_
                go_frame
                refine till_take 14 (some 93) rfl rfl (by kernel_rfl) (by kernel_rfl) (by kernel_rfl) (by kernel_rfl) (by kernel_rfl) (by kernel_rfl) (fun _ _ _ h => h) (.inl ⟨by rfl, fun w' _ => (by go_simp; rfl)⟩) hS ?_
                go_frame
                refine till_take 15 (some 94) rfl rfl (by kernel_rfl) (by kernel_rfl) (by kernel_rfl) (by kernel_rfl) (by kernel_rfl) (by kernel_rfl) (fun _ _ _ h => h) (.inl ⟨by rfl, fun w' _ => (by go_simp; rfl)⟩) hS ?_
                go_frame
                refine till_take 16 (some 95) rfl rfl (by kernel_rfl) (by kernel_rfl) (by kernel_rfl) (by kernel_rfl) (by kernel_rfl) (by kernel_rfl) (fun _ _ _ h => h) (.inl ⟨by rfl, fun w' _ => (by go_simp; rfl)⟩) hS ?_
                go_frame
                refine till_take 17 (some 96) rfl rfl (by kernel_rfl) (by kernel_rfl) (by kernel_rfl) (by kernel_rfl) (by kernel_rfl) (by kernel_rfl) (fun _ _ _ h => h) (.inl ⟨by rfl, fun w' hS' => (by obtain ⟨hc1, hc2, hc3⟩ := hS'; go_simp; rfl)⟩) hS ?_
                go_frame
                refine till_take 18 (some 97) rfl rfl (by kernel_rfl) (by kernel_rfl) (by kernel_rfl) (by kernel_rfl) (by kernel_rfl) (by kernel_rfl) (fun _ _ _ h => h) (.inl ⟨by rfl, fun w' _ => (by go_simp; rfl)⟩) hS ?_
                go_frame
                refine till_take 19 (some 98) rfl rfl (by kernel_rfl) (by kernel_rfl) (by kernel_rfl) (by kernel_rfl) (by kernel_rfl) (by kernel_rfl) (fun _ _ _ h => h) (.inl ⟨by rfl, fun w' hS' => (by obtain ⟨hc1, hc2, hc3⟩ := hS'; go_simp; rfl)⟩) hS ?_
                go_frame
                refine till_take 20 (some 99) rfl rfl (by kernel_rfl) (by kernel_rfl) (by kernel_rfl) (by kernel_rfl) (by kernel_rfl) (by kernel_rfl) (fun _ _ _ h => h) (.inl ⟨by rfl, fun w' _ => (by go_simp; rfl)⟩) hS ?_
                go_frame
                refine till_take 21 (some 100) rfl rfl (by kernel_rfl) (by kernel_rfl) (by kernel_rfl) (by kernel_rfl) (by kernel_rfl) (by kernel_rfl) (fun _ _ _ h => h) (.inl ⟨by rfl, fun w' _ => (by go_simp; rfl)⟩) hS ?_
                go_frame
                refine till_take 22 (some 101) rfl rfl (by kernel_rfl) (by kernel_rfl) (by kernel_rfl) (by kernel_rfl) (by kernel_rfl) (by kernel_rfl) (fun _ _ _ h => h) (.inl ⟨by rfl, fun w' _ => (by go_simp; rfl)⟩) hS ?_
                go_frame
                refine till_done (by kernel_rfl) ?_ _
                clear hS
                go_wp2_with fail
                go_roundw
                case rel => exact ⟨i + 1, by go_num, Nat.succ_le_of_lt HLT.out, CW7⟩
                case measure => have hh : i < nB := HLT.out; simp [intOf]; omega
              · obtain rfl : i = 0 := by omega
                have hS : w6.drew.cell? ⟨R, 0, none⟩ = some (.string (bs k)) ∧ w6.drew.cell? ⟨R, 1, none⟩ = some (.string (bs v)) := ⟨r0, r1⟩
                have CW7 := Lib.hid CW6.out.drew
                clear HG HB56 HX6 CW CW6 h0
                go_wp2_with fail
                refine wp_region_till (fun w' => w'.cell? ⟨R, 0, none⟩ = some (.string (bs k)) ∧ w'.cell? ⟨R, 1, none⟩ = some (.string (bs v))) 23 23 (by kernel_rfl) rfl ?_
                refine till_take 0 (some 79) rfl rfl (by kernel_rfl) (by kernel_rfl) (by kernel_rfl) (by kernel_rfl) (by kernel_rfl) (by kernel_rfl) (fun _ _ _ h => h) (.inl ⟨by rfl, fun w' _ => (by go_simp; rfl)⟩) hS ?_
                go_frame
                refine till_take 1 (some 80) rfl rfl (by kernel_rfl) (by kernel_rfl) (by kernel_rfl) (by kernel_rfl) (by kernel_rfl) (by kernel_rfl) (fun _ _ _ h => h) (.inl ⟨by rfl, fun w' _ => (by go_simp; rfl)⟩) hS ?_
                go_frame
                refine till_take 2 (some 81) rfl rfl (by kernel_rfl) (by kernel_rfl) (by kernel_rfl) (by kernel_rfl) (by kernel_rfl) (by kernel_rfl) (fun _ _ _ h => h) (.inl ⟨by rfl, fun w' _ => (by go_simp; rfl)⟩) hS ?_
                go_frame
                refine till_take 3 (some 82) rfl rfl (by kernel_rfl) (by kernel_rfl) (by kernel_rfl) (by kernel_rfl) (by kernel_rfl) (by kernel_rfl) (fun _ _ _ h => h) (.inl ⟨by rfl, fun w' _ => (by go_simp; rfl)⟩) hS ?_
                go_frame
                refine till_take 4 (some 83) rfl rfl (by kernel_rfl) (by kernel_rfl) (by kernel_rfl) (by kernel_rfl) (by kernel_rfl) (by kernel_rfl) (fun _ _ _ h => h) (.inl ⟨by rfl, fun w' _ => (by go_simp; rfl)⟩) hS ?_
                go_frame
                refine till_take 5 (some 84) rfl rfl (by kernel_rfl) (by kernel_rfl) (by kernel_rfl) (by kernel_rfl) (by kernel_rfl) (by kernel_rfl) (fun _ _ _ h => h) (.inl ⟨by rfl, fun w' hS' => (by obtain ⟨hc1, hc2⟩ := hS'; go_simp; rfl)⟩) hS ?_
                go_frame
                refine till_take 6 (some 85) rfl rfl (by kernel_rfl) (by kernel_rfl) (by kernel_rfl) (by kernel_rfl) (by kernel_rfl) (by kernel_rfl) (fun _ _ _ h => h) (.inl ⟨by rfl, fun w' _ => (by go_simp; rfl)⟩) hS ?_
                go_frame
                refine till_take 7 (some 86) rfl rfl (by kernel_rfl) (by kernel_rfl) (by kernel_rfl) (by kernel_rfl) (by kernel_rfl) (by kernel_rfl) (fun _ _ _ h => h) (.inl ⟨by rfl, fun w' _ => (by go_simp; rfl)⟩) hS ?_
                go_frame
                refine till_take 8 (some 87) rfl rfl (by kernel_rfl) (by kernel_rfl) (by kernel_rfl) (by kernel_rfl) (by kernel_rfl) (by kernel_rfl) (fun _ _ _ h => h) (.inl ⟨by rfl, fun w' _ => (by go_simp; rfl)⟩) hS ?_
                go_frame
                refine till_take 9 (some 88) rfl rfl (by kernel_rfl) (by kernel_rfl) (by kernel_rfl) (by kernel_rfl) (by kernel_rfl) (by kernel_rfl) (fun _ _ _ h => h) (.inl ⟨by rfl, fun w' _ => (by go_simp; rfl)⟩) hS ?_
                go_frame
                refine till_take 10 (some 89) rfl rfl (by kernel_rfl) (by kernel_rfl) (by kernel_rfl) (by kernel_rfl) (by kernel_rfl) (by kernel_rfl) (fun _ _ _ h => h) (.inl ⟨by rfl, fun w' _ => (by go_simp; rfl)⟩) hS ?_
                go_frame
                refine till_take 11 (some 90) rfl rfl (by kernel_rfl) (by kernel_rfl) (by kernel_rfl) (by kernel_rfl) (by kernel_rfl) (by kernel_rfl) (fun _ _ _ h => h) (.inl ⟨by rfl, fun w' _ => (by go_simp; rfl)⟩) hS ?_
                go_frame
                refine till_take 12 (some 91) rfl rfl (by kernel_rfl) (by kernel_rfl) (by kernel_rfl) (by kernel_rfl) (by kernel_rfl) (by kernel_rfl) (fun _ _ _ h => h) (.inr ⟨by rfl, rfl⟩) hS ?_
                go_frame
                refine till_take 13 (some 92) rfl rfl (by kernel_rfl) (by kernel_rfl) (by kernel_rfl) (by kernel_rfl) (by kernel_rfl) (by kernel_rfl) (fun _ _ _ h => h) (.inr ⟨by rfl, rfl⟩) hS ?_
                go_frame
                refine till_take 14 (some 93) rfl rfl (by kernel_rfl) (by kernel_rfl) (by kernel_rfl) (by kernel_rfl) (by kernel_rfl) (by kernel_rfl) (fun _ _ _ h => h) (.inr ⟨by rfl, rfl⟩) hS ?_
                go_frame
                refine till_take 15 (some 94) rfl rfl (by kernel_rfl) (by kernel_rfl) (by kernel_rfl) (by kernel_rfl) (by kernel_rfl) (by kernel_rfl) (fun _ _ _ h => h) (.inr ⟨by rfl, rfl⟩) hS ?_
                go_frame
                refine till_take 16 (some 95) rfl rfl (by kernel_rfl) (by kernel_rfl) (by kernel_rfl) (by kernel_rfl) (by kernel_rfl) (by kernel_rfl) (fun _ _ _ h => h) (.inr ⟨by rfl, rfl⟩) hS ?_
                go_frame
                refine till_take 17 (some 96) rfl rfl (by kernel_rfl) (by kernel_rfl) (by kernel_rfl) (by kernel_rfl) (by kernel_rfl) (by kernel_rfl) (fun _ _ _ h => h) (.inr ⟨by rfl, rfl⟩) hS ?_
                go_frame
                refine till_take 18 (some 97) rfl rfl (by kernel_rfl) (by kernel_rfl) (by kernel_rfl) (by kernel_rfl) (by kernel_rfl) (by kernel_rfl) (fun _ _ _ h => h) (.inr ⟨by rfl, rfl⟩) hS ?_
                go_frame
                refine till_take 19 (some 98) rfl rfl (by kernel_rfl) (by kernel_rfl) (by kernel_rfl) (by kernel_rfl) (by kernel_rfl) (by kernel_rfl) (fun _ _ _ h => h) (.inr ⟨by rfl, rfl⟩) hS ?_
                go_frame
                refine till_take 20 (some 99) rfl rfl (by kernel_rfl) (by kernel_rfl) (by kernel_rfl) (by kernel_rfl) (by kernel_rfl) (by kernel_rfl) (fun _ _ _ h => h) (.inr ⟨by rfl, rfl⟩) hS ?_
                go_frame
                refine till_take 21 (some 100) rfl rfl (by kernel_rfl) (by kernel_rfl) (by kernel_rfl) (by kernel_rfl) (by kernel_rfl) (by kernel_rfl) (fun _ _ _ h => h) (.inl ⟨by rfl, fun w' _ => (by go_simp; rfl)⟩) hS ?_
                go_frame
                refine till_take 22 (some 101) rfl rfl (by kernel_rfl) (by kernel_rfl) (by kernel_rfl) (by kernel_rfl) (by kernel_rfl) (by kernel_rfl) (fun _ _ _ h => h) (.inl ⟨by rfl, fun w' _ => (by go_simp; rfl)⟩) hS ?_
                go_frame
                refine till_done (by kernel_rfl) ?_ _
                clear hS
                go_wp2_with fail
                go_roundw
                case rel => exact ⟨1, by go_num, Nat.succ_le_of_lt HLT.out, CW7⟩
                case measure => have hh : 0 < nB := HLT.out; simp [intOf]; omega
            · obtain ⟨wn, hwn⟩ : ∃ wn, wn = wr := ⟨_, rfl⟩
              subst hwn
              have PN := Lib.hid (PB.out.later CW.out); have KN := Lib.hid (KB.out.then_below CW.out)
              clear PB CW KB
              have hund := HE.out.undo
              rw [← HNP.out] at hund
              have HU := Lib.hid hund
              clear hund
              go_wp2_with fail
              clear hlt
              have hu := sundo_any PN.out (by have := HSZ2.out; omega) (nP : Int)
              rw [HU.out.1, HU.out.2] at hu
              refine hu.mono ?_
              rintro e wU ⟨rfl, F3, p5, p6, p7⟩
              have KU : Hid (Keep (· ∈ F1) wA wU) := Lib.hid (KN.out.trans (p6.mono fun x _ hx => P4.out x hx))
              have PU := Lib.hid p5
              clear hu p5 p6 p7
              go_wp2_with fail
              refine (sall_any PU.out (by have := HSZ.out; omega)).mono ?_
              rintro e wC ⟨vC, rfl, hlC, hbC, _⟩
              have KC := Lib.hid (KU.out.then_below hbC); have PC := Lib.hid (PU.out.later hbC); have LC := Lib.hid hlC
              clear hlC hbC
              go_wp2_with fail
              have hla : LO wC 48 pairE 2 (.slice adA nA capA) s.t := LA.out.keep KC.out fun k e hF => by
                have h5 := NA.out k e
                have h6 := FL.out k hF
                omega
              have hsm := rsame_any (LC.out.rd pairE_len) (hla.rd pairE_len) (by have := HSZ.out; omega) (by have := HSZ.out; omega)
              rw [decide_eq_true rfl] at hsm
              refine hsm.mono ?_
              rintro e wD ⟨rfl, hbD⟩
              have KE := Lib.hid (KC.out.then_below hbD); have PE := Lib.hid (PC.out.later hbD)
              clear hsm hla hbD
              go_wp2_with fail
              refine (smark_any PE.out).mono ?_
              rw [← HNP.out]
              rintro e w8 ⟨rfl, rfl⟩
              go_wp2_with fail
              refine (slen_any PE.out).mono ?_
              rw [← HNA.out]
              rintro e w8 ⟨rfl, rfl⟩
              go_wp2_with fail
              refine (lives_any _).mono ?_
              rintro e wE ⟨rfl, hbE⟩
              have BE : Hid (Below w.heap.size w wE) := Lib.hid (BA.out.trans ((KE.out.then_below hbE).below (B := w.heap.size) (fun x hx hF => by have := P2.out x hF; omega) BA.out.size))
              clear hbE
              go_wp2_with fail
              go_ret
              exact ⟨rfl, BE.out⟩
end Go.Proofs.Ytggcmaegmkjedaa
