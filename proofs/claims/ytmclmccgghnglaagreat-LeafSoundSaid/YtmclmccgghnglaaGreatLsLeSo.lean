/- tallagelaw16.LeafSound: its walk. -/
import Derived.Test.YtmclmccgghnglaaGreatLs26
import Derived.Test.YtmclmccgghnglaaGreatLs24
import Derived.Test.YtmclmccgghnglaaGreatLs18
import Derived.Test.YtmclmccgghnglaaGreatLsUnZ
namespace Go.Proofs.YtmclmccgghnglaaGreat
open Go.RowKit

/-- What stands while the law runs. -/
structure SSt (w : World) (P H g : Nat) (a : Option Nat) (texts : List (List UInt8)) (cl : Array Value) (rt : List UInt8) (vs : Value) (s : List LRow) (wr : World) : Prop where
  below : Below w.heap.size w wr
  own : Own wr w.heap.size 57 rowE 6 vs s
  cl : wr.heap[P]? = some (.cells cl 45 (0, 0))
  hs : wr.heap[H]? = some (.cells (c8 rt) 36 (0, 0))
  tr : Tr wr g a texts
theorem SSt.later {w : World} {P H g : Nat} {a : Option Nat} {texts : List (List UInt8)} {cl : Array Value} {rt : List UInt8} {vs : Value} {s : List LRow} {wr w2 : World} (h : SSt w P H g a texts cl rt vs s wr) (hb : Below wr.heap.size wr w2) : SSt w P H g a texts cl rt vs s w2 :=
  ⟨h.below.trans (hb.mono h.below.size), h.own.later hb, below_at2 hb h.cl, below_at2 hb h.hs, h.tr.later hb⟩
theorem tr_newZ {w : World} {g : Nat} (h : w.heap[g]? = some (.cells #[.slice none 0 0] 28 (0, 0))) : Tr w g none [] :=
  ⟨.slice none 0 0, [], h, Own.nil _ _ _ _ _, rfl, rfl, fun i u l h1 _ => by simp at h1⟩
theorem notesSm {k : Nat} {l : List (List UInt8)} (hf : Fair l) : ∀ t ∈ notesF k l, t.length < 1099511627776 := by
  have h32 : ∀ (g : List (List UInt8)), All32 g → ∀ i, (g.getD i []).length ≤ 32 := fun g h i => by
    rcases Nat.lt_or_ge i g.length with c | c
    · rw [getD_32 h i c]; exact Nat.le_refl _
    · rw [List.getD_eq_getElem?_getD, List.getElem?_eq_none c]; simp
  intro t ht
  unfold notesF at ht
  rw [List.mem_append] at ht
  rcases ht with ht | ht
  · unfold groundT at ht
    obtain ⟨i, _, rfl⟩ := List.mem_map.1 ht
    unfold leafT
    rw [List.length_cons]
    rcases Nat.lt_or_ge i l.length with c | c
    · rw [List.getD_eq_getElem?_getD, List.getElem?_eq_getElem c]
      have := hf _ (List.getElem_mem c)
      simp only [Option.getD_some]; omega
    · rw [List.getD_eq_getElem?_getD, List.getElem?_eq_none c]; simp
  · obtain ⟨j, _, hx⟩ := List.mem_flatMap.1 ht
    unfold upT at hx
    obtain ⟨i, _, rfl⟩ := List.mem_map.1 hx
    unfold nodeT
    rw [List.length_cons, List.length_append]
    have hg := rowAt_32 k (groundF k (depthF l.length) l) (groundF_32 _ _ _) j
    have h1 := h32 _ hg (2 * i); have h2 := h32 _ hg (2 * i + 1)
    omega
theorem checkSm {k : Int} {leaf : List UInt8} (hl : leaf.length ≤ 500) (i : Int) {p : List (List UInt8)} (h32 : All32 p) : ∀ t ∈ checkNt k leaf i p, t.length < 1099511627776 := by
  intro t ht
  unfold checkNt at ht
  split at ht
  · rcases List.mem_append.1 ht with h | h
    · unfold leafN at h
      split at h
      · rw [List.mem_singleton.1 h]; show leaf.length + 1 < _; omega
      · simp at h
    · have key : ∀ m, ∀ t ∈ foldNt k (leafK k leaf) i.toNat p m, t.length < 1099511627776 := by
        intro m
        induction m with
        | zero => intro t ht; simp [foldNt] at ht
        | succ m ih =>
          intro t ht
          rw [foldNt, List.mem_append] at ht
          rcases ht with h | h
          · exact ih t h
          · have h1 := foldAt_length k (leafK k leaf) (leafK_length _ _) i.toNat p m
            have h2 := hAt_length h32 m
            unfold stepN nodeN at h
            split at h <;> split at h
            · rw [List.mem_singleton.1 h]; unfold nodeT; rw [List.length_cons, List.length_append]; omega
            · simp at h
            · rw [List.mem_singleton.1 h]; unfold nodeT; rw [List.length_cons, List.length_append]; omega
            · simp at h
      exact key _ t h
  · simp at ht
theorem openSm {c : CCl} (hc : COk c) (root : List UInt8) : ∀ t ∈ openN c root, t.length < 1099511627776 := by
  intro t ht
  unfold openN at ht
  split at ht
  · simp at ht
  · rw [List.mem_append] at ht
    rcases ht with ht | ht
    · exact checkSm (by have := earL_len hc.2.1 hc.1; omega) _ hc.2.2.2.1 t ht
    · split at ht
      · have hL : ∀ (l : List CLf), (∀ x ∈ l, x ∈ c.lv) → ∀ t ∈ openLN c.h l, t.length < 1099511627776 := fun l => by
          induction l with
          | nil => intro _ t h; simp [openLN] at h
          | cons x xs ih =>
            intro hx t h
            rw [openLN_cons, List.mem_append] at h
            rcases h with h | h
            · have hx5 := hc.2.2.2.2 x (hx x (by simp))
              exact checkSm (by have := tokL_len (m := x.m) hx5.1; omega) _ hx5.2.2.2 t h
            · split at h
              · exact ih (fun y hy => hx y (by simp [hy])) t h
              · simp at h
        exact hL c.lv (fun x h => h) t ht
      · simp at ht
theorem notesTSm {l s : List LRow} (h : sortedF l = some s) (hok : ∀ r ∈ l, ROk r) : ∀ t ∈ notesT s, t.length < 1099511627776 := by
  have hso := sort_ok h hok
  intro t ht
  unfold notesT notesH at ht
  rw [List.mem_append, List.mem_flatMap] at ht
  rcases ht with ⟨e, _, ht⟩ | ht
  · exact notesSm (fair_leaves fun y hy => hso.1 y (ownR_mem.1 hy).1) t ht
  · exact notesSm (fair_table hso.1) t ht
theorem notesF_40 (k : Nat) {l : List (List UInt8)} (h : l.length ≤ 64) : (notesF k l).length ≤ 448 := by
  have h1 := notesFu_len k l
  have h2 := depthF_le l.length 6 h
  have h3 : 2 ^ depthF l.length ≤ 2 ^ 6 := Nat.pow_le_pow_right (by omega) h2
  have h4 : 2 ^ depthF l.length * (1 + depthF l.length) ≤ 2 ^ 6 * 7 := Nat.mul_le_mul h3 (by omega)
  omega
theorem notesH_40 (s : List LRow) (hs : s.length ≤ 64) (H : List Int) : (notesH s H).length ≤ 448 * H.length := by
  induction H with
  | nil => exact Nat.zero_le _
  | cons e H ih =>
    have h1 : notesH s (e :: H) = notesF 2 (leavesG (ownR s e)) ++ notesH s H := by unfold notesH; rw [List.flatMap_cons]
    have h2 := notesF_40 2 (l := leavesG (ownR s e)) (by rw [leavesG_len]; have := ownR_len s e; omega)
    rw [h1, List.length_append, List.length_cons]; omega
theorem notesT_len {s : List LRow} (hs : s.length ≤ 40) : (notesT s).length < 100000 := by
  unfold notesT
  rw [List.length_append]
  have h1 := notesH_40 s (by omega) ((groupsF s).map (·.1))
  have h2 := (groupsF_mem s).1
  have h3 := notesF_40 1 (l := tableL s) (by rw [tableL_len]; omega)
  rw [List.length_map] at h1
  omega
theorem openLN_len (h : List UInt8) (l : List CLf) : (openLN h l).length ≤ 12 * l.length := by
  induction l with
  | nil => simp [openLN]
  | cons x xs ih =>
    rw [openLN_cons, List.length_append, List.length_cons]
    have h1 : (leafNt x).length ≤ 12 := checkNt_le _ _ _ _
    split
    · omega
    · simp; omega
theorem openN_len (c : CCl) (root : List UInt8) : (openN c root).length ≤ 108 := by
  unfold openN
  split
  · simp
  · rename_i hn
    rw [List.length_append]
    have h1 := checkNt_le 1 (earL c.e c.h) c.idx c.p
    have h2 := openLN_len c.h c.lv
    split
    · omega
    · simp; omega
theorem ownR_take_len {s : List LRow} (e : Int) (i : Nat) (h : i < s.length) : (ownR (s.take (i + 1)) e).length = (ownR (s.take i) e).length + if s[i].e = e then 1 else 0 := by
  rw [ownR_take e i h, List.length_append]
  congr 1
  split <;> rfl
/-- Is one of the first k rows this leaf's? -/
def fnd (s : List LRow) (e : Int) (x : CLf) (k : Nat) : Bool := decide (∃ r ∈ s.take k, r.e = e ∧ r.t = x.t ∧ r.m = x.m)
theorem fnd_zero (s : List LRow) (e : Int) (x : CLf) : fnd s e x 0 = false := by unfold fnd; simp
theorem fnd_succ {s : List LRow} (e : Int) (x : CLf) {k : Nat} (h : k < s.length) : fnd s e x (k + 1) = (fnd s e x k || decide (s[k].e = e ∧ s[k].t = x.t ∧ s[k].m = x.m)) := by
  unfold fnd
  rw [List.take_succ_eq_append_getElem h]
  by_cases h1 : ∃ r ∈ s.take k, r.e = e ∧ r.t = x.t ∧ r.m = x.m
  · rw [decide_eq_true h1, Bool.true_or]
    obtain ⟨r, hr, h2⟩ := h1
    exact decide_eq_true ⟨r, List.mem_append_left _ hr, h2⟩
  · rw [decide_eq_false h1, Bool.false_or]
    by_cases h2 : s[k].e = e ∧ s[k].t = x.t ∧ s[k].m = x.m
    · rw [decide_eq_true h2]; exact decide_eq_true ⟨s[k], List.mem_append_right _ (by simp), h2⟩
    · rw [decide_eq_false h2]
      refine decide_eq_false ?_
      rintro ⟨r, hr, h3⟩
      rw [List.mem_append, List.mem_singleton] at hr
      rcases hr with hr | rfl
      · exact h1 ⟨r, hr, h3⟩
      · exact h2 h3
theorem fnd_succ2 {s : List LRow} (e : Int) (x : CLf) {t : Int} {m : Nat} (ht : x.t = t) (hm : x.m = m) {k : Nat} (h : k < s.length) : fnd s e x (k + 1) = (fnd s e x k || decide (s[k].e = e ∧ s[k].t = t ∧ s[k].m = m)) := by
  subst ht hm
  exact fnd_succ e x h
/-- Are the first i leaves all there? -/
def rgt (s : List LRow) (e : Int) (l : List CLf) (i : Nat) : Bool := (l.take i).all fun x => fnd s e x s.length
theorem rgt_succ {s : List LRow} (e : Int) {l : List CLf} {i : Nat} (h : i < l.length) : rgt s e l (i + 1) = (rgt s e l i && fnd s e l[i] s.length) := by
  unfold rgt
  rw [List.take_succ_eq_append_getElem h, List.all_append]
  simp
theorem rgt_all {s : List LRow} {e : Int} {l : List CLf} (h : ∀ x ∈ l, ∃ r ∈ s, r.e = e ∧ r.t = x.t ∧ r.m = x.m) : rgt s e l l.length = true := by
  unfold rgt
  rw [List.take_length, List.all_eq_true]
  intro x hx
  unfold fnd
  rw [List.take_length]
  exact decide_eq_true (h x hx)
set_option maxHeartbeats 16000000 in
set_option maxRecDepth 100000 in
theorem lsound_any (w : World) (v vc : Value) (l : List LRow) (c : CCl) (hr : Rd w rowE 6 v l) (hok : ∀ r ∈ l, ROk r) (hlen : l.length ≤ 2932031007317) (hc : ClAt w vc c) (hcok : COk c) :
    Calls Tryz.prog 4 #[v, vc] w (Ret w (.bool true)) := by
  obtain ⟨lad, lcap, rfl, _, _⟩ := hr.shape
  obtain ⟨n, hn⟩ : ∃ k, k = l.length := ⟨_, rfl⟩
  rw [← hn] at hr ⊢
  obtain ⟨⟨pa, pn, pc⟩, ⟨la, ln, lc⟩, rfl, hp, xs, hxl, hlv, hpr⟩ := hc
  obtain ⟨crt, cix, ce, ch, cp, clv, cto⟩ := c
  have hln : ln = xs.length := hlv.size
  have hpl : pn = cp.length := hp.size
  have hll : clv.length = xs.length := by rw [← show xs.map (·.1) = clv from hxl, List.length_map]
  have HCA := Lib.hid (show ∀ W, Below w.heap.size w W → ClAt W (.agg (clC crt cix ce ch (pa, pn, pc) (la, ln, lc) cto)) ⟨crt, cix, ce, ch, cp, clv, cto⟩ from fun W h => ⟨(pa, pn, pc), (la, ln, lc), rfl, hp.later h, xs, hxl, hlv.later h, fun x hx => (hpr x hx).later h⟩)
  have HP := Lib.hid (show Rd w hE 32 (.slice pa pn pc) cp from hp); have HLV := Lib.hid (show Rd w lfE 7 (.slice la ln lc) xs from hlv); have HPR := Lib.hid hpr; have HXL := Lib.hid (show xs.map (·.1) = clv from hxl); have HCOK := Lib.hid hcok
  have HLN := Lib.hid (show ln = xs.length ∧ clv.length = xs.length ∧ pn = cp.length from ⟨hln, hll, hpl⟩)
  have HCH := Lib.hid (show ch.length = 32 from hcok.1)
  have HR := Lib.hid hr; have HOK := Lib.hid hok; have HN := Lib.hid hn; have HNM := Lib.hid (show n ≤ 2932031007317 by omega)
  have hl0 : 0 ≤ (ln : Int) := by omega
  clear hp hlv hpr hxl hcok hln hpl hll hr hok hlen hn
  obtain ⟨w1, hw1⟩ : ∃ w1, w1 = w.alloc (.cells (clC crt cix ce ch (pa, pn, pc) (la, ln, lc) cto) 45) := ⟨_, rfl⟩
  obtain ⟨P, hP⟩ : ∃ P, P = w.heap.size := ⟨_, rfl⟩
  have hP1 : w1.heap[P]? = some (.cells (clC crt cix ce ch (pa, pn, pc) (la, ln, lc) cto) 45 (0, 0)) := by rw [hw1, hP]; exact heap_alloc_new _ _
  have hb1 : Below w.heap.size w w1 := by rw [hw1]; exact (Below.refl _ _).alloc (Nat.le_refl _) _
  have HP1 := Lib.hid hP1; have HB1 := Lib.hid hb1; have HW1 := Lib.hid hw1; have HPE := Lib.hid hP
  clear hP1 hb1 hw1 hP
  go_enter Tryz.func4, Tryz.ntmps4
  go_wp2_with fail
  rw [← HW1.out, ← HPE.out]
  refine (plain2_any w1 _ n lcap l (HR.out.later HB1.out) HNM.out).mono ?_
  rintro e w2 ⟨v2, rfl, ho2, hb2⟩
  obtain ⟨ad2, cap2, rfl, _, _⟩ := (ho2.rd rowE_len).shape
  rw [← HN.out] at ho2 ⊢
  have HP2 := Lib.hid (below_at2 hb2 HP1.out); have HB2 := Lib.hid (HB1.out.trans (hb2.mono HB1.out.size)); have HO2 := Lib.hid ho2
  clear ho2 hb2
  go_wp2_with fail
  refine (rsorted2_any w2 _ n cap2 l (HO2.out.rd rowE_len) HOK.out).mono ?_
  rintro e w3 ⟨hb3, ⟨hF, rfl⟩ | ⟨v3, s, hF, rfl, ho3⟩⟩
  · have HB3 := Lib.hid (HB2.out.trans (hb3.mono HB2.out.size))
    clear hb3 hF HB1 HB2 HP1 HP2 HO2
    go_wp2_with fail
    refine (lives16_any _).mono ?_
    rintro e wl ⟨rfl, hbl⟩
    have HBl := Lib.hid (HB3.out.trans (hbl.mono HB3.out.size))
    clear hbl
    go_wp2_with fail
    go_ret
    exact ⟨rfl, HBl.out⟩
  · obtain ⟨ad3, cap3, rfl, _, _⟩ := (ho3.rd rowE_len).shape
    have hso := sort_ok hF HOK.out
    have hsl := (sortedF_mem hF).2.2.2
    obtain ⟨m, hm⟩ : ∃ m, m = s.length := ⟨_, rfl⟩
    rw [← hm] at ho3 ⊢
    have HP3 := Lib.hid (below_at2 hb3 HP2.out); have HB3 := Lib.hid (HB2.out.trans (hb3.mono HB2.out.size)); have HF := Lib.hid hF; have HO3 := Lib.hid (ho3.mono HB2.out.size); have HSO := Lib.hid hso; have HM := Lib.hid (show m = s.length ∧ m = n ∧ m ≤ 1024 by have := HN.out; have := hso.2.2; omega)
    clear hb3 hF ho3 hso hsl hm HB1 HB2 HP1 HP2 HO2
    have c2 : w3.cell? ⟨P, 2, none⟩ = some (.int .i64 ce) := (Lib.cell_of_heap HP3.out 2).trans (clC_2 _ _ _ _ _ _ _)
    have c35 : w3.cell? ⟨P, 35, none⟩ = some (.slice pa pn pc) := (Lib.cell_of_heap HP3.out 35).trans (clC_35 _ _ _ HCH.out _ _ _)
    have c36 : w3.cell? ⟨P, 36, none⟩ = some (.slice la ln lc) := (Lib.cell_of_heap HP3.out 36).trans (clC_36 _ _ _ HCH.out _ _ _)
    by_cases t1 : 40 < n
    · go_wp2_with fail
      refine (lives16_any _).mono ?_
      rintro e wl ⟨rfl, hbl⟩
      have HBl := Lib.hid (HB3.out.trans (hbl.mono HB3.out.size))
      clear hbl
      go_wp2_with fail
      go_ret
      exact ⟨rfl, HBl.out⟩
    by_cases t2 : 20 < pn
    · have t1' : decide (40 < (n : Int)) = false := decide_eq_false (by omega)
      go_wp2_with fail
      refine (lives16_any _).mono ?_
      rintro e wl ⟨rfl, hbl⟩
      have HBl := Lib.hid (HB3.out.trans (hbl.mono HB3.out.size))
      clear hbl
      go_wp2_with fail
      go_ret
      exact ⟨rfl, HBl.out⟩
    by_cases t3 : 8 < ln
    · have t1' : decide (40 < (n : Int)) = false := decide_eq_false (by omega)
      have t2' : decide (20 < (pn : Int)) = false := decide_eq_false (by omega)
      go_wp2_with fail
      refine (lives16_any _).mono ?_
      rintro e wl ⟨rfl, hbl⟩
      have HBl := Lib.hid (HB3.out.trans (hbl.mono HB3.out.size))
      clear hbl
      go_wp2_with fail
      go_ret
      exact ⟨rfl, HBl.out⟩
    by_cases t4 : ce < 0
    · have t1' : decide (40 < (n : Int)) = false := decide_eq_false (by omega)
      have t2' : decide (20 < (pn : Int)) = false := decide_eq_false (by omega)
      have t3' : decide (8 < (ln : Int)) = false := decide_eq_false (by omega)
      have t4' : decide (ce < 0) = true := decide_eq_true t4
      go_wp2_with fail
      refine (lives16_any _).mono ?_
      rintro e wl ⟨rfl, hbl⟩
      have HBl := Lib.hid (HB3.out.trans (hbl.mono HB3.out.size))
      clear hbl
      go_wp2_with fail
      go_ret
      exact ⟨rfl, HBl.out⟩
    have t1' : decide (40 < (n : Int)) = false := decide_eq_false (by omega)
    have t2' : decide (20 < (pn : Int)) = false := decide_eq_false (by omega)
    have t3' : decide (8 < (ln : Int)) = false := decide_eq_false (by omega)
    have t4' : decide (ce < 0) = false := decide_eq_false t4
    have HCE := Lib.hid (show 0 ≤ ce by omega)
    have ln8 : ln ≤ 8 := by omega
    have HNL := Lib.hid (show n < 1000000000 by omega)
    have NTL := Lib.hid (notesT_len (s := s) (by have := HM.out; omega))
    go_wp2_with fail
    clear c2 c35 c36 t1 t2 t3 t4 t1' t2' t3' t4'
    obtain ⟨w4, hw4⟩ : ∃ z, z = w3.alloc (.cells #[.slice none 0 0] 28) := ⟨_, rfl⟩
    obtain ⟨g, hg⟩ : ∃ g, g = w3.heap.size := ⟨_, rfl⟩
    rw [← hw4, ← hg]
    have hb4 : Below w3.heap.size w3 w4 := by rw [hw4]; exact (Below.refl _ _).alloc (Nat.le_refl _) _
    have HT4 := Lib.hid (show Tr w4 g none [] from tr_newZ (by rw [hw4, hg]; exact heap_alloc_new _ _))
    have HGW := Lib.hid (show w.heap.size ≤ g by rw [hg]; exact HB3.out.size)
    have HP4 := Lib.hid (below_at2 hb4 HP3.out); have HB4 := Lib.hid (HB3.out.trans (hb4.mono HB3.out.size)); have HO4 := Lib.hid (HO3.out.later hb4)
    clear hw4 hg hb4 HP3 HB3 HO3
    refine (plain_any w4 _ n lcap l (HR.out.later HB4.out) HNL.out).mono ?_
    rintro e w5 ⟨v5, rfl, ho5, hb5⟩
    obtain ⟨ad5, cap5, rfl, _, _⟩ := (ho5.rd rowE_len).shape
    rw [← HN.out] at ho5 ⊢
    have HT5 := Lib.hid (HT4.out.later hb5); have HP5 := Lib.hid (below_at2 hb5 HP4.out); have HB5 := Lib.hid (HB4.out.trans (hb5.mono HB4.out.size)); have HO5 := Lib.hid (HO4.out.later hb5); have HQ5 := Lib.hid ho5
    clear ho5 hb5 HT4 HP4 HB4 HO4
    go_wp2_with fail
    refine (rroot_any w5 g none [] _ n cap5 l (fun w' a' hgr => (own_grew HQ5.out HT5.out hgr (by decide)).rd rowE_len) HOK.out HNL.out HT5.out (by simp)).mono ?_
    rw [List.nil_append, rootNt_some HF.out]
    obtain ⟨rt, hrt⟩ : ∃ x, x = (rootT l).1 := ⟨_, rfl⟩
    rw [← hrt]
    have H32 := Lib.hid (show rt.length = 32 by rw [hrt]; exact rootT_32 l)
    have HRT := Lib.hid hrt
    clear hrt
    rintro e w6 ⟨rfl, a6, ht6, hg6⟩
    have HT6 := Lib.hid ht6; have HP6 := Lib.hid (tr_other HT5.out hg6 HP5.out (by decide)); have HO6 := Lib.hid (own_grew HO5.out HT5.out hg6 (by decide))
    have HB6 := Lib.hid (HB5.out.trans (hg6.below HB5.out.size HGW.out (fun k hk => by cases hk)))
    have HA6 := Lib.hid (show ∀ k, a6 = some k → w.heap.size ≤ k from fun k hk => by
      rcases hg6.2 with e | ⟨x, e, hx⟩
      · rw [e] at hk; cases hk
      · rw [e] at hk; cases hk; exact Nat.le_trans HB5.out.size hx)
    clear ht6 hg6 HT5 HP5 HB5 HO5 HQ5
    go_wp2_with (refine wpList_alloc_g rfl _ rfl _ _ Tryz.zeroHash rfl ?_)
    intro H d7 hH
    go_wp2_with (refine wpList_store_row_g (t := 36) (old := cB 32 []) rfl 36 _ _ rfl H (c8 rt) rfl rfl hH.out.cells (Tryz.sizeHc rt H32.out) (by rw [c8_size, H32.out]; rfl) (c8_ones _) ?_)
    intro w7 h7 k7 z7
    have hb7 : Below w6.heap.size w6 w7 := hH.out.below.trans (k7.below (B := w6.heap.size) (fun x hx e => by have := hH.out.eq; omega) hH.out.below.size)
    have HS7 := Lib.hid (show SSt w P H g a6 (notesT s) (clC crt cix ce ch (pa, pn, pc) (la, ln, lc) cto) rt (.slice ad3 m cap3) s w7 from ⟨HB6.out.trans (hb7.mono HB6.out.size), HO6.out.later hb7, below_at2 hb7 HP6.out, h7, HT6.out.later hb7⟩)
    clear hH h7 k7 z7 hb7 HT6 HP6 HB6 HO6
    go_wp2_with fail
    go_loopw [10, 11, 64] (fun x z y wr => ∃ (i : Nat) (Hd : List Int), x = .int .i64 (Hd.length : Int) ∧ z = .int .i64 ((ownR (s.take i) ce).length : Int) ∧ y = .int .i64 i ∧ i ≤ m ∧ Hid (HeadsAt s i Hd) ∧ Hid ((ownR (s.take i) ce).length ≤ 1024) ∧ Hid (SSt w P H g a6 (notesT s) (clC crt cix ce ch (pa, pn, pc) (la, ln, lc) cto) rt (.slice ad3 m cap3) s wr)) (fun _ _ y _ => m - (intOf y).toNat)
    case atStart => exact ⟨0, [], rfl, rfl, rfl, by omega, Lib.hid (HeadsAt.zero s), Lib.hid (Nat.zero_le _), HS7⟩
    case round =>
      clear HS7
      obtain ⟨i, Hd, rfl, rfl, rfl, hin, HH, HOW, HS⟩ := hrel
      by_cases hlt : i < m
      · have hi : i < s.length := by have := HM.out; omega
        have HOL := Lib.hid (show (ownR (s.take (i + 1)) ce).length ≤ 1024 from Nat.le_trans (ownR_len _ _) (by rw [List.length_take]; exact Nat.le_trans (Nat.min_le_right _ _) (by have := HM.out; omega)))
        obtain ⟨bb, off, hbb, hbl, c0, c1, c2, c3, c4, c5⟩ := (HS.out.own.rd rowE_len).six i hi
        subst hbb
        have hsame := fun h0 he => HH.out.same hi h0 he
        have hnext := fun hne => HH.out.next (sortedF_sorted HF.out) hi hne
        have hprev : ∀ h0 : 0 < i, wr.cell? ⟨bb, off + (i - 1) * 6, none⟩ = some (.int .i64 s[i - 1].e) := fun h0 => by
          obtain ⟨b2, o2, e2, _, p0, _⟩ := (HS.out.own.rd rowE_len).six (i - 1) (by omega)
          cases e2; exact p0
        have htl := ownR_take_len ce i hi
        obtain ⟨r, hrr⟩ : ∃ r, r = s[i] := ⟨_, rfl⟩
        rw [← hrr] at c0 c1 c2 c3 c4 c5 hsame hnext htl
        obtain ⟨ow, how⟩ : ∃ q, q = (ownR (s.take i) ce).length := ⟨_, rfl⟩
        obtain ⟨hdn, hhd⟩ : ∃ q, q = Hd.length := ⟨_, rfl⟩
        rw [← how] at htl HOW ⊢
        rw [← hhd]
        have HHDL := Lib.hid (show hdn ≤ 1024 by have := HH.out.2.2; have := HM.out; omega)
        have HSAME := Lib.hid hsame; have HNEXT := Lib.hid hnext; have HHI := Lib.hid hlt; have HTL := Lib.hid htl; have HHD := Lib.hid hhd
        clear hsame hnext hrr htl how hhd
        go_wp2_with (refine wpList_alloc_g rfl _ rfl _ _ Tryz.zeroRRow rfl ?_)
        intro X d1 hX
        go_wp2_with (refine wpList_store_row_g (t := 57) (old := #[.int .i64 0, .int .i64 0, .int .u64 0, .int .u64 0, .int .u64 0, .int .u64 0]) rfl 57 _ _ rfl X #[.int .i64 r.e, .int .i64 r.t, .int .u64 (uw0 r.m), .int .u64 (uw1 r.m), .int .u64 (uw2 r.m), .int .u64 (uw3 r.m)] rfl rfl hX.out.cells Tryz.sizeRRow rfl (one_row r) ?_)
        intro w2 hxX kX zX
        clear zX
        have hbX : Below wr.heap.size wr w2 := hX.out.below.trans (kX.below (B := wr.heap.size) (fun x hx e => by have := hX.out.eq; omega) hX.out.below.size)
        have HX2 := Lib.hid hxX; have HS2 := Lib.hid (HS.out.later hbX)
        have HPREV2 := Lib.hid (show ∀ h0 : 0 < i, w2.cell? ⟨bb, off + (i - 1) * 6, none⟩ = some (.int .i64 s[i - 1].e) from fun h0 => (hbX.cell (p := ⟨bb, off + (i - 1) * 6, none⟩) hbl).trans (hprev h0))
        have q0 : w2.cell? ⟨X, 0, none⟩ = some (.int .i64 r.e) := Lib.cell_of_heap hxX 0
        clear hX hxX kX hbX HS hprev hbl c0 c1 c2 c3 c4 c5
        rcases (show i = 0 ∨ (∃ h0 : 0 < i, r.e = s[i - 1].e) ∨ (∃ h0 : 0 < i, r.e ≠ s[i - 1].e) by
          rcases Nat.eq_zero_or_pos i with h | h
          · exact .inl h
          · rcases Classical.em (r.e = s[i - 1].e) with k | k
            · exact .inr (.inl ⟨h, k⟩)
            · exact .inr (.inr ⟨h, k⟩)) with h0 | ⟨h0, he⟩ | ⟨h0, he⟩
        · have HH2 := Lib.hid (HNEXT.out (fun h => absurd h (by omega)))
          have e0 : ((i : Int) == 0) = true := by rw [h0]; rfl
          clear h0 hi HNEXT HSAME HPREV2
          have c2 : w2.cell? ⟨P, 2, none⟩ = some (.int .i64 ce) := (Lib.cell_of_heap HS2.out.cl 2).trans (clC_2 _ _ _ _ _ _ _)
          have hh1 := HHDL.out
          have hh2 := HOW.out
          have hh3 := HHI.out
          have hh4 := HM.out.2.2
          by_cases he : r.e = ce
          · have he1 : (r.e == ce) = true := by simpa using he
            have HTL2 := Lib.hid (show (ownR (s.take (i + 1)) ce).length = ow + 1 by rw [HTL.out, if_pos he])
            clear he
            go_wp2_with fail
            go_quiet (fail)
            go_wp2_with fail
            obtain ⟨w3, hwq⟩ : ∃ q, q = World.drewN w2 nq := ⟨_, rfl⟩
            have hbq : Below (World.heap w2).size w2 w3 := by rw [hwq]; exact below_drewN (Below.refl _ _) _
            rw [← hwq]
            have HS3 := Lib.hid (HS2.out.later hbq)
            clear hbq hwq q0 e0 c2 HX2 HS2 
            go_roundw
            case rel => exact ⟨i + 1, Hd ++ [r.e], by rw [List.length_append, List.length_singleton, ← HHD.out]; go_num, by rw [HTL2.out]; go_num, by go_num, by have := HHI.out; omega, HH2, HOL, HS3⟩
            case measure => have := HHI.out; simp [intOf]; omega
          · have he1 : (r.e == ce) = false := by simpa using he
            have HTL2 := Lib.hid (show (ownR (s.take (i + 1)) ce).length = ow by rw [HTL.out, if_neg he, Nat.add_zero])
            clear he
            go_wp2_with fail
            go_quiet (fail)
            go_wp2_with fail
            obtain ⟨w3, hwq⟩ : ∃ q, q = World.drewN w2 nq := ⟨_, rfl⟩
            have hbq : Below (World.heap w2).size w2 w3 := by rw [hwq]; exact below_drewN (Below.refl _ _) _
            rw [← hwq]
            have HS3 := Lib.hid (HS2.out.later hbq)
            clear hbq hwq q0 e0 c2 HX2 HS2 
            go_roundw
            case rel => exact ⟨i + 1, Hd ++ [r.e], by rw [List.length_append, List.length_singleton, ← HHD.out]; go_num, by rw [HTL2.out], by go_num, by have := HHI.out; omega, HH2, HOL, HS3⟩
            case measure => have := HHI.out; simp [intOf]; omega
        · have HH2 := Lib.hid (HSAME.out h0 he)
          have e0 : ((i : Int) == 0) = false := by simp; omega
          have p0 := HPREV2.out h0
          rw [← he] at p0
          have hwi : IntKind.i64.wrap ((i : Int) - 1) = ((i - 1 : Nat) : Int) := (IntWalk.i64_in _ (by omega)).trans (by omega)
          have hpi : i - 1 < m := by omega
          have hne : (r.e != r.e) = false := by simp
          obtain ⟨j, hj⟩ : ∃ j, j = i - 1 := ⟨_, rfl⟩
          rw [← hj] at p0 hwi hpi
          clear h0 he hi hj HNEXT HSAME HPREV2
          have c2 : w2.cell? ⟨P, 2, none⟩ = some (.int .i64 ce) := (Lib.cell_of_heap HS2.out.cl 2).trans (clC_2 _ _ _ _ _ _ _)
          have hh1 := HHDL.out
          have hh2 := HOW.out
          have hh3 := HHI.out
          have hh4 := HM.out.2.2
          by_cases he : r.e = ce
          · have he1 : (r.e == ce) = true := by simpa using he
            have HTL2 := Lib.hid (show (ownR (s.take (i + 1)) ce).length = ow + 1 by rw [HTL.out, if_pos he])
            clear he
            go_wp2_with fail
            go_quiet (fail)
            go_wp2_with fail
            obtain ⟨w3, hwq⟩ : ∃ q, q = World.drewN w2 nq := ⟨_, rfl⟩
            have hbq : Below (World.heap w2).size w2 w3 := by rw [hwq]; exact below_drewN (Below.refl _ _) _
            rw [← hwq]
            have HS3 := Lib.hid (HS2.out.later hbq)
            clear hbq hwq q0 e0 c2 HX2 HS2 p0 hwi hpi hne
            go_roundw
            case rel => exact ⟨i + 1, Hd, by rw [← HHD.out], by rw [HTL2.out]; go_num, by go_num, by have := HHI.out; omega, HH2, HOL, HS3⟩
            case measure => have := HHI.out; simp [intOf]; omega
          · have he1 : (r.e == ce) = false := by simpa using he
            have HTL2 := Lib.hid (show (ownR (s.take (i + 1)) ce).length = ow by rw [HTL.out, if_neg he, Nat.add_zero])
            clear he
            go_wp2_with fail
            go_quiet (fail)
            go_wp2_with fail
            obtain ⟨w3, hwq⟩ : ∃ q, q = World.drewN w2 nq := ⟨_, rfl⟩
            have hbq : Below (World.heap w2).size w2 w3 := by rw [hwq]; exact below_drewN (Below.refl _ _) _
            rw [← hwq]
            have HS3 := Lib.hid (HS2.out.later hbq)
            clear hbq hwq q0 e0 c2 HX2 HS2 p0 hwi hpi hne
            go_roundw
            case rel => exact ⟨i + 1, Hd, by rw [← HHD.out], by rw [HTL2.out], by go_num, by have := HHI.out; omega, HH2, HOL, HS3⟩
            case measure => have := HHI.out; simp [intOf]; omega
        · have HH2 := Lib.hid (HNEXT.out (fun _ => he))
          have e0 : ((i : Int) == 0) = false := by simp; omega
          have p0 := HPREV2.out h0
          obtain ⟨pe, hpe⟩ : ∃ q, q = s[i - 1].e := ⟨_, rfl⟩
          rw [← hpe] at p0 he
          have hwi : IntKind.i64.wrap ((i : Int) - 1) = ((i - 1 : Nat) : Int) := (IntWalk.i64_in _ (by omega)).trans (by omega)
          have hpi : i - 1 < m := by omega
          have hne : (pe != r.e) = true := by simpa using fun h => he h.symm
          obtain ⟨j, hj⟩ : ∃ j, j = i - 1 := ⟨_, rfl⟩
          rw [← hj] at p0 hwi hpi
          clear h0 he hi hj hpe HNEXT HSAME HPREV2
          have c2 : w2.cell? ⟨P, 2, none⟩ = some (.int .i64 ce) := (Lib.cell_of_heap HS2.out.cl 2).trans (clC_2 _ _ _ _ _ _ _)
          have hh1 := HHDL.out
          have hh2 := HOW.out
          have hh3 := HHI.out
          have hh4 := HM.out.2.2
          by_cases he : r.e = ce
          · have he1 : (r.e == ce) = true := by simpa using he
            have HTL2 := Lib.hid (show (ownR (s.take (i + 1)) ce).length = ow + 1 by rw [HTL.out, if_pos he])
            clear he
            go_wp2_with fail
            go_quiet (fail)
            go_wp2_with fail
            obtain ⟨w3, hwq⟩ : ∃ q, q = World.drewN w2 nq := ⟨_, rfl⟩
            have hbq : Below (World.heap w2).size w2 w3 := by rw [hwq]; exact below_drewN (Below.refl _ _) _
            rw [← hwq]
            have HS3 := Lib.hid (HS2.out.later hbq)
            clear hbq hwq q0 e0 c2 HX2 HS2 p0 hwi hpi hne
            go_roundw
            case rel => exact ⟨i + 1, Hd ++ [r.e], by rw [List.length_append, List.length_singleton, ← HHD.out]; go_num, by rw [HTL2.out]; go_num, by go_num, by have := HHI.out; omega, HH2, HOL, HS3⟩
            case measure => have := HHI.out; simp [intOf]; omega
          · have he1 : (r.e == ce) = false := by simpa using he
            have HTL2 := Lib.hid (show (ownR (s.take (i + 1)) ce).length = ow by rw [HTL.out, if_neg he, Nat.add_zero])
            clear he
            go_wp2_with fail
            go_quiet (fail)
            go_wp2_with fail
            obtain ⟨w3, hwq⟩ : ∃ q, q = World.drewN w2 nq := ⟨_, rfl⟩
            have hbq : Below (World.heap w2).size w2 w3 := by rw [hwq]; exact below_drewN (Below.refl _ _) _
            rw [← hwq]
            have HS3 := Lib.hid (HS2.out.later hbq)
            clear hbq hwq q0 e0 c2 HX2 HS2 p0 hwi hpi hne
            go_roundw
            case rel => exact ⟨i + 1, Hd ++ [r.e], by rw [List.length_append, List.length_singleton, ← HHD.out]; go_num, by rw [HTL2.out], by go_num, by have := HHI.out; omega, HH2, HOL, HS3⟩
            case measure => have := HHI.out; simp [intOf]; omega
      · have him : i = m := by omega
        have HHE := Lib.hid (show Hd.length = (tableL s).length ∧ s.take i = s by
          have h1 := HH.out
          rw [him, HM.out.1] at h1
          have h2 := HeadsAt.done (sortedF_sorted HF.out) h1
          refine ⟨by rw [h2, List.length_map, tableL_len], ?_⟩
          exact List.take_of_length_le (by rw [him, HM.out.1]; exact Nat.le_refl _))
        rw [HHE.out.1, HHE.out.2]
        rw [HHE.out.2] at HOW
        obtain ⟨TN, hTN⟩ : ∃ q, q = (tableL s).length := ⟨_, rfl⟩
        obtain ⟨ON, hON⟩ : ∃ q, q = (ownR s ce).length := ⟨_, rfl⟩
        rw [← hTN, ← hON]
        rw [← hON] at HOW
        have HTN := Lib.hid hTN; have HON := Lib.hid hON
        have HTNL := Lib.hid (show TN ≤ 1024 by rw [hTN]; exact table_1024 (by have := HM.out; omega))
        clear hTN hON HHE HH him
        have c35 : wr.cell? ⟨P, 35, none⟩ = some (.slice pa pn pc) := (Lib.cell_of_heap HS.out.cl 35).trans (clC_35 _ _ _ HCH.out _ _ _)
        go_upto_region 15 with fail
        clear c35 hlt
        obtain ⟨wz, hwz⟩ : ∃ wz, wz = wr.drew := ⟨_, rfl⟩
        have hbz : Below wr.heap.size wr wz := by rw [hwz]; exact (Below.refl _ _).drew
        have HSz := Lib.hid (HS.out.later hbz)
        clear hbz HS
        have hS := HSz.out.cl
        refine wp_region_till (fun w' => w'.heap[P]? = some (.cells (clC crt cix ce ch (pa, pn, pc) (la, ln, lc) cto) 45 (0, 0))) 6 6 (by kernel_rfl) rfl ?_
        rw [← hwz]
        clear hwz
        refine till_take 0 (some 92) rfl rfl (by kernel_rfl) (by kernel_rfl) (by kernel_rfl) (by kernel_rfl) (by kernel_rfl) (by kernel_rfl) (fun _ _ _ h => h) (.inl ⟨by rfl, fun w' _ => (by go_simp; rfl)⟩) hS ?_
        go_frame
        refine till_take 1 (some 93) rfl rfl (by kernel_rfl) (by kernel_rfl) (by kernel_rfl) (by kernel_rfl) (by kernel_rfl) (by kernel_rfl) (fun _ _ _ h => h) (.inl ⟨by rfl, fun w' hS' => (by have hc : w'.cell? ⟨P, 35, none⟩ = some (.slice pa pn pc) := (Lib.cell_of_heap hS' 35).trans (clC_35 _ _ _ HCH.out _ _ _); go_simp; rfl)⟩) hS ?_
        go_frame
        refine till_take 2 (some 94) rfl rfl (by kernel_rfl) (by kernel_rfl) (by kernel_rfl) (by kernel_rfl) (by kernel_rfl) (by kernel_rfl) (fun _ _ _ h => h) (.inl ⟨by rfl, fun w' _ => (by go_simp; rfl)⟩) hS ?_
        go_frame
        refine till_take 3 (some 95) rfl rfl (by kernel_rfl) (by kernel_rfl) (by kernel_rfl) (by kernel_rfl) (by kernel_rfl) (by kernel_rfl) (fun _ _ _ h => h) (.inl ⟨by rfl, fun w' _ => (by go_simp; rfl)⟩) hS ?_
        go_frame
        refine till_one 4 rfl (by kernel_rfl) fun K hK => ?_
        simp only [List.getElem_toArray, List.getElem_cons_succ, List.getElem_cons_zero]
        rw [if_pos (by rfl)]
        go_simp
        refine (mdepth_any (TN : Int) (by have := HTNL.out; omega) wz).mono ?_
        rintro e wy ⟨rfl, hwy⟩
        rw [show ((TN : Int)).toNat = TN from rfl]
        have hb : Below wz.heap.size wz wy := by rw [hwy]; exact Below.refl _ _
        have HSy := Lib.hid (HSz.out.later hb)
        have hSn := below_at2 hb hS
        refine hK _ _ (fun _ _ => hSn) ?_
        clear hK hS hb hwy HSz
        have hS := hSn
        clear hSn
        refine till_take 5 (some 97) rfl rfl (by kernel_rfl) (by kernel_rfl) (by kernel_rfl) (by kernel_rfl) (by kernel_rfl) (by kernel_rfl) (fun _ _ _ h => h) (.inl ⟨by rfl, fun w' _ => (by go_simp; rfl)⟩) hS ?_
        go_frame
        refine till_done (by kernel_rfl) ?_ _
        clear hS
        by_cases hpd : pn = depthF TN
        · have hpd1 : ((pn : Int) != ((depthF TN : Nat) : Int)) = false := by rw [hpd]; simp
          obtain ⟨dn, hdn⟩ : ∃ q, q = depthF TN := ⟨_, rfl⟩
          have HPD := Lib.hid (show pn = dn by rw [hdn]; exact hpd)
          rw [← hdn] at hpd1 ⊢
          rw [hpd1]
          have HDN := Lib.hid hdn
          clear hpd hdn
          have c36 : wy.cell? ⟨P, 36, none⟩ = some (.slice la ln lc) := (Lib.cell_of_heap HSy.out.cl 36).trans (clC_36 _ _ _ HCH.out _ _ _)
          go_wp2_with fail
          clear c36 hpd1
          go_loopw [102] (fun y wr => ∃ i : Nat, y = .int .i64 i ∧ i ≤ ln ∧ Hid (∀ x ∈ clv.take i, x.p.length = depthF ON ∧ 0 ≤ x.t) ∧ Hid (SSt w P H g a6 (notesT s) (clC crt cix ce ch (pa, pn, pc) (la, ln, lc) cto) rt (.slice ad3 m cap3) s wr)) (fun y _ => ln - (intOf y).toNat)
          case atStart => exact ⟨0, rfl, by omega, Lib.hid (fun x h => by simp at h), HSy⟩
          case round =>
            clear HSy
            obtain ⟨i, rfl, hin, HALL, HS⟩ := hrel
            by_cases hlt : i < ln
            · have hi : i < xs.length := by have := HLN.out; omega
              have hic : i < clv.length := by have := HLN.out; omega
              obtain ⟨b, off, hbb, c0, c1, c2, c3, c4, c5, c6⟩ := (HLV.out.later HS.out.below).leaf i hi
              subst hbb
              have hxc : clv[i] = xs[i].1 := by
                have := List.getElem_of_eq HXL.out.symm hic
                rw [this, List.getElem_map]
              have hpl := (HPR.out _ (List.getElem_mem hi)).size
              have htk := List.take_succ_eq_append_getElem hic
              rw [hxc] at htk
              obtain ⟨⟨⟨xi, xt, xm, xp⟩, ⟨sa, sn, sc⟩⟩, hx⟩ : ∃ x, x = xs[i] := ⟨_, rfl⟩
              rw [← hx] at c0 c1 c2 c3 c4 c5 c6 hpl htk
              simp only [] at c0 c1 c2 c3 c4 c5 hpl htk
              replace c6 : wr.cell? ⟨b, off + i * 7 + 6, none⟩ = some (.slice sa sn sc) := c6
              have HPL := Lib.hid (show sn = xp.length from hpl); have HTK := Lib.hid htk; have HHI := Lib.hid hlt
              clear hx hxc hpl htk hi hic
              go_wp2_with (refine wpList_alloc_g rfl _ rfl _ _ Tryz.zeroLf rfl ?_)
              intro L d3 hL
              go_wp2_with (refine wpList_store_row_g (t := 60) (old := lfZ) rfl 60 _ _ rfl L (lfC xi xt xm (sa, sn, sc)) rfl rfl hL.out.cells Tryz.sizeLf rfl (lfC_one _ _ _ _) ?_)
              intro w6 h6 k6 z6
              have hb6 : Below wr.heap.size wr w6 := hL.out.below.trans (k6.below (B := wr.heap.size) (fun x hx e => by have := hL.out.eq; omega) hL.out.below.size)
              have HL6 := Lib.hid h6; have HS6 := Lib.hid (HS.out.later hb6)
              clear hL h6 k6 z6 hb6 HS c0 c1 c2 c3 c4 c5 c6
              by_cases hsd : sn = depthF ON
              · by_cases hxt : xt < 0
                · have hsd1 : ((sn : Int) != ((depthF ON : Nat) : Int)) = false := by rw [hsd]; simp
                  have HSD := Lib.hid hsd
                  have HXT := Lib.hid hxt
                  have hxt1 : decide (xt < 0) = true := decide_eq_true hxt
                  obtain ⟨dn2, hdn2⟩ : ∃ q, q = depthF ON := ⟨_, rfl⟩
                  rw [← hdn2] at hsd1 hsd
                  have HD2 := Lib.hid hdn2
                  clear hsd hdn2 hxt
                  go_upto_region 20 with fail
                  obtain ⟨wz, hwz⟩ : ∃ wz, wz = w6.drew := ⟨_, rfl⟩
                  have hbz : Below w6.heap.size w6 wz := by rw [hwz]; exact (Below.refl _ _).drew
                  have HSz := Lib.hid (HS6.out.later hbz)
                  have hS := below_at2 hbz HL6.out
                  clear hbz HS6 HL6
                  refine wp_region_till (fun w' => w'.heap[L]? = some (.cells (lfC xi xt xm (sa, sn, sc)) 60 (0, 0))) 11 11 (by kernel_rfl) rfl ?_
                  rw [← hwz]
                  clear hwz
                  refine till_take 0 (some 106) rfl rfl (by kernel_rfl) (by kernel_rfl) (by kernel_rfl) (by kernel_rfl) (by kernel_rfl) (by kernel_rfl) (fun _ _ _ h => h) (.inl ⟨by rfl, fun w' _ => (by go_simp; rfl)⟩) hS ?_
                  go_frame
                  refine till_take 1 (some 107) rfl rfl (by kernel_rfl) (by kernel_rfl) (by kernel_rfl) (by kernel_rfl) (by kernel_rfl) (by kernel_rfl) (fun _ _ _ h => h) (.inl ⟨by rfl, fun w' hS' => (by have hc : w'.cell? ⟨L, 6, none⟩ = some (.slice sa sn sc) := Lib.cell_of_heap hS' 6; go_simp; rfl)⟩) hS ?_
                  go_frame
                  refine till_take 2 (some 108) rfl rfl (by kernel_rfl) (by kernel_rfl) (by kernel_rfl) (by kernel_rfl) (by kernel_rfl) (by kernel_rfl) (fun _ _ _ h => h) (.inl ⟨by rfl, fun w' _ => (by go_simp; rfl)⟩) hS ?_
                  go_frame
                  refine till_take 3 (some 109) rfl rfl (by kernel_rfl) (by kernel_rfl) (by kernel_rfl) (by kernel_rfl) (by kernel_rfl) (by kernel_rfl) (fun _ _ _ h => h) (.inl ⟨by rfl, fun w' _ => (by go_simp; rfl)⟩) hS ?_
                  go_frame
                  refine till_one 4 rfl (by kernel_rfl) fun K hK => ?_
                  simp only [List.getElem_toArray, List.getElem_cons_succ, List.getElem_cons_zero]
                  rw [if_pos (by rfl)]
                  go_simp
                  refine (tdepth_any (ON : Int) (by have := HOW.out; omega) wz).mono ?_
                  rintro e w7 ⟨rfl, hw7⟩
                  rw [show ((ON : Int)).toNat = ON from rfl, ← HD2.out]
                  have hb : Below wz.heap.size wz w7 := by rw [hw7]; exact Below.refl _ _
                  have HS7 := Lib.hid (HSz.out.later hb)
                  have hSn := below_at2 hb hS
                  refine hK _ _ (fun _ _ => hSn) ?_
                  clear hK hS hb hw7 HSz
                  have hS := hSn
                  clear hSn
                  refine till_take 5 (some 111) rfl rfl (by kernel_rfl) (by kernel_rfl) (by kernel_rfl) (by kernel_rfl) (by kernel_rfl) (by kernel_rfl) (fun _ _ _ h => h) (.inl ⟨by rfl, fun w' _ => (by go_simp; rfl)⟩) hS ?_
                  go_frame
                  refine till_take 6 (some 112) rfl rfl (by kernel_rfl) (by kernel_rfl) (by kernel_rfl) (by kernel_rfl) (by kernel_rfl) (by kernel_rfl) (fun _ _ _ h => h) (.inl ⟨by rfl, fun w' _ => (by go_simp; rfl)⟩) hS ?_
                  go_frame
                  refine till_take 7 (some 113) rfl rfl (by kernel_rfl) (by kernel_rfl) (by kernel_rfl) (by kernel_rfl) (by kernel_rfl) (by kernel_rfl) (fun _ _ _ h => h) (.inl ⟨by rfl, fun w' _ => (by go_simp; rfl)⟩) hS ?_
                  go_frame
                  refine till_take 8 (some 114) rfl rfl (by kernel_rfl) (by kernel_rfl) (by kernel_rfl) (by kernel_rfl) (by kernel_rfl) (by kernel_rfl) (fun _ _ _ h => h) (.inl ⟨by rfl, fun w' hS' => (by have hc : w'.cell? ⟨L, 1, none⟩ = some (.int .i64 xt) := Lib.cell_of_heap hS' 1; go_simp; rfl)⟩) hS ?_
                  go_frame
                  refine till_take 9 (some 115) rfl rfl (by kernel_rfl) (by kernel_rfl) (by kernel_rfl) (by kernel_rfl) (by kernel_rfl) (by kernel_rfl) (fun _ _ _ h => h) (.inl ⟨by rfl, fun w' _ => (by go_simp; rfl)⟩) hS ?_
                  go_frame
                  refine till_take 10 (some 116) rfl rfl (by kernel_rfl) (by kernel_rfl) (by kernel_rfl) (by kernel_rfl) (by kernel_rfl) (by kernel_rfl) (fun _ _ _ h => h) (.inl ⟨by rfl, fun w' _ => (by go_simp; rfl)⟩) hS ?_
                  go_frame
                  refine till_done (by kernel_rfl) ?_ _
                  clear hS
                  go_wp2_with fail
                  refine (lives16_any _).mono ?_
                  rintro e wl ⟨rfl, hbl⟩
                  have HBl := Lib.hid (HS7.out.below.trans (hbl.mono HS7.out.below.size))
                  clear hbl
                  go_wp2_with fail
                  go_ret
                  exact ⟨rfl, HBl.out⟩
                · have hsd1 : ((sn : Int) != ((depthF ON : Nat) : Int)) = false := by rw [hsd]; simp
                  have HSD := Lib.hid hsd
                  have HXT := Lib.hid (show 0 ≤ xt by omega)
                  have hxt1 : decide (xt < 0) = false := decide_eq_false hxt
                  obtain ⟨dn2, hdn2⟩ : ∃ q, q = depthF ON := ⟨_, rfl⟩
                  rw [← hdn2] at hsd1 hsd
                  have HD2 := Lib.hid hdn2
                  clear hsd hdn2 hxt
                  go_upto_region 20 with fail
                  obtain ⟨wz, hwz⟩ : ∃ wz, wz = w6.drew := ⟨_, rfl⟩
                  have hbz : Below w6.heap.size w6 wz := by rw [hwz]; exact (Below.refl _ _).drew
                  have HSz := Lib.hid (HS6.out.later hbz)
                  have hS := below_at2 hbz HL6.out
                  clear hbz HS6 HL6
                  refine wp_region_till (fun w' => w'.heap[L]? = some (.cells (lfC xi xt xm (sa, sn, sc)) 60 (0, 0))) 11 11 (by kernel_rfl) rfl ?_
                  rw [← hwz]
                  clear hwz
                  refine till_take 0 (some 106) rfl rfl (by kernel_rfl) (by kernel_rfl) (by kernel_rfl) (by kernel_rfl) (by kernel_rfl) (by kernel_rfl) (fun _ _ _ h => h) (.inl ⟨by rfl, fun w' _ => (by go_simp; rfl)⟩) hS ?_
                  go_frame
                  refine till_take 1 (some 107) rfl rfl (by kernel_rfl) (by kernel_rfl) (by kernel_rfl) (by kernel_rfl) (by kernel_rfl) (by kernel_rfl) (fun _ _ _ h => h) (.inl ⟨by rfl, fun w' hS' => (by have hc : w'.cell? ⟨L, 6, none⟩ = some (.slice sa sn sc) := Lib.cell_of_heap hS' 6; go_simp; rfl)⟩) hS ?_
                  go_frame
                  refine till_take 2 (some 108) rfl rfl (by kernel_rfl) (by kernel_rfl) (by kernel_rfl) (by kernel_rfl) (by kernel_rfl) (by kernel_rfl) (fun _ _ _ h => h) (.inl ⟨by rfl, fun w' _ => (by go_simp; rfl)⟩) hS ?_
                  go_frame
                  refine till_take 3 (some 109) rfl rfl (by kernel_rfl) (by kernel_rfl) (by kernel_rfl) (by kernel_rfl) (by kernel_rfl) (by kernel_rfl) (fun _ _ _ h => h) (.inl ⟨by rfl, fun w' _ => (by go_simp; rfl)⟩) hS ?_
                  go_frame
                  refine till_one 4 rfl (by kernel_rfl) fun K hK => ?_
                  simp only [List.getElem_toArray, List.getElem_cons_succ, List.getElem_cons_zero]
                  rw [if_pos (by rfl)]
                  go_simp
                  refine (tdepth_any (ON : Int) (by have := HOW.out; omega) wz).mono ?_
                  rintro e w7 ⟨rfl, hw7⟩
                  rw [show ((ON : Int)).toNat = ON from rfl, ← HD2.out]
                  have hb : Below wz.heap.size wz w7 := by rw [hw7]; exact Below.refl _ _
                  have HS7 := Lib.hid (HSz.out.later hb)
                  have hSn := below_at2 hb hS
                  refine hK _ _ (fun _ _ => hSn) ?_
                  clear hK hS hb hw7 HSz
                  have hS := hSn
                  clear hSn
                  refine till_take 5 (some 111) rfl rfl (by kernel_rfl) (by kernel_rfl) (by kernel_rfl) (by kernel_rfl) (by kernel_rfl) (by kernel_rfl) (fun _ _ _ h => h) (.inl ⟨by rfl, fun w' _ => (by go_simp; rfl)⟩) hS ?_
                  go_frame
                  refine till_take 6 (some 112) rfl rfl (by kernel_rfl) (by kernel_rfl) (by kernel_rfl) (by kernel_rfl) (by kernel_rfl) (by kernel_rfl) (fun _ _ _ h => h) (.inl ⟨by rfl, fun w' _ => (by go_simp; rfl)⟩) hS ?_
                  go_frame
                  refine till_take 7 (some 113) rfl rfl (by kernel_rfl) (by kernel_rfl) (by kernel_rfl) (by kernel_rfl) (by kernel_rfl) (by kernel_rfl) (fun _ _ _ h => h) (.inl ⟨by rfl, fun w' _ => (by go_simp; rfl)⟩) hS ?_
                  go_frame
                  refine till_take 8 (some 114) rfl rfl (by kernel_rfl) (by kernel_rfl) (by kernel_rfl) (by kernel_rfl) (by kernel_rfl) (by kernel_rfl) (fun _ _ _ h => h) (.inl ⟨by rfl, fun w' hS' => (by have hc : w'.cell? ⟨L, 1, none⟩ = some (.int .i64 xt) := Lib.cell_of_heap hS' 1; go_simp; rfl)⟩) hS ?_
                  go_frame
                  refine till_take 9 (some 115) rfl rfl (by kernel_rfl) (by kernel_rfl) (by kernel_rfl) (by kernel_rfl) (by kernel_rfl) (by kernel_rfl) (fun _ _ _ h => h) (.inl ⟨by rfl, fun w' _ => (by go_simp; rfl)⟩) hS ?_
                  go_frame
                  refine till_take 10 (some 116) rfl rfl (by kernel_rfl) (by kernel_rfl) (by kernel_rfl) (by kernel_rfl) (by kernel_rfl) (by kernel_rfl) (fun _ _ _ h => h) (.inl ⟨by rfl, fun w' _ => (by go_simp; rfl)⟩) hS ?_
                  go_frame
                  refine till_done (by kernel_rfl) ?_ _
                  clear hS
                  have HALL2 := Lib.hid (show ∀ x ∈ clv.take (i + 1), x.p.length = depthF ON ∧ 0 ≤ x.t by
                    rw [HTK.out]
                    intro x hx
                    rw [List.mem_append, List.mem_singleton] at hx
                    rcases hx with hx | rfl
                    · exact HALL.out x hx
                    · exact ⟨by rw [← HPL.out]; exact HSD.out, HXT.out⟩)
                  go_wp2_with fail
                  go_roundw
                  case rel =>
                    exact ⟨i + 1, by go_num, by have := HHI.out; omega, HALL2, HS7⟩
                  case measure => have := HHI.out; simp [intOf]; omega
              · have hsd1 : ((sn : Int) != ((depthF ON : Nat) : Int)) = true := by simp; omega
                have HSD := Lib.hid hsd
                obtain ⟨dn2, hdn2⟩ : ∃ q, q = depthF ON := ⟨_, rfl⟩
                rw [← hdn2] at hsd1 hsd
                have HD2 := Lib.hid hdn2
                clear hsd hdn2
                go_upto_region 20 with fail
                obtain ⟨wz, hwz⟩ : ∃ wz, wz = w6.drew := ⟨_, rfl⟩
                have hbz : Below w6.heap.size w6 wz := by rw [hwz]; exact (Below.refl _ _).drew
                have HSz := Lib.hid (HS6.out.later hbz)
                have hS := below_at2 hbz HL6.out
                clear hbz HS6 HL6
                refine wp_region_till (fun w' => w'.heap[L]? = some (.cells (lfC xi xt xm (sa, sn, sc)) 60 (0, 0))) 11 11 (by kernel_rfl) rfl ?_
                rw [← hwz]
                clear hwz
                refine till_take 0 (some 106) rfl rfl (by kernel_rfl) (by kernel_rfl) (by kernel_rfl) (by kernel_rfl) (by kernel_rfl) (by kernel_rfl) (fun _ _ _ h => h) (.inl ⟨by rfl, fun w' _ => (by go_simp; rfl)⟩) hS ?_
                go_frame
                refine till_take 1 (some 107) rfl rfl (by kernel_rfl) (by kernel_rfl) (by kernel_rfl) (by kernel_rfl) (by kernel_rfl) (by kernel_rfl) (fun _ _ _ h => h) (.inl ⟨by rfl, fun w' hS' => (by have hc : w'.cell? ⟨L, 6, none⟩ = some (.slice sa sn sc) := Lib.cell_of_heap hS' 6; go_simp; rfl)⟩) hS ?_
                go_frame
                refine till_take 2 (some 108) rfl rfl (by kernel_rfl) (by kernel_rfl) (by kernel_rfl) (by kernel_rfl) (by kernel_rfl) (by kernel_rfl) (fun _ _ _ h => h) (.inl ⟨by rfl, fun w' _ => (by go_simp; rfl)⟩) hS ?_
                go_frame
                refine till_take 3 (some 109) rfl rfl (by kernel_rfl) (by kernel_rfl) (by kernel_rfl) (by kernel_rfl) (by kernel_rfl) (by kernel_rfl) (fun _ _ _ h => h) (.inl ⟨by rfl, fun w' _ => (by go_simp; rfl)⟩) hS ?_
                go_frame
                refine till_one 4 rfl (by kernel_rfl) fun K hK => ?_
                simp only [List.getElem_toArray, List.getElem_cons_succ, List.getElem_cons_zero]
                rw [if_pos (by rfl)]
                go_simp
                refine (tdepth_any (ON : Int) (by have := HOW.out; omega) wz).mono ?_
                rintro e w7 ⟨rfl, hw7⟩
                rw [show ((ON : Int)).toNat = ON from rfl, ← HD2.out]
                have hb : Below wz.heap.size wz w7 := by rw [hw7]; exact Below.refl _ _
                have HS7 := Lib.hid (HSz.out.later hb)
                have hSn := below_at2 hb hS
                refine hK _ _ (fun _ _ => hSn) ?_
                clear hK hS hb hw7 HSz
                have hS := hSn
                clear hSn
                refine till_take 5 (some 111) rfl rfl (by kernel_rfl) (by kernel_rfl) (by kernel_rfl) (by kernel_rfl) (by kernel_rfl) (by kernel_rfl) (fun _ _ _ h => h) (.inl ⟨by rfl, fun w' _ => (by go_simp; rfl)⟩) hS ?_
                go_frame
                refine till_take 6 (some 112) rfl rfl (by kernel_rfl) (by kernel_rfl) (by kernel_rfl) (by kernel_rfl) (by kernel_rfl) (by kernel_rfl) (fun _ _ _ h => h) (.inl ⟨by rfl, fun w' _ => (by go_simp; rfl)⟩) hS ?_
                go_frame
                refine till_take 7 (some 113) rfl rfl (by kernel_rfl) (by kernel_rfl) (by kernel_rfl) (by kernel_rfl) (by kernel_rfl) (by kernel_rfl) (fun _ _ _ h => h) (.inr ⟨by rfl, rfl⟩) hS ?_
                go_frame
                refine till_take 8 (some 114) rfl rfl (by kernel_rfl) (by kernel_rfl) (by kernel_rfl) (by kernel_rfl) (by kernel_rfl) (by kernel_rfl) (fun _ _ _ h => h) (.inr ⟨by rfl, rfl⟩) hS ?_
                go_frame
                refine till_take 9 (some 115) rfl rfl (by kernel_rfl) (by kernel_rfl) (by kernel_rfl) (by kernel_rfl) (by kernel_rfl) (by kernel_rfl) (fun _ _ _ h => h) (.inr ⟨by rfl, rfl⟩) hS ?_
                go_frame
                refine till_take 10 (some 116) rfl rfl (by kernel_rfl) (by kernel_rfl) (by kernel_rfl) (by kernel_rfl) (by kernel_rfl) (by kernel_rfl) (fun _ _ _ h => h) (.inl ⟨by rfl, fun w' _ => (by go_simp; rfl)⟩) hS ?_
                go_frame
                refine till_done (by kernel_rfl) ?_ _
                clear hS
                go_wp2_with fail
                refine (lives16_any _).mono ?_
                rintro e wl ⟨rfl, hbl⟩
                have HBl := Lib.hid (HS7.out.below.trans (hbl.mono HS7.out.below.size))
                clear hbl
                go_wp2_with fail
                go_ret
                exact ⟨rfl, HBl.out⟩
            · obtain rfl : i = ln := by omega
              have HALL2 := Lib.hid (show ∀ x ∈ clv, x.p.length = depthF ON ∧ 0 ≤ x.t by
                have h1 := HALL.out
                rw [List.take_of_length_le (by have := HLN.out; omega)] at h1
                exact h1)
              clear HALL hlt
              go_wp2_with (first
                | (refine wpList_load_row rfl 45 _ rfl P rfl 45 _ _ _ HS.out.cl Tryz.underlying45 rfl (Tryz.sizeCl _ _ _ HCH.out _ _ _) ?_)
                | (refine wpList_load_row rfl 36 _ rfl H rfl 36 _ _ _ HS.out.hs Tryz.underlying36 rfl (Tryz.sizeHc rt H32.out) ?_))
              obtain ⟨q, hq⟩ : ∃ q, q = openR ⟨crt, cix, ce, ch, cp, clv, cto⟩ rt := ⟨_, rfl⟩
              refine (lopen_any wr _ ⟨crt, cix, ce, ch, cp, clv, cto⟩ rt (HCA.out _ HS.out.below) HCOK.out H32.out).mono ?_
              rw [← hq]
              have HQ := Lib.hid hq
              clear hq
              rintro e w8 ⟨rfl, hb8⟩
              have HS8 := Lib.hid (HS.out.later hb8)
              clear hb8 HS
              by_cases hq0 : q = 0
              · have hq1 : (q != 0) = false := by simpa using hq0
                have HQ0 := Lib.hid (show openR ⟨crt, cix, ce, ch, cp, clv, cto⟩ rt = 0 by rw [← HQ.out]; exact hq0)
                clear hq0
                have c36 : w8.cell? ⟨P, 36, none⟩ = some (.slice la i lc) := (Lib.cell_of_heap HS8.out.cl 36).trans (clC_36 _ _ _ HCH.out _ _ _)
                go_wp2_with fail
                clear c36 hq1
                go_loopw [16, 127] (fun x y wr => ∃ i2 : Nat, x = .bool (rgt s ce clv i2) ∧ y = .int .i64 i2 ∧ i2 ≤ i ∧ Hid (SSt w P H g a6 (notesT s) (clC crt cix ce ch (pa, pn, pc) (la, i, lc) cto) rt (.slice ad3 m cap3) s wr)) (fun _ y _ => i - (intOf y).toNat)
                case atStart => exact ⟨0, rfl, rfl, by omega, HS8⟩
                case round =>
                  clear HS8
                  obtain ⟨i2, rfl, rfl, hin2, HS⟩ := hrel
                  by_cases hlt : i2 < i
                  · have hi : i2 < xs.length := by have := HLN.out; omega
                    have hic : i2 < clv.length := by have := HLN.out; omega
                    obtain ⟨b, off, hbb, c0, c1, c2, c3, c4, c5, c6⟩ := (HLV.out.later HS.out.below).leaf i2 hi
                    subst hbb
                    have hxc : clv[i2] = xs[i2].1 := by
                      have := List.getElem_of_eq HXL.out.symm hic
                      rw [this, List.getElem_map]
                    have hrs := rgt_succ (s := s) ce hic
                    rw [hxc] at hrs
                    have hxm := (HCOK.out.2.2.2.2 _ (List.getElem_mem hic)).2.2.1
                    rw [hxc] at hxm
                    obtain ⟨⟨⟨xi, xt, xm, xp⟩, ⟨sa, sn, sc⟩⟩, hx⟩ : ∃ x, x = xs[i2] := ⟨_, rfl⟩
                    rw [← hx] at c0 c1 c2 c3 c4 c5 c6 hrs hxm
                    simp only [] at c0 c1 c2 c3 c4 c5 hrs hxm
                    replace c6 : wr.cell? ⟨b, off + i2 * 7 + 6, none⟩ = some (.slice sa sn sc) := c6
                    obtain ⟨CX, hCX⟩ : ∃ q : CLf, q = ⟨xi, xt, xm, xp⟩ := ⟨_, rfl⟩
                    rw [← hCX] at hrs
                    have HCX := Lib.hid hCX; have HRS := Lib.hid hrs; have HHI := Lib.hid hlt; have HXM := Lib.hid (show xm < uMax from hxm)
                    clear hx hxc hrs hxm hi hic hCX
                    go_wp2_with (refine wpList_alloc_g rfl _ rfl _ _ Tryz.zeroLf rfl ?_)
                    intro L d3 hL
                    go_wp2_with (refine wpList_store_row_g (t := 60) (old := lfZ) rfl 60 _ _ rfl L (lfC xi xt xm (sa, sn, sc)) rfl rfl hL.out.cells Tryz.sizeLf rfl (lfC_one _ _ _ _) ?_)
                    intro w6 h6 k6 z6
                    have hb6 : Below wr.heap.size wr w6 := hL.out.below.trans (k6.below (B := wr.heap.size) (fun x hx e => by have := hL.out.eq; omega) hL.out.below.size)
                    have HL6 := Lib.hid h6; have HS6 := Lib.hid (HS.out.later hb6)
                    clear hL h6 k6 z6 hb6 HS c0 c1 c2 c3 c4 c5 c6
                    obtain ⟨RG, hRG⟩ : ∃ q, q = rgt s ce clv i2 := ⟨_, rfl⟩
                    rw [← hRG]
                    have HRG := Lib.hid hRG
                    clear hRG
                    go_wp2_with fail
                    go_loopw [19, 133] (fun x y wr => ∃ k : Nat, x = .bool (fnd s ce CX k) ∧ y = .int .i64 k ∧ k ≤ m ∧ Hid (wr.heap[L]? = some (.cells (lfC xi xt xm (sa, sn, sc)) 60 (0, 0))) ∧ Hid (SSt w P H g a6 (notesT s) (clC crt cix ce ch (pa, pn, pc) (some ⟨b, off, none⟩, i, lc) cto) rt (.slice ad3 m cap3) s wr)) (fun _ y _ => m - (intOf y).toNat)
                    case atStart => exact ⟨0, by rw [fnd_zero], rfl, by omega, HL6, HS6⟩
                    case round =>
                      clear HL6 HS6
                      obtain ⟨k, rfl, rfl, hkm, HL, HS⟩ := hrel
                      by_cases hkl : k < m
                      · have hks : k < s.length := by have := HM.out; omega
                        obtain ⟨bb, off2, hbb, _, c0, c1, c2, c3, c4, c5⟩ := (HS.out.own.rd rowE_len).six k hks
                        subst hbb
                        have hfs := fnd_succ2 ce CX (t := xt) (m := xm) (by rw [HCX.out]) (by rw [HCX.out]) hks
                        have hrm := (HSO.out.1 _ (List.getElem_mem hks)).2
                        obtain ⟨r, hrr⟩ : ∃ r, r = s[k] := ⟨_, rfl⟩
                        rw [← hrr] at c0 c1 c2 c3 c4 c5 hfs hrm
                        have HFS := Lib.hid hfs; have HRM := Lib.hid hrm; have HKL := Lib.hid hkl
                        clear hfs hrm hrr hks
                        go_wp2_with (refine wpList_alloc_g rfl _ rfl _ _ Tryz.zeroRRow rfl ?_)
                        intro X d1 hX
                        go_wp2_with (refine wpList_store_row_g (t := 57) (old := #[.int .i64 0, .int .i64 0, .int .u64 0, .int .u64 0, .int .u64 0, .int .u64 0]) rfl 57 _ _ rfl X #[.int .i64 r.e, .int .i64 r.t, .int .u64 (uw0 r.m), .int .u64 (uw1 r.m), .int .u64 (uw2 r.m), .int .u64 (uw3 r.m)] rfl rfl hX.out.cells Tryz.sizeRRow rfl (one_row r) ?_)
                        intro w2 hxX kX zX
                        clear zX
                        have hbX : Below wr.heap.size wr w2 := hX.out.below.trans (kX.below (B := wr.heap.size) (fun x hx e => by have := hX.out.eq; omega) hX.out.below.size)
                        have HX2 := Lib.hid hxX; have HS2 := Lib.hid (HS.out.later hbX); have HL2 := Lib.hid (below_at2 hbX HL.out)
                        clear hX hxX kX hbX HS HL c0 c1 c2 c3 c4 c5
                        obtain ⟨FK, hFK⟩ : ∃ q, q = fnd s ce CX k := ⟨_, rfl⟩
                        rw [← hFK]
                        rw [← hFK] at HFS
                        clear hFK
                        have q0 : w2.cell? ⟨X, 0, none⟩ = some (.int .i64 r.e) := Lib.cell_of_heap HX2.out 0
                        have q1 : w2.cell? ⟨X, 1, none⟩ = some (.int .i64 r.t) := Lib.cell_of_heap HX2.out 1
                        have q2 : w2.cell? ⟨X, 2, none⟩ = some (.int .u64 (uw0 r.m)) := Lib.cell_of_heap HX2.out 2
                        have q3 : w2.cell? ⟨X, 3, none⟩ = some (.int .u64 (uw1 r.m)) := Lib.cell_of_heap HX2.out 3
                        have q4 : w2.cell? ⟨X, 4, none⟩ = some (.int .u64 (uw2 r.m)) := Lib.cell_of_heap HX2.out 4
                        have q5 : w2.cell? ⟨X, 5, none⟩ = some (.int .u64 (uw3 r.m)) := Lib.cell_of_heap HX2.out 5
                        have l1 : w2.cell? ⟨L, 1, none⟩ = some (.int .i64 xt) := Lib.cell_of_heap HL2.out 1
                        have l2 : w2.cell? ⟨L, 2, none⟩ = some (.int .u64 (uw0 xm)) := Lib.cell_of_heap HL2.out 2
                        have l3 : w2.cell? ⟨L, 3, none⟩ = some (.int .u64 (uw1 xm)) := Lib.cell_of_heap HL2.out 3
                        have l4 : w2.cell? ⟨L, 4, none⟩ = some (.int .u64 (uw2 xm)) := Lib.cell_of_heap HL2.out 4
                        have l5 : w2.cell? ⟨L, 5, none⟩ = some (.int .u64 (uw3 xm)) := Lib.cell_of_heap HL2.out 5
                        have p2 : w2.cell? ⟨P, 2, none⟩ = some (.int .i64 ce) := (Lib.cell_of_heap HS2.out.cl 2).trans (clC_2 _ _ _ _ _ _ _)
                        have hk9 := HKL.out
                        have hm9 := HM.out.2.2
                        cases FK with
                        | true =>
                          have HF2 := Lib.hid (show fnd s ce CX (k + 1) = true by rw [HFS.out, Bool.true_or])
                          go_wp2_with fail
                          go_roundw
                          case rel => exact ⟨k + 1, by rw [HF2.out], by go_num, by have := HKL.out; omega, HL2, HS2⟩
                          case measure => have := HKL.out; simp [intOf]; omega
                        | false =>
                          by_cases e1 : r.e = ce
                          · have e1' : (r.e == ce) = true := by simpa using e1
                            by_cases e2 : r.t = xt
                            · have e2' : (r.t == xt) = true := by simpa using e2
                              have HE := Lib.hid (And.intro e1 e2)
                              have heq := Tryz.eqUnZ (uw_is HRM.out) (uw_is HXM.out) w2
                              obtain ⟨B, hB⟩ : ∃ B, B = decide (r.m = xm) := ⟨_, rfl⟩
                              rw [← hB] at heq
                              have HF2 := Lib.hid (show fnd s ce CX (k + 1) = B by rw [HFS.out, Bool.false_or, hB]; exact decide_eq_decide.2 ⟨fun h => h.2.2, fun h => ⟨e1, e2, h⟩⟩)
                              clear e1 e2 hB
                              go_wp2_with fail
                              go_roundw
                              case rel => exact ⟨k + 1, by rw [HF2.out], by go_num, by have := HKL.out; omega, HL2, HS2⟩
                              case measure => have := HKL.out; simp [intOf]; omega
                            · have e2' : (r.t == xt) = false := by simpa using e2
                              have HF2 := Lib.hid (show fnd s ce CX (k + 1) = false by rw [HFS.out, Bool.false_or]; exact decide_eq_false (fun h => e2 h.2.1))
                              clear e1 e2
                              go_wp2_with fail
                              go_roundw
                              case rel => exact ⟨k + 1, by rw [HF2.out], by go_num, by have := HKL.out; omega, HL2, HS2⟩
                              case measure => have := HKL.out; simp [intOf]; omega
                          · have e1' : (r.e == ce) = false := by simpa using e1
                            have HF2 := Lib.hid (show fnd s ce CX (k + 1) = false by rw [HFS.out, Bool.false_or]; exact decide_eq_false (fun h => e1 h.1))
                            clear e1
                            go_wp2_with fail
                            go_roundw
                            case rel => exact ⟨k + 1, by rw [HF2.out], by go_num, by have := HKL.out; omega, HL2, HS2⟩
                            case measure => have := HKL.out; simp [intOf]; omega
                      · obtain rfl : k = m := by omega
                        have HR2 := Lib.hid (show rgt s ce clv (i2 + 1) = (RG && fnd s ce CX k) by rw [HRS.out, ← HRG.out, HM.out.1])
                        obtain ⟨FK, hFK⟩ : ∃ q, q = fnd s ce CX k := ⟨_, rfl⟩
                        rw [← hFK]
                        rw [← hFK] at HR2
                        clear hFK hkl HRS HRG
                        cases RG with
                        | true =>
                          go_wp2_with fail
                          go_roundw
                          case rel => exact ⟨i2 + 1, by rw [HR2.out, Bool.true_and], by go_num, by have := HHI.out; omega, HS⟩
                          case measure => have := HHI.out; simp [intOf]; omega
                        | false =>
                          go_wp2_with fail
                          go_roundw
                          case rel => exact ⟨i2 + 1, by rw [HR2.out, Bool.false_and], by go_num, by have := HHI.out; omega, HS⟩
                          case measure => have := HHI.out; simp [intOf]; omega
                  · obtain rfl : i2 = i := by omega
                    obtain ⟨RG, hRG⟩ : ∃ q, q = rgt s ce clv i2 := ⟨_, rfl⟩
                    rw [← hRG]
                    have HRG := Lib.hid (show RG = rgt s ce clv clv.length by rw [hRG]; congr 1; have := HLN.out; omega)
                    clear hRG hlt
                    cases hrg : RG with
                    | true =>
                      clear hrg
                      go_wp2_with fail
                      refine (lives16_any _).mono ?_
                      rintro e wl ⟨rfl, hbl⟩
                      have HBl := Lib.hid (HS.out.below.trans (hbl.mono HS.out.below.size))
                      clear hbl
                      go_wp2_with fail
                      go_ret
                      exact ⟨rfl, HBl.out⟩
                    | false =>
                      have HTW := Lib.hid (show Twin (notesT s ++ openN ⟨crt, cix, ce, ch, cp, clv, cto⟩ rt) by
                        have h1 := sound16 HF.out HOK.out HCOK.out HCE.out (by have h2 := HPD.out; have h3 := HLN.out; rw [HDN.out, HTN.out] at h2; rw [← h2]; exact h3.2.2.symm) (by rw [← HON.out]; exact HALL2.out) (by rw [← HRT.out]; exact HQ0.out)
                        rcases h1 with h1 | h1
                        · have h2 := rgt_all (s := s) (e := ce) h1
                          rw [← HRG.out, hrg] at h2; cases h2
                        · rw [HRT.out]; exact h1)
                      clear hrg
                      go_wp2_with (first
                        | (refine wpList_load_row rfl 45 _ rfl P rfl 45 _ _ _ HS.out.cl Tryz.underlying45 rfl (Tryz.sizeCl _ _ _ HCH.out _ _ _) ?_)
                        | (refine wpList_load_row rfl 36 _ rfl H rfl 36 _ _ _ HS.out.hs Tryz.underlying36 rfl (Tryz.sizeHc rt H32.out) ?_))
                      have HGB := Lib.hid (show ∀ w' a', Grew wr g a6 w' a' → Below w.heap.size w w' from fun w' a' h => HS.out.below.trans (h.below HS.out.below.size HGW.out HA6.out))
                      refine (topen_any wr g a6 (notesT s) crt cix ce ch cp clv cto pa pn pc la i2 lc xs rt (fun w' a' h => HP.out.later (HGB.out w' a' h)) (fun w' a' h => HLV.out.later (HGB.out w' a' h)) (fun w' a' h x hx => (HPR.out x hx).later (HGB.out w' a' h)) HXL.out HCOK.out H32.out HS.out.tr (by have := NTL.out; omega)).mono ?_
                      rintro e w8 ⟨rfl, a8, ht8, hg8⟩
                      have HT8 := Lib.hid ht8; have HB8 := Lib.hid (HGB.out _ _ hg8)
                      clear ht8 hg8 HS HGB
                      go_wp2_with fail
                      refine (twins_anyZ w8 g a8 _ HT8.out (by rw [List.length_append]; have h1 := NTL.out; have h2 := openN_len ⟨crt, cix, ce, ch, cp, clv, cto⟩ rt; omega) (fun t ht => (List.mem_append.1 ht).elim (notesTSm HF.out HOK.out t) (openSm HCOK.out rt t))).mono ?_
                      rintro e w9 ⟨bt, rfl, hbt, hb9⟩
                      obtain rfl : bt = true := hbt.2 HTW.out
                      have HB9 := Lib.hid (HB8.out.trans (hb9.mono HB8.out.size))
                      clear hbt hb9 HB8 HT8 HTW
                      go_wp2_with fail
                      refine (lives16_any _).mono ?_
                      rintro e wl ⟨rfl, hbl⟩
                      have HBl := Lib.hid (HB9.out.trans (hbl.mono HB9.out.size))
                      clear hbl
                      go_wp2_with fail
                      go_ret
                      exact ⟨rfl, HBl.out⟩
              · have hq1 : (q != 0) = true := by simpa using hq0
                clear hq0
                go_wp2_with fail
                refine (lives16_any _).mono ?_
                rintro e wl ⟨rfl, hbl⟩
                have HBl := Lib.hid (HS8.out.below.trans (hbl.mono HS8.out.below.size))
                clear hbl
                go_wp2_with fail
                go_ret
                exact ⟨rfl, HBl.out⟩
        · have hpd1 : ((pn : Int) != ((depthF TN : Nat) : Int)) = true := by simp; omega
          clear hpd
          go_wp2_with fail
          refine (lives16_any _).mono ?_
          rintro e wl ⟨rfl, hbl⟩
          have HBl := Lib.hid (HSy.out.below.trans (hbl.mono HSy.out.below.size))
          clear hbl
          go_wp2_with fail
          go_ret
          exact ⟨rfl, HBl.out⟩
end Go.Proofs.YtmclmccgghnglaaGreat
