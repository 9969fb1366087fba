/- tallageref16: tokens, earners, Root. No condition. tallageref16.Root; tallagelaw16.plain. No condition. tallagelaw16.plain, tallageref16.Sorted, of a table however long. No condition. -/
import Derived.Test.YtmclmccgghnglaaGreatLsLeaV
import Derived.Test.YtmclmccgghnglaaGreatLs25
namespace Go.Proofs.YtmclmccgghnglaaGreat
section
open Go.RowKit

theorem ownR_take {s : List LRow} (e : Int) (i : Nat) (h : i < s.length) : ownR (s.take (i + 1)) e = ownR (s.take i) e ++ if s[i].e = e then [s[i]] else [] := by
  unfold ownR
  rw [List.take_succ_eq_append_getElem h, List.filter_append]
  congr 1
  by_cases he : s[i].e = e
  · rw [if_pos he, List.filter_cons_of_pos (by simpa using he)]; rfl
  · rw [if_neg he, List.filter_cons_of_neg (by simpa using he)]; rfl
theorem leavesG_app (a b : List LRow) : leavesG (a ++ b) = leavesG a ++ leavesG b := by unfold leavesG; rw [List.map_append]
/-- What tokens hands back. -/
def TokensRet (w : World) (ls : List (List UInt8)) (e : Ending) (w' : World) : Prop := ∃ v ss, e = .returned v ∧ OTx w' w.heap.size v ss ls ∧ Below w.heap.size w w'
set_option maxHeartbeats 16000000 in
set_option maxRecDepth 100000 in
theorem tokens_any (w : World) (x : Int) (ad : Option Addr) (n cap : Nat) (rows : List LRow) (hr : Rd w rowE 6 (.slice ad n cap) rows) (hok : ∀ r ∈ rows, ROk r) (hlen : n < 1000000) :
    Calls Tryz.prog 93 #[.slice ad n cap, .int .i64 x] w (TokensRet w (leavesG (ownR rows x))) := by
  have hn := hr.size
  have HR := Lib.hid hr; have HOK := Lib.hid hok; have HN := Lib.hid hn
  clear hr hok hn
  go_enter Tryz.func93, Tryz.ntmps93
  go_wp2_with fail
  go_loopw [5, 10] (fun vo y wr => ∃ (i : Nat) (ss : List SlV), y = .int .i64 i ∧ i ≤ n ∧ Hid (OTx wr w.heap.size vo ss (leavesG (ownR (rows.take i) x))) ∧ Hid (ss.length ≤ i) ∧ Hid (Below w.heap.size w wr)) (fun _ y _ => n - (intOf y).toNat)
  case atStart => exact ⟨0, [], rfl, by omega, Lib.hid (OTx.nil _ _), Lib.hid (Nat.le_refl _), Lib.hid (Below.refl _ _)⟩
  case round =>
    obtain ⟨i, ss, rfl, hin, HO, HSL, HB⟩ := hrel
    by_cases hlt : i < n
    · have hi : i < rows.length := by have := HN.out; omega
      obtain ⟨bb, off, rfl, _, c0, c1, c2, c3, c4, c5⟩ := (HR.out.later HB.out).six i hi
      have hrk := HOK.out _ (List.getElem_mem hi)
      have htk := ownR_take x i hi
      obtain ⟨r, hrr⟩ : ∃ r, r = rows[i] := ⟨_, rfl⟩
      rw [← hrr] at c0 c1 c2 c3 c4 c5 hrk htk
      have HRK := Lib.hid hrk; have HTK := Lib.hid htk
      clear hrk htk hrr hi
      go_wp2_with (refine wpList_alloc_g rfl _ rfl _ _ Tryz.zeroRRow rfl ?_)
      intro X d1 hX
      go_wp2_with (refine wpList_store_row_g (t := 57) (old := #[.int .i64 0, .int .i64 0, .int .u64 0, .int .u64 0, .int .u64 0, .int .u64 0]) rfl 57 _ _ rfl X #[.int .i64 r.e, .int .i64 r.t, .int .u64 (uw0 r.m), .int .u64 (uw1 r.m), .int .u64 (uw2 r.m), .int .u64 (uw3 r.m)] rfl rfl hX.out.cells Tryz.sizeRRow rfl (one_row r) ?_)
      intro d2 hxX kX zX
      clear zX
      have hbX : Below wr.heap.size wr d2 := hX.out.below.trans (kX.below (B := wr.heap.size) (fun x hx e => by have := hX.out.eq; omega) hX.out.below.size)
      have HO2 := Lib.hid (HO.out.later hbX); have HB2 := Lib.hid (HB.out.trans (hbX.mono HB.out.size))
      have q0 : d2.cell? ⟨X, 0, none⟩ = some (.int .i64 r.e) := Lib.cell_of_heap hxX 0
      have q1 : d2.cell? ⟨X, 1, none⟩ = some (.int .i64 r.t) := Lib.cell_of_heap hxX 1
      have q2 : d2.cell? ⟨X, 2, none⟩ = some (.int .u64 (uw0 r.m)) := Lib.cell_of_heap hxX 2
      have q3 : d2.cell? ⟨X, 3, none⟩ = some (.int .u64 (uw1 r.m)) := Lib.cell_of_heap hxX 3
      have q4 : d2.cell? ⟨X, 4, none⟩ = some (.int .u64 (uw2 r.m)) := Lib.cell_of_heap hxX 4
      have q5 : d2.cell? ⟨X, 5, none⟩ = some (.int .u64 (uw3 r.m)) := Lib.cell_of_heap hxX 5
      clear hX hxX kX hbX HO HB c0 c1 c2 c3 c4 c5
      by_cases he : r.e = x
      · have he1 : (r.e == x) = true := by simpa using he
        have HTK2 := Lib.hid (show leavesG (ownR (rows.take (i + 1)) x) = leavesG (ownR (rows.take i) x) ++ [tokL r.t r.m] by rw [HTK.out, if_pos he, leavesG_app]; rfl)
        clear he
        go_wp2_with fail
        refine (rtok_any d2 r.t HRK.out.1.2.2 (uw_is HRK.out.2)).mono ?_
        rintro e w3 ⟨v3, rfl, ho3, hb3⟩
        obtain ⟨ad3, cap3, rfl, _, _⟩ := (ho3.rd u8_len).shape
        obtain ⟨k3, hk3⟩ : ∃ k, k = (tokL r.t r.m).length := ⟨_, rfl⟩
        rw [← hk3] at ho3 ⊢
        have HT3 := Lib.hid (show Own w3 0 5 u8E 1 (slV (ad3, k3, cap3)) (tokL r.t r.m) from ho3.mono (Nat.zero_le _))
        have HO3 := Lib.hid (HO2.out.later hb3); have HB3 := Lib.hid (HB2.out.trans (hb3.mono HB2.out.size))
        clear ho3 hb3 hk3 HO2 HB2 q0 q1 q2 q3 q4 q5
        go_wp2_with (at_builtin; refine own_app1 (enc := stE) rfl _ _ _ rfl Tryz.underlying26 Tryz.infoTx rfl ((ad3, k3, cap3) : SlV) HO3.out.1 rfl rfl rfl rfl (by have := HSL.out; unfold maxLen; omega) (by have := HSL.out; omega) HB3.out (Nat.le_refl _) HB3.out.size (Nat.le_refl _) ?_)
        intro v' w' ho' hb' hg'
        have HO4 := Lib.hid (HO3.out.snoc HT3.out hg' ho'); have HB4 := Lib.hid hb'
        rw [← HTK2.out] at HO4
        clear ho' hb' hg' HO3 HT3 HB3
        go_wp2_with fail
        go_roundw
        case rel => exact ⟨i + 1, _, by go_num, hlt, HO4, Lib.hid (by rw [List.length_append]; have := HSL.out; simp; omega), HB4⟩
        case measure => simp [intOf]; omega
      · have he1 : (r.e == x) = false := by simpa using he
        have HTK2 := Lib.hid (show leavesG (ownR (rows.take (i + 1)) x) = leavesG (ownR (rows.take i) x) by rw [HTK.out, if_neg he, List.append_nil])
        rw [← HTK2.out] at HO2
        clear he
        go_wp2_with fail
        go_roundw
        case rel => exact ⟨i + 1, _, by go_num, hlt, HO2, Lib.hid (Nat.le_succ_of_le HSL.out), HB2⟩
        case measure => simp [intOf]; omega
    · obtain rfl : i = n := by omega
      have HE := Lib.hid (show rows.take i = rows by rw [List.take_of_length_le (by rw [HN.out]; exact Nat.le_refl _)])
      rw [HE.out] at HO
      go_wp2_with fail
      go_ret
      exact ⟨_, _, rfl, HO.out, HB.out⟩
theorem Keep.of_grown {w w' : World} {row : Option Nat} (h : w.grownBy w' row) : Keep (fun k => row = some k) w w' := ⟨h.os, h.tape, h.output, h.size, fun k hk hne => h.block k hk (fun e => hne e.symm)⟩
/-- A tree, when blocks have turned of which none is the tree's. -/
theorem Tr.keep2 {w w' : World} {g : Nat} {a : Option Nat} {texts : List (List UInt8)} {S : Nat → Prop} (h : Tr w g a texts) (k : Keep S w w') (hg : ¬ S g) (ha : ∀ x, a = some x → ¬ S x) (hS : ∀ x cs fr, w.heap[x]? = some (.cells cs 5 fr) → ¬ S x) : Tr w' g a texts := by
  obtain ⟨v, vs, h1, h2, h3, h4, h5⟩ := h
  refine ⟨v, vs, k.at h1 hg, h2.keep k (fun x hx => ha x (by rw [← h3]; exact hx)), h3, h4, fun i u l p q => ?_⟩
  obtain ⟨r1, r2⟩ := h5 i u l p q
  refine ⟨r1.keep k fun x hx _ e => ?_, r2.keep k fun x cs fr h6 e => hS _ _ _ h6 e⟩
  obtain ⟨cs, fr, h6⟩ := r2 x hx
  exact hS _ _ _ h6 e
theorem Tr.gcell {w : World} {g : Nat} {a : Option Nat} {texts : List (List UInt8)} (h : Tr w g a texts) : ∃ v, w.heap[g]? = some (.cells #[v] 28 (0, 0)) := by
  obtain ⟨v, _, h1, _⟩ := h
  exact ⟨v, h1⟩
/-- A slice of the call's own of texts' type, while the tree grows. -/
theorem own_grew2 {α : Type} {w w' : World} {g : Nat} {a a' : Option Nat} {texts : List (List UInt8)} {B : Nat} {e : TypeId} {enc : α → List Value} {sz : Nat} {v : Value} {l : List α} (h : Own w B e enc sz v l) (ht : Tr w g a texts) (hg : Grew w g a w' a') (he : e ≠ 28) (hne : ∀ k, v.ownBlock = some k → a ≠ some k) : Own w' B e enc sz v l := by
  refine h.keep hg.1 fun k hk hS => ?_
  rcases hS with rfl | hS
  · obtain ⟨cs, fr, e1⟩ := h.cellsAt hk
    obtain ⟨tv, h1⟩ := ht.gcell
    rw [e1] at h1; cases h1; exact he rfl
  · exact hne k hk hS
theorem OTx.grew {w w' : World} {g : Nat} {a a' : Option Nat} {texts : List (List UInt8)} {B : Nat} {vo : Value} {ss : List SlV} {ls : List (List UInt8)} (h : OTx w B vo ss ls) (ht : Tr w g a texts) (hg : Grew w g a w' a') (hne : ∀ k, vo.ownBlock = some k → a ≠ some k) : OTx w' B vo ss ls :=
  ⟨own_grew2 h.1 ht hg (by decide) hne, h.2.1, fun i s l h1 h2 => own_grew (h.2.2 i s l h1 h2) ht hg (by decide)⟩
theorem Grew.apart {w w' : World} {g : Nat} {a a' : Option Nat} (h : Grew w g a w' a') {k : Nat} (hk : k < w.heap.size) (hne : a ≠ some k) : a' ≠ some k := by
  rcases h.2 with e | ⟨x, e, hx⟩
  · rw [e]; exact hne
  · rw [e]; intro h2; cases h2; omega
theorem Tr.apart {w : World} {g : Nat} {a : Option Nat} {texts : List (List UInt8)} (h : Tr w g a texts) {k : Nat} (hk : w.heap.size ≤ k) : a ≠ some k := fun e => by
  have := h.lt.2 k e
  omega
/-- What earners hands back. -/
def EarnersRet (w : World) (g : Nat) (a : Option Nat) (texts : List (List UInt8)) (s : List LRow) (e : Ending) (w' : World) : Prop := ∃ vo vw ss a', e = .returned (.tuple #[vo, vw]) ∧ OTx w' w.heap.size vo ss (tableL s) ∧ Own w' w.heap.size 3 intE 1 vw ((groupsF s).map (·.1)) ∧ Tr w' g a' (texts ++ notesH s ((groupsF s).map (·.1))) ∧ Grew w g a w' a' ∧ ∀ k, vo.ownBlock = some k → a' ≠ some k
theorem own_ne {s : List LRow} {e : Int} {r : LRow} (h : r ∈ s) (he : r.e = e) : leavesG (ownR s e) ≠ [] := fun z => by
  have h1 : r ∈ ownR s e := ownR_mem.2 ⟨h, he⟩
  have h2 : ownR s e = [] := by
    have := congrArg List.length z
    rw [leavesG_len] at this
    exact List.eq_nil_of_length_eq_zero this
  rw [h2] at h1; simp at h1
theorem notesV_good {k : Int} {ls : List (List UInt8)} (hk : k = 1 ∨ k = 2) (h1 : ls ≠ []) (h2 : ls.length ≤ 1024) : notesV k ls = notesF k.toNat ls := by
  unfold notesV
  have h0 : ls.length ≠ 0 := fun e => h1 (List.eq_nil_of_length_eq_zero e)
  rw [if_pos (by unfold whyF; rw [if_pos hk, if_neg (by omega), if_neg (by omega)])]
set_option maxHeartbeats 16000000 in
set_option maxRecDepth 100000 in
theorem earners_any (w : World) (g : Nat) (a : Option Nat) (texts : List (List UInt8)) (ad : Option Addr) (n cap : Nat) (s : List LRow) (hl : ∀ w' a', Grew w g a w' a' → Rd w' rowE 6 (.slice ad n cap) s) (hok : ∀ r ∈ s, ROk r) (hs : SortedR s) (hn : n ≤ 1024) (ht : Tr w g a texts) (htl : texts.length < 100000000) :
    Calls Tryz.prog 86 #[.pointer (some ⟨g, 0, none⟩), .slice ad n cap] w (EarnersRet w g a texts s) := by
  have hnn : n = s.length := (hl w a (Grew.of_below g a (Below.refl _ _))).size
  have HL := Lib.hid hl; have HOK := Lib.hid hok; have HS := Lib.hid hs; have HT := Lib.hid ht; have HTL := Lib.hid htl; have HN := Lib.hid hnn
  clear hl hok hs ht htl hnn
  go_enter Tryz.func86, Tryz.ntmps86
  go_wp2_with fail
  go_loopw [6, 7, 14] (fun vo vw y wr => ∃ (i : Nat) (ss : List SlV) (a' : Option Nat) (H : List Int), y = .int .i64 i ∧ i ≤ n ∧ Hid (HeadsAt s i H) ∧ Hid (OTx wr w.heap.size vo ss (H.map (headL s))) ∧ Hid (ss.length = H.length) ∧ Hid (Own wr w.heap.size 3 intE 1 vw H) ∧ Hid (Tr wr g a' (texts ++ notesH s H)) ∧ Hid (Grew w g a wr a') ∧ Hid (∀ k, vo.ownBlock = some k → a' ≠ some k)) (fun _ _ y _ => n - (intOf y).toNat)
  case atStart => exact ⟨0, [], a, [], rfl, by omega, Lib.hid (HeadsAt.zero s), Lib.hid (OTx.nil _ _), Lib.hid rfl, Lib.hid (Own.nil _ _ _ _ _), Lib.hid (by rw [show texts ++ notesH s [] = texts from List.append_nil _]; exact HT.out), Lib.hid (Grew.of_below g a (Below.refl _ _)), Lib.hid (fun k h => by cases h)⟩
  case round =>
    obtain ⟨i, ss, a1, H, rfl, hin, HH, HO, HSL, HW, HT1, HG, HNE⟩ := hrel
    by_cases hlt : i < n
    · have hi : i < s.length := by have := HN.out; omega
      obtain ⟨bb, off, hbb, _, c0, c1, c2, c3, c4, c5⟩ := (HL.out wr a1 HG.out).six i hi
      subst hbb
      have hrk := HOK.out _ (List.getElem_mem hi)
      have hrm := List.getElem_mem hi
      have hsame := fun h0 he => HH.out.same hi h0 he
      have hnext := fun hne => HH.out.next HS.out hi hne
      have hprev : ∀ h0 : 0 < i, wr.cell? ⟨bb, off + (i - 1) * 6, none⟩ = some (.int .i64 s[i - 1].e) := fun h0 => by
        obtain ⟨b2, o2, e2, _, p0, _⟩ := (HL.out wr a1 HG.out).six (i - 1) (by omega)
        cases e2; exact p0
      have hbl := (HL.out wr a1 HG.out).lt bb rfl (fun e => by rw [e] at hi; simp at hi)
      obtain ⟨r, hrr⟩ : ∃ r, r = s[i] := ⟨_, rfl⟩
      rw [← hrr] at c0 c1 c2 c3 c4 c5 hrk hrm hsame hnext
      have HRK := Lib.hid hrk; have HRM := Lib.hid hrm; have HSAME := Lib.hid hsame; have HNEXT := Lib.hid hnext; have HPREV := Lib.hid hprev; have HHI := Lib.hid hlt; have HBL := Lib.hid hbl
      clear hrk hrm hsame hnext hprev hrr hbl
      go_wp2_with (refine wpList_alloc_g rfl _ rfl _ _ Tryz.zeroRRow rfl ?_)
      intro X d1 hX
      go_wp2_with (refine wpList_store_row_g (t := 57) (old := #[.int .i64 0, .int .i64 0, .int .u64 0, .int .u64 0, .int .u64 0, .int .u64 0]) rfl 57 _ _ rfl X #[.int .i64 r.e, .int .i64 r.t, .int .u64 (uw0 r.m), .int .u64 (uw1 r.m), .int .u64 (uw2 r.m), .int .u64 (uw3 r.m)] rfl rfl hX.out.cells Tryz.sizeRRow rfl (one_row r) ?_)
      intro w2 hxX kX zX
      clear zX
      have hbX : Below wr.heap.size wr w2 := hX.out.below.trans (kX.below (B := wr.heap.size) (fun x hx e => by have := hX.out.eq; omega) hX.out.below.size)
      have HX2 := Lib.hid hxX; have HO2 := Lib.hid (HO.out.later hbX); have HW2 := Lib.hid (HW.out.later hbX); have HT2 := Lib.hid (HT1.out.later hbX); have HG2 := Lib.hid (HG.out.trans (Grew.of_below g a1 hbX))
      have HPREV2 := Lib.hid (show ∀ h0 : 0 < i, w2.cell? ⟨bb, off + (i - 1) * 6, none⟩ = some (.int .i64 s[i - 1].e) from fun h0 => (hbX.cell (p := ⟨bb, off + (i - 1) * 6, none⟩) HBL.out).trans (HPREV.out h0))
      have q0 : w2.cell? ⟨X, 0, none⟩ = some (.int .i64 r.e) := Lib.cell_of_heap hxX 0
      clear hX hxX kX hbX HO HW HT1 HG c0 c1 c2 c3 c4 c5 HPREV
      rcases (show i = 0 ∨ (∃ h0 : 0 < i, r.e = s[i - 1].e) ∨ (∃ h0 : 0 < i, r.e ≠ s[i - 1].e) by
        rcases Nat.eq_zero_or_pos i with h | h
        · exact .inl h
        · rcases Classical.em (r.e = s[i - 1].e) with k | k
          · exact .inr (.inl ⟨h, k⟩)
          · exact .inr (.inr ⟨h, k⟩)) with h0 | ⟨h0, he⟩ | ⟨h0, he⟩
      · have HH2 := Lib.hid (HNEXT.out (fun h => absurd h (by omega)))
        have e0 : ((i : Int) == 0) = true := by rw [h0]; rfl
        clear h0 hi HNEXT HSAME HPREV2
        go_wp2_with fail
        go_quiet (fail)
        go_wp2_with fail
        obtain ⟨w3, hwq⟩ : ∃ q, q = World.drewN w2 nq := ⟨_, rfl⟩
        have hbq : Below (World.heap w2).size w2 w3 := by rw [hwq]; exact below_drewN (Below.refl _ _) _
        rw [← hwq]
        have HX3 := Lib.hid (below_at2 hbq HX2.out); have HO3 := Lib.hid (HO2.out.later hbq); have HW3 := Lib.hid (HW2.out.later hbq); have HT3 := Lib.hid (HT2.out.later hbq); have HG3 := Lib.hid (HG2.out.trans (Grew.of_below g a1 hbq))
        clear hbq hwq q0 e0 HX2 HO2 HW2 HT2 HG2
        have q0 : w3.cell? ⟨X, 0, none⟩ = some (.int .i64 r.e) := Lib.cell_of_heap HX3.out 0
        go_wp2_with fail
        clear q0
        refine (tokens_any w3 r.e _ n cap s (HL.out w3 a1 HG3.out) HOK.out (by omega)).mono ?_
        rintro e w4 ⟨v4, ss4, rfl, ho4, hb4⟩
        have HX4 := Lib.hid (below_at2 hb4 HX3.out); have HO4 := Lib.hid (HO3.out.later hb4); have HW4 := Lib.hid (HW3.out.later hb4); have HT4 := Lib.hid (HT3.out.later hb4); have HG4 := Lib.hid (HG3.out.trans (Grew.of_below g a1 hb4))
        have HL4 := Lib.hid ho4
        have HNE4 := Lib.hid (show ∀ k, v4.ownBlock = some k → a1 ≠ some k from fun k hk => HT3.out.apart (ho4.1.lt k hk).1)
        clear ho4 hb4 HX3 HO3 HW3 HT3 HG3
        go_wp2_with fail
        have HNF := Lib.hid (own_ne (s := s) (e := r.e) HRM.out rfl)
        have HN24 := Lib.hid (show (leavesG (ownR s r.e)).length ≤ 1024 by rw [leavesG_len]; have := ownR_len s r.e; have := HN.out; omega)
        refine (troot_any w4 g a1 _ 2 (leavesG (ownR s r.e)) v4 (fun w' a' hgr => (HL4.out.grew HT4.out hgr HNE4.out).texts) HT4.out (fair_leaves fun y hy => HOK.out y (ownR_mem.1 hy).1) (by
          rw [List.length_append]
          have h1 := notesH_len s (by have := HN.out; omega) H
          have h2 := HH.out.2.2
          have h3 := HTL.out
          omega)).mono ?_
        rw [root_good (.inr rfl) HNF.out HN24.out, notesV_good (.inr rfl) HNF.out HN24.out]
        rintro e w5 ⟨rfl, a5, htr, hgr⟩
        have HX5 := Lib.hid (tr_other HT4.out hgr HX4.out (by decide)); have HO5 := Lib.hid (HO4.out.grew HT4.out hgr HNE.out); have HW5 := Lib.hid (own_grew HW4.out HT4.out hgr (by decide)); have HG5 := Lib.hid (HG4.out.trans hgr)
        have HT5 := Lib.hid (show Tr w5 g a5 (texts ++ notesH s (H ++ [r.e])) by rw [notesH_snoc, ← List.append_assoc]; exact htr)
        have HNE5 := Lib.hid (fun (k : Nat) hk => hgr.apart (HO4.out.1.lt k hk).2 (HNE.out k hk))
        obtain ⟨rt, hrt⟩ : ∃ x, x = rootF (Int.toNat 2) (leavesG (ownR s r.e)) := ⟨_, rfl⟩
        rw [← hrt]
        have HRT := Lib.hid hrt; have H32 := Lib.hid (show rt.length = 32 by rw [hrt]; exact rootF_32 _ _)
        clear htr hgr hrt HX4 HO4 HW4 HT4 HG4 HL4 HNE4 HNF HN24
        go_wp2_with (refine wpList_alloc_g rfl _ rfl _ _ Tryz.zeroHash rfl ?_)
        intro Q d5 hQ
        go_wp2_with (refine wpList_store_row_g (t := 36) (old := cB 32 []) rfl 36 _ _ rfl Q (c8 rt) rfl rfl hQ.out.cells (Tryz.sizeHc rt H32.out) (by rw [c8_size, H32.out]; rfl) (c8_ones _) ?_)
        intro w6 h6 k6 z6
        have hb6 : Below w5.heap.size w5 w6 := hQ.out.below.trans (k6.below (B := w5.heap.size) (fun x hx e => by have := hQ.out.eq; omega) hQ.out.below.size)
        have HQ6 := Lib.hid h6; have HX6 := Lib.hid (below_at2 hb6 HX5.out); have HO6 := Lib.hid (HO5.out.later hb6); have HW6 := Lib.hid (HW5.out.later hb6); have HT6 := Lib.hid (HT5.out.later hb6); have HG6 := Lib.hid (HG5.out.trans (Grew.of_below g a5 hb6))
        clear hQ h6 k6 z6 hb6 HX5 HO5 HW5 HT5 HG5
        have q0 : w6.cell? ⟨X, 0, none⟩ = some (.int .i64 r.e) := Lib.cell_of_heap HX6.out 0
        go_wp2_with (refine wpList_load_row rfl 36 _ rfl Q rfl 36 _ _ _ HQ6.out Tryz.underlying36 rfl (Tryz.sizeHc rt H32.out) ?_)
        refine (rear_any w6 r.e HRK.out.1.1.2 H32.out).mono ?_
        rintro e w7 ⟨v7, rfl, ho7, hb7⟩
        obtain ⟨ad7, cap7, rfl, _, _⟩ := (ho7.rd u8_len).shape
        obtain ⟨k7, hk7⟩ : ∃ k, k = (earL r.e rt).length := ⟨_, rfl⟩
        rw [← hk7] at ho7 ⊢
        have HV7 := Lib.hid (show Own w7 0 5 u8E 1 (slV (ad7, k7, cap7)) (earL r.e rt) from ho7.mono (Nat.zero_le _))
        have HX7 := Lib.hid (below_at2 hb7 HX6.out); have HO7 := Lib.hid (HO6.out.later hb7); have HW7 := Lib.hid (HW6.out.later hb7); have HT7 := Lib.hid (HT6.out.later hb7); have HG7 := Lib.hid (HG6.out.trans (Grew.of_below g a5 hb7))
        clear ho7 hb7 hk7 q0 HQ6 HX6 HO6 HW6 HT6 HG6
        go_wp2_with (at_builtin; refine own_app (us := #[slV (ad7, k7, cap7)]) (enc := stE) rfl _ _ _ rfl Tryz.underlying26 Tryz.infoTx rfl (by decide) ((ad7, k7, cap7) : SlV) HO7.out.1 rfl rfl rfl rfl (stE_one _) (by have := HSL.out; have := HH.out.2.2; unfold maxLen; omega) (by have := HSL.out; have := HH.out.2.2; omega) (B := w.heap.size) (w0 := w7) (Below.refl _ _) (Nat.le_refl _) HG7.out.1.size HG7.out.1.size ?_)
        intro v8 w8 ho8 _ hg8 hm8
        have hk8 := Keep.of_grown hg8
        have HO8 := Lib.hid (show OTx w8 w.heap.size v8 (ss ++ [(ad7, k7, cap7)]) ((H ++ [r.e]).map (headL s)) by
          rw [List.map_append]
          have h9 := HO7.out.snoc HV7.out hg8 ho8
          rw [HRT.out] at h9
          exact h9)
        have HX8 := Lib.hid (hk8.at HX7.out (fun e => by obtain ⟨cs, fr, h9⟩ := HO7.out.1.cellsAt e; rw [HX7.out] at h9; cases h9))
        have HW8 := Lib.hid (HW7.out.keep hk8 (fun k hk e => by
          obtain ⟨cs, fr, h9⟩ := HO7.out.1.cellsAt e
          obtain ⟨cs2, fr2, h8⟩ := HW7.out.cellsAt hk
          rw [h9] at h8; cases h8))
        have HT8 := Lib.hid (HT7.out.keep2 hk8 (fun e => by
          obtain ⟨cs, fr, h9⟩ := HO7.out.1.cellsAt e
          obtain ⟨tv, h8⟩ := HT7.out.gcell
          rw [h9] at h8; cases h8) (fun x hx e => HNE5.out x e hx) (fun x cs fr h8 e => by
          obtain ⟨cs2, fr2, h9⟩ := HO7.out.1.cellsAt e
          rw [h9] at h8; cases h8))
        have HG8 := Lib.hid (show Grew w g a w8 a5 from ⟨HG7.out.1.then hk8 (fun x hx => .inr (HO7.out.1.lt x hx).1), HG7.out.2⟩)
        have HNE8 := Lib.hid (show ∀ k, v8.ownBlock = some k → a5 ≠ some k from fun k hk => by
          rcases hm8 with ⟨e, _⟩ | ⟨x, e, hx⟩
          · exact HNE5.out k (by rw [← e]; exact hk)
          · rw [e] at hk; cases hk; exact HT7.out.apart hx)
        clear ho8 hg8 hm8 hk8 HX7 HO7 HW7 HT7 HG7 HV7
        have q0 : w8.cell? ⟨X, 0, none⟩ = some (.int .i64 r.e) := Lib.cell_of_heap HX8.out 0
        have q0b : ∀ o, (w8.alloc o).cell? ⟨X, 0, none⟩ = some (.int .i64 r.e) := fun o => Lib.cell_of_heap (below_at2 ((Below.refl _ _).alloc (Nat.le_refl _) o) HX8.out) 0
        go_wp2_with (at_builtin; refine own_app (us := #[.int .i64 r.e]) (enc := intE) rfl _ _ _ rfl Tryz.underlying23 Tryz.infoInt rfl (by decide) r.e HW8.out rfl rfl rfl rfl (by intro u hu; rw [List.mem_singleton.1 hu]; rfl) (by have := HH.out.2.2; unfold maxLen; omega) (by have := HH.out.2.2; omega) (B := w.heap.size) (w0 := w8) (Below.refl _ _) (Nat.le_refl _) HG8.out.1.size HG8.out.1.size ?_)
        intro v9 w9 ho9 _ hg9 _
        have hk9 := Keep.of_grown hg9
        have HW9 := Lib.hid ho9
        have HO9 := Lib.hid (HO8.out.keep hk9 (fun x hx => by
          obtain ⟨cs, fr, h9⟩ := HW8.out.cellsAt hx
          exact ⟨cs, _, fr, h9, by decide⟩))
        have HT9 := Lib.hid (HT8.out.keep hk9 (fun x cs T fr h8 e => by
          obtain ⟨cs2, fr2, h9⟩ := HW8.out.cellsAt e
          rw [h9] at h8; cases h8; decide))
        have HG9 := Lib.hid (show Grew w g a w9 a5 from ⟨HG8.out.1.then hk9 (fun x hx => .inr (HW8.out.lt x hx).1), HG8.out.2⟩)
        clear ho9 hg9 hk9 q0 q0b HX8 HO8 HW8 HT8 HG8 HNE5
        go_wp2_with fail
        go_roundw
        case rel => exact ⟨i + 1, _, a5, H ++ [r.e], by go_num, by have := HHI.out; omega, HH2, HO9, Lib.hid (by rw [List.length_append, List.length_append, HSL.out]; rfl), HW9, HT9, HG9, HNE8⟩
        case measure => have := HHI.out; simp [intOf]; omega
      · have HH2 := Lib.hid (HSAME.out h0 he)
        have e0 : ((i : Int) == 0) = false := by simp; omega
        have p0 := HPREV2.out h0
        rw [← he] at p0
        have hwi : IntKind.i64.wrap ((i : Int) - 1) = ((i - 1 : Nat) : Int) := (IntWalk.i64_in _ (by omega)).trans (by omega)
        have hpi : i - 1 < n := by omega
        have hne : (r.e != r.e) = false := by simp
        obtain ⟨j, hj⟩ : ∃ j, j = i - 1 := ⟨_, rfl⟩
        rw [← hj] at p0 hwi hpi
        clear h0 he hi hj HNEXT HSAME HPREV2
        go_wp2_with fail
        go_quiet (fail)
        go_wp2_with fail
        obtain ⟨w3, hwq⟩ : ∃ q, q = World.drewN w2 nq := ⟨_, rfl⟩
        have hbq : Below (World.heap w2).size w2 w3 := by rw [hwq]; exact below_drewN (Below.refl _ _) _
        rw [← hwq]
        have HX3 := Lib.hid (below_at2 hbq HX2.out); have HO3 := Lib.hid (HO2.out.later hbq); have HW3 := Lib.hid (HW2.out.later hbq); have HT3 := Lib.hid (HT2.out.later hbq); have HG3 := Lib.hid (HG2.out.trans (Grew.of_below g a1 hbq))
        clear hbq hwq q0 e0 HX2 HO2 HW2 HT2 HG2
        clear p0 hwi hpi hne
        go_roundw
        case rel => exact ⟨i + 1, ss, a1, H, by go_num, by have := HHI.out; omega, HH2, HO3, HSL, HW3, HT3, HG3, HNE⟩
        case measure => have := HHI.out; simp [intOf]; omega
      · have HH2 := Lib.hid (HNEXT.out (fun _ => he))
        have e0 : ((i : Int) == 0) = false := by simp; omega
        have p0 := HPREV2.out h0
        obtain ⟨pe, hpe⟩ : ∃ q, q = s[i - 1].e := ⟨_, rfl⟩
        rw [← hpe] at p0 he
        have hwi : IntKind.i64.wrap ((i : Int) - 1) = ((i - 1 : Nat) : Int) := (IntWalk.i64_in _ (by omega)).trans (by omega)
        have hpi : i - 1 < n := by omega
        have hne : (r.e != pe) = true := by simpa using he
        obtain ⟨j, hj⟩ : ∃ j, j = i - 1 := ⟨_, rfl⟩
        rw [← hj] at p0 hwi hpi
        clear h0 he hi hj hpe HNEXT HSAME HPREV2
        go_wp2_with fail
        go_quiet (fail)
        go_wp2_with fail
        obtain ⟨w3, hwq⟩ : ∃ q, q = World.drewN w2 nq := ⟨_, rfl⟩
        have hbq : Below (World.heap w2).size w2 w3 := by rw [hwq]; exact below_drewN (Below.refl _ _) _
        rw [← hwq]
        have HX3 := Lib.hid (below_at2 hbq HX2.out); have HO3 := Lib.hid (HO2.out.later hbq); have HW3 := Lib.hid (HW2.out.later hbq); have HT3 := Lib.hid (HT2.out.later hbq); have HG3 := Lib.hid (HG2.out.trans (Grew.of_below g a1 hbq))
        clear hbq hwq q0 e0 HX2 HO2 HW2 HT2 HG2
        clear p0 hwi hpi hne
        have q0 : w3.cell? ⟨X, 0, none⟩ = some (.int .i64 r.e) := Lib.cell_of_heap HX3.out 0
        go_wp2_with fail
        clear q0
        refine (tokens_any w3 r.e _ n cap s (HL.out w3 a1 HG3.out) HOK.out (by omega)).mono ?_
        rintro e w4 ⟨v4, ss4, rfl, ho4, hb4⟩
        have HX4 := Lib.hid (below_at2 hb4 HX3.out); have HO4 := Lib.hid (HO3.out.later hb4); have HW4 := Lib.hid (HW3.out.later hb4); have HT4 := Lib.hid (HT3.out.later hb4); have HG4 := Lib.hid (HG3.out.trans (Grew.of_below g a1 hb4))
        have HL4 := Lib.hid ho4
        have HNE4 := Lib.hid (show ∀ k, v4.ownBlock = some k → a1 ≠ some k from fun k hk => HT3.out.apart (ho4.1.lt k hk).1)
        clear ho4 hb4 HX3 HO3 HW3 HT3 HG3
        go_wp2_with fail
        have HNF := Lib.hid (own_ne (s := s) (e := r.e) HRM.out rfl)
        have HN24 := Lib.hid (show (leavesG (ownR s r.e)).length ≤ 1024 by rw [leavesG_len]; have := ownR_len s r.e; have := HN.out; omega)
        refine (troot_any w4 g a1 _ 2 (leavesG (ownR s r.e)) v4 (fun w' a' hgr => (HL4.out.grew HT4.out hgr HNE4.out).texts) HT4.out (fair_leaves fun y hy => HOK.out y (ownR_mem.1 hy).1) (by
          rw [List.length_append]
          have h1 := notesH_len s (by have := HN.out; omega) H
          have h2 := HH.out.2.2
          have h3 := HTL.out
          omega)).mono ?_
        rw [root_good (.inr rfl) HNF.out HN24.out, notesV_good (.inr rfl) HNF.out HN24.out]
        rintro e w5 ⟨rfl, a5, htr, hgr⟩
        have HX5 := Lib.hid (tr_other HT4.out hgr HX4.out (by decide)); have HO5 := Lib.hid (HO4.out.grew HT4.out hgr HNE.out); have HW5 := Lib.hid (own_grew HW4.out HT4.out hgr (by decide)); have HG5 := Lib.hid (HG4.out.trans hgr)
        have HT5 := Lib.hid (show Tr w5 g a5 (texts ++ notesH s (H ++ [r.e])) by rw [notesH_snoc, ← List.append_assoc]; exact htr)
        have HNE5 := Lib.hid (fun (k : Nat) hk => hgr.apart (HO4.out.1.lt k hk).2 (HNE.out k hk))
        obtain ⟨rt, hrt⟩ : ∃ x, x = rootF (Int.toNat 2) (leavesG (ownR s r.e)) := ⟨_, rfl⟩
        rw [← hrt]
        have HRT := Lib.hid hrt; have H32 := Lib.hid (show rt.length = 32 by rw [hrt]; exact rootF_32 _ _)
        clear htr hgr hrt HX4 HO4 HW4 HT4 HG4 HL4 HNE4 HNF HN24
        go_wp2_with (refine wpList_alloc_g rfl _ rfl _ _ Tryz.zeroHash rfl ?_)
        intro Q d5 hQ
        go_wp2_with (refine wpList_store_row_g (t := 36) (old := cB 32 []) rfl 36 _ _ rfl Q (c8 rt) rfl rfl hQ.out.cells (Tryz.sizeHc rt H32.out) (by rw [c8_size, H32.out]; rfl) (c8_ones _) ?_)
        intro w6 h6 k6 z6
        have hb6 : Below w5.heap.size w5 w6 := hQ.out.below.trans (k6.below (B := w5.heap.size) (fun x hx e => by have := hQ.out.eq; omega) hQ.out.below.size)
        have HQ6 := Lib.hid h6; have HX6 := Lib.hid (below_at2 hb6 HX5.out); have HO6 := Lib.hid (HO5.out.later hb6); have HW6 := Lib.hid (HW5.out.later hb6); have HT6 := Lib.hid (HT5.out.later hb6); have HG6 := Lib.hid (HG5.out.trans (Grew.of_below g a5 hb6))
        clear hQ h6 k6 z6 hb6 HX5 HO5 HW5 HT5 HG5
        have q0 : w6.cell? ⟨X, 0, none⟩ = some (.int .i64 r.e) := Lib.cell_of_heap HX6.out 0
        go_wp2_with (refine wpList_load_row rfl 36 _ rfl Q rfl 36 _ _ _ HQ6.out Tryz.underlying36 rfl (Tryz.sizeHc rt H32.out) ?_)
        refine (rear_any w6 r.e HRK.out.1.1.2 H32.out).mono ?_
        rintro e w7 ⟨v7, rfl, ho7, hb7⟩
        obtain ⟨ad7, cap7, rfl, _, _⟩ := (ho7.rd u8_len).shape
        obtain ⟨k7, hk7⟩ : ∃ k, k = (earL r.e rt).length := ⟨_, rfl⟩
        rw [← hk7] at ho7 ⊢
        have HV7 := Lib.hid (show Own w7 0 5 u8E 1 (slV (ad7, k7, cap7)) (earL r.e rt) from ho7.mono (Nat.zero_le _))
        have HX7 := Lib.hid (below_at2 hb7 HX6.out); have HO7 := Lib.hid (HO6.out.later hb7); have HW7 := Lib.hid (HW6.out.later hb7); have HT7 := Lib.hid (HT6.out.later hb7); have HG7 := Lib.hid (HG6.out.trans (Grew.of_below g a5 hb7))
        clear ho7 hb7 hk7 q0 HQ6 HX6 HO6 HW6 HT6 HG6
        go_wp2_with (at_builtin; refine own_app (us := #[slV (ad7, k7, cap7)]) (enc := stE) rfl _ _ _ rfl Tryz.underlying26 Tryz.infoTx rfl (by decide) ((ad7, k7, cap7) : SlV) HO7.out.1 rfl rfl rfl rfl (stE_one _) (by have := HSL.out; have := HH.out.2.2; unfold maxLen; omega) (by have := HSL.out; have := HH.out.2.2; omega) (B := w.heap.size) (w0 := w7) (Below.refl _ _) (Nat.le_refl _) HG7.out.1.size HG7.out.1.size ?_)
        intro v8 w8 ho8 _ hg8 hm8
        have hk8 := Keep.of_grown hg8
        have HO8 := Lib.hid (show OTx w8 w.heap.size v8 (ss ++ [(ad7, k7, cap7)]) ((H ++ [r.e]).map (headL s)) by
          rw [List.map_append]
          have h9 := HO7.out.snoc HV7.out hg8 ho8
          rw [HRT.out] at h9
          exact h9)
        have HX8 := Lib.hid (hk8.at HX7.out (fun e => by obtain ⟨cs, fr, h9⟩ := HO7.out.1.cellsAt e; rw [HX7.out] at h9; cases h9))
        have HW8 := Lib.hid (HW7.out.keep hk8 (fun k hk e => by
          obtain ⟨cs, fr, h9⟩ := HO7.out.1.cellsAt e
          obtain ⟨cs2, fr2, h8⟩ := HW7.out.cellsAt hk
          rw [h9] at h8; cases h8))
        have HT8 := Lib.hid (HT7.out.keep2 hk8 (fun e => by
          obtain ⟨cs, fr, h9⟩ := HO7.out.1.cellsAt e
          obtain ⟨tv, h8⟩ := HT7.out.gcell
          rw [h9] at h8; cases h8) (fun x hx e => HNE5.out x e hx) (fun x cs fr h8 e => by
          obtain ⟨cs2, fr2, h9⟩ := HO7.out.1.cellsAt e
          rw [h9] at h8; cases h8))
        have HG8 := Lib.hid (show Grew w g a w8 a5 from ⟨HG7.out.1.then hk8 (fun x hx => .inr (HO7.out.1.lt x hx).1), HG7.out.2⟩)
        have HNE8 := Lib.hid (show ∀ k, v8.ownBlock = some k → a5 ≠ some k from fun k hk => by
          rcases hm8 with ⟨e, _⟩ | ⟨x, e, hx⟩
          · exact HNE5.out k (by rw [← e]; exact hk)
          · rw [e] at hk; cases hk; exact HT7.out.apart hx)
        clear ho8 hg8 hm8 hk8 HX7 HO7 HW7 HT7 HG7 HV7
        have q0 : w8.cell? ⟨X, 0, none⟩ = some (.int .i64 r.e) := Lib.cell_of_heap HX8.out 0
        have q0b : ∀ o, (w8.alloc o).cell? ⟨X, 0, none⟩ = some (.int .i64 r.e) := fun o => Lib.cell_of_heap (below_at2 ((Below.refl _ _).alloc (Nat.le_refl _) o) HX8.out) 0
        go_wp2_with (at_builtin; refine own_app (us := #[.int .i64 r.e]) (enc := intE) rfl _ _ _ rfl Tryz.underlying23 Tryz.infoInt rfl (by decide) r.e HW8.out rfl rfl rfl rfl (by intro u hu; rw [List.mem_singleton.1 hu]; rfl) (by have := HH.out.2.2; unfold maxLen; omega) (by have := HH.out.2.2; omega) (B := w.heap.size) (w0 := w8) (Below.refl _ _) (Nat.le_refl _) HG8.out.1.size HG8.out.1.size ?_)
        intro v9 w9 ho9 _ hg9 _
        have hk9 := Keep.of_grown hg9
        have HW9 := Lib.hid ho9
        have HO9 := Lib.hid (HO8.out.keep hk9 (fun x hx => by
          obtain ⟨cs, fr, h9⟩ := HW8.out.cellsAt hx
          exact ⟨cs, _, fr, h9, by decide⟩))
        have HT9 := Lib.hid (HT8.out.keep hk9 (fun x cs T fr h8 e => by
          obtain ⟨cs2, fr2, h9⟩ := HW8.out.cellsAt e
          rw [h9] at h8; cases h8; decide))
        have HG9 := Lib.hid (show Grew w g a w9 a5 from ⟨HG8.out.1.then hk9 (fun x hx => .inr (HW8.out.lt x hx).1), HG8.out.2⟩)
        clear ho9 hg9 hk9 q0 q0b HX8 HO8 HW8 HT8 HG8 HNE5
        go_wp2_with fail
        go_roundw
        case rel => exact ⟨i + 1, _, a5, H ++ [r.e], by go_num, by have := HHI.out; omega, HH2, HO9, Lib.hid (by rw [List.length_append, List.length_append, HSL.out]; rfl), HW9, HT9, HG9, HNE8⟩
        case measure => have := HHI.out; simp [intOf]; omega
    · obtain rfl : i = n := by omega
      have HD := Lib.hid (HeadsAt.done HS.out (by have := HH.out; rw [HN.out] at this; exact this))
      have HE := Lib.hid (show H.map (headL s) = tableL s by rw [HD.out, tableL_heads HS.out])
      rw [HE.out] at HO
      rw [HD.out] at HW HT1
      go_wp2_with fail
      go_ret2
      exact ⟨_, _, ss, a1, rfl, HO.out, HW.out, HT1.out, HG.out, HNE.out⟩
end
section
open Go.RowKit

/-- The texts that Root sums, if there is a table. -/
def rootNt (l : List LRow) : List (List UInt8) := match sortedF l with
  | some s => notesT s
  | none => []
theorem rootNt_some {l s : List LRow} (h : sortedF l = some s) : rootNt l = notesT s := by unfold rootNt; rw [h]
theorem rootNt_none {l : List LRow} (h : sortedF l = none) : rootNt l = [] := by unfold rootNt; rw [h]
theorem rootT_none {l : List LRow} (h : sortedF l = none) : rootT l = (zero32, 2) := by unfold rootT; rw [h]
set_option maxHeartbeats 16000000 in
set_option maxRecDepth 100000 in
theorem rroot_any (w : World) (g : Nat) (a : Option Nat) (texts : List (List UInt8)) (ad : Option Addr) (n cap : Nat) (l : List LRow) (hl : ∀ w' a', Grew w g a w' a' → Rd w' rowE 6 (.slice ad n cap) l) (hok : ∀ r ∈ l, ROk r) (hn : n < 1000000000) (ht : Tr w g a texts) (htl : texts.length < 10000000) :
    Calls Tryz.prog 18 #[.pointer (some ⟨g, 0, none⟩), .slice ad n cap] w (TrRet w g a (texts ++ rootNt l) (.tuple #[.agg (c8 (rootT l).1), .int .i64 (rootT l).2])) := by
  obtain ⟨RN, hRN⟩ : ∃ x, x = rootNt l := ⟨_, rfl⟩
  obtain ⟨RV, hRV⟩ : ∃ x, x = rootT l := ⟨_, rfl⟩
  rw [← hRN, ← hRV]
  have HL := Lib.hid hl; have HOK := Lib.hid hok; have HN := Lib.hid hn; have HT := Lib.hid ht; have HTL := Lib.hid htl; have HRN := Lib.hid hRN; have HRV := Lib.hid hRV
  clear hl hok hn ht htl hRN hRV
  go_enter Tryz.func18, Tryz.ntmps18
  go_wp2_with (refine wpList_alloc_g rfl _ rfl _ _ Tryz.zeroHash rfl ?_)
  intro R w1 hR
  have HR1 := Lib.hid hR.out.cells; have HT1 := Lib.hid (HT.out.later hR.out.below); have HG1 := Lib.hid (Grew.of_below g a hR.out.below); have HRw := Lib.hid (show w.heap.size ≤ R by rw [hR.out.eq]; exact Nat.le_refl _)
  clear hR
  go_wp2_with fail
  refine (rsorted_any w1 _ n cap l (HL.out w1 a HG1.out) HOK.out HN.out).mono ?_
  rintro e w2 ⟨hb2, ⟨hF, rfl⟩ | ⟨v2, s, hF, rfl, ho2⟩⟩
  · have HR2 := Lib.hid (below_at2 hb2 HR1.out); have HT2 := Lib.hid (HT1.out.later hb2); have HG2 := Lib.hid (HG1.out.trans (Grew.of_below g a hb2)); have HF := Lib.hid hF
    clear hb2 hF HR1 HT1 HG1
    go_wp2_with (refine wpList_store_row_g (t := 36) (old := cB 32 []) rfl 36 _ _ rfl R (c8 zero32) rfl rfl HR2.out (Tryz.sizeHs _ zero32_length) (by rw [c8_size, zero32_length]; rfl) (by rw [← cB_full 32 _ zero32_length]; exact one_b _ _) ?_)
    intro w3 h3 k3 z3
    have H3 := Lib.hid h3
    have HT3 := Lib.hid (HT2.out.keep1 k3 HR2.out (by decide)); have HG3 := Lib.hid (show Grew w g a w3 a from ⟨HG2.out.1.then k3 (fun x hx => .inr (by have := HRw.out; omega)), HG2.out.2⟩)
    clear h3 k3 z3
    go_wp2_with fail
    exact bodyPost_ret (res_row_val rfl _ _ R _ (c8 zero32) _ _ rfl H3.out Tryz.underlying36 rfl (Tryz.sizeHs _ zero32_length) _ rfl) rfl ⟨by rw [HRV.out, rootT_none HF.out]; rfl, a, by rw [HRN.out, rootNt_none HF.out, List.append_nil]; exact HT3.out, HG3.out⟩
  · obtain ⟨ad2, cap2, rfl, _, _⟩ := (ho2.rd rowE_len).shape
    have hso := sort_ok hF HOK.out
    obtain ⟨m, hm⟩ : ∃ m, m = s.length := ⟨_, rfl⟩
    rw [← hm] at ho2 ⊢
    have HR2 := Lib.hid (below_at2 hb2 HR1.out); have HT2 := Lib.hid (HT1.out.later hb2); have HG2 := Lib.hid (HG1.out.trans (Grew.of_below g a hb2)); have HF := Lib.hid hF; have HO2 := Lib.hid ho2; have HSO := Lib.hid hso; have HM := Lib.hid hm
    clear hb2 hF ho2 hso hm HR1 HT1 HG1
    go_wp2_with fail
    refine (earners_any w2 g a texts _ m cap2 s (fun w' a' hgr => (own_grew HO2.out HT2.out hgr (by decide)).rd rowE_len) HSO.out.1 (sortedF_sorted HF.out) (by have := HSO.out.2.2; have := HM.out; omega) HT2.out (by have := HTL.out; omega)).mono ?_
    rintro e w3 ⟨vo, vw, ss, a3, rfl, hx3, hw3, ht3, hg3, hn3⟩
    obtain ⟨ad3, cap3, rfl, _, _⟩ := hx3.texts.shape
    obtain ⟨m3, hm3⟩ : ∃ m, m = (tableL s).length := ⟨_, rfl⟩
    rw [← hm3] at hx3 hn3 ⊢
    have HR3 := Lib.hid (tr_other HT2.out hg3 HR2.out (by decide)); have HX3 := Lib.hid hx3; have HT3 := Lib.hid ht3; have HN3 := Lib.hid hn3; have HG3 := Lib.hid (HG2.out.trans hg3)
    have HNT := Lib.hid (show (texts ++ notesH s ((groupsF s).map (·.1))).length < 900000000 by
      rw [List.length_append]
      have h1 := notesH_len s HSO.out.2.2 ((groupsF s).map (·.1))
      have h2 := (groupsF_mem s).1
      have h3 := HTL.out
      have h4 := HSO.out.2.2
      rw [List.length_map] at h1
      omega)
    clear hx3 hw3 ht3 hg3 hn3 hm3 HR2 HT2 HG2 HO2
    go_wp2_with fail
    refine (troot_any w3 g a3 _ 1 (tableL s) _ (fun w' a' hgr => (HX3.out.grew HT3.out hgr HN3.out).texts) HT3.out (fair_table HSO.out.1) HNT.out).mono ?_
    rw [root_good (.inl rfl) (table_ne HSO.out.2.1) (table_1024 HSO.out.2.2), notesV_good (.inl rfl) (table_ne HSO.out.2.1) (table_1024 HSO.out.2.2)]
    rintro e w4 ⟨rfl, a4, ht4, hg4⟩
    have HR4 := Lib.hid (tr_other HT3.out hg4 HR3.out (by decide)); have HG4 := Lib.hid (HG3.out.trans hg4)
    have HT4 := Lib.hid (show Tr w4 g a4 (texts ++ RN) by rw [HRN.out, rootNt_some HF.out]; unfold notesT; rw [← List.append_assoc]; exact ht4)
    obtain ⟨rt, hrt⟩ : ∃ x, x = rootF (Int.toNat 1) (tableL s) := ⟨_, rfl⟩
    rw [← hrt]
    have H32 := Lib.hid (show rt.length = 32 by rw [hrt]; exact rootF_32 _ _)
    have HV := Lib.hid (show RV = (rt, 0) by rw [HRV.out, rootT_some HF.out, hrt]; rfl)
    clear ht4 hg4 hrt HR3 HT3 HG3 HX3 HN3 HNT
    go_wp2_with (refine wpList_store_row_g (t := 36) (old := cB 32 []) rfl 36 _ _ rfl R (c8 rt) rfl rfl HR4.out (Tryz.sizeHc rt H32.out) (by rw [c8_size, H32.out]; rfl) (c8_ones _) ?_)
    intro w5 h5 k5 z5
    have H5 := Lib.hid h5
    have HT5 := Lib.hid (HT4.out.keep1 k5 HR4.out (by decide)); have HG5 := Lib.hid (show Grew w g a w5 a4 from ⟨HG4.out.1.then k5 (fun x hx => .inr (by have := HRw.out; omega)), HG4.out.2⟩)
    clear h5 k5 z5
    go_wp2_with fail
    exact bodyPost_ret (res_row_val rfl _ _ R _ (c8 rt) _ _ rfl H5.out Tryz.underlying36 rfl (Tryz.sizeHc rt H32.out) _ rfl) rfl ⟨by rw [HV.out]; rfl, a4, HT5.out, HG5.out⟩
/-- What plain hands back. -/
def PlainRet (w : World) (l : List LRow) (e : Ending) (w' : World) : Prop := ∃ v, e = .returned v ∧ Own w' w.heap.size 57 rowE 6 v l ∧ Below w.heap.size w w'
theorem rowE_arr (r : LRow) : (#[.int .i64 r.e, .int .i64 r.t, .int .u64 (uw0 r.m), .int .u64 (uw1 r.m), .int .u64 (uw2 r.m), .int .u64 (uw3 r.m)] : Array Value).toList = rowE r := rfl
set_option maxHeartbeats 16000000 in
set_option maxRecDepth 100000 in
theorem plain_any (w : World) (ad : Option Addr) (n cap : Nat) (l : List LRow) (hr : Rd w rowE 6 (.slice ad n cap) l) (hn : n < 1000000000) :
    Calls Tryz.prog 16 #[.slice ad n cap] w (PlainRet w l) := by
  have hnn := hr.size
  have HR := Lib.hid hr; have HN := Lib.hid hnn
  clear hr hnn
  go_enter Tryz.func16, Tryz.ntmps16
  go_wp2_with fail
  go_loopw [3, 8] (fun vo y wr => ∃ (i : Nat), y = .int .i64 i ∧ i ≤ n ∧ Hid (Own wr w.heap.size 57 rowE 6 vo (l.take i)) ∧ Hid (Below w.heap.size w wr)) (fun _ y _ => n - (intOf y).toNat)
  case atStart => exact ⟨0, rfl, by omega, Lib.hid (Own.nil _ _ _ _ _), Lib.hid (Below.refl _ _)⟩
  case round =>
    obtain ⟨i, rfl, hin, HO, HB⟩ := hrel
    by_cases hlt : i < n
    · have hi : i < l.length := by have := HN.out; omega
      obtain ⟨bb, off, hbb, _, c0, c1, c2, c3, c4, c5⟩ := (HR.out.later HB.out).six i hi
      subst hbb
      have htk := List.take_succ_eq_append_getElem hi
      obtain ⟨r, hrr⟩ : ∃ r, r = l[i] := ⟨_, rfl⟩
      rw [← hrr] at c0 c1 c2 c3 c4 c5 htk
      have HTK := Lib.hid htk; have HTL := Lib.hid (show (l.take i).length = i by rw [List.length_take]; omega)
      clear htk hrr hi
      go_wp2_with (refine wpList_alloc_g rfl _ rfl _ _ Tryz.zeroRow rfl ?_)
      intro X d1 hX
      go_wp2_with (refine wpList_store_row_g (t := 127) (old := #[.int .i64 0, .int .i64 0, .int .u64 0, .int .u64 0, .int .u64 0, .int .u64 0]) rfl 127 _ _ rfl X #[.int .i64 r.e, .int .i64 r.t, .int .u64 (uw0 r.m), .int .u64 (uw1 r.m), .int .u64 (uw2 r.m), .int .u64 (uw3 r.m)] rfl rfl hX.out.cells Tryz.sizeRow rfl (one_row r) ?_)
      intro d2 hxX kX zX
      clear zX
      have hbX : Below wr.heap.size wr d2 := hX.out.below.trans (kX.below (B := wr.heap.size) (fun x hx e => by have := hX.out.eq; omega) hX.out.below.size)
      have HX2 := Lib.hid hxX; have HO2 := Lib.hid (HO.out.later hbX); have HB2 := Lib.hid (HB.out.trans (hbX.mono HB.out.size))
      clear hX hxX kX hbX HO HB c0 c1 c2 c3 c4 c5
      go_wp2_with (first
        | (refine wpList_load_row rfl 127 _ rfl X rfl 127 _ _ _ HX2.out Tryz.underlying127 rfl Tryz.sizeRow ?_)
        | (at_builtin; refine own_app (us := #[.int .i64 r.e, .int .i64 r.t, .int .u64 (uw0 r.m), .int .u64 (uw1 r.m), .int .u64 (uw2 r.m), .int .u64 (uw3 r.m)]) (enc := rowE) rfl _ _ _ rfl Tryz.underlying31 Tryz.infoRRow rfl (by decide) r HO2.out rfl rfl rfl rfl (rowE_one r) (by have := HTL.out; unfold maxLen; omega) (by have := HTL.out; omega) HB2.out (Nat.le_refl _) HB2.out.size (Nat.le_refl _) ?_))
      intro v' w' ho' hb' hg' _
      rw [← HTK.out] at ho'
      have HO3 := Lib.hid ho'; have HB3 := Lib.hid hb'
      clear ho' hb' hg' HX2 HO2 HB2
      go_wp2_with fail
      go_roundw
      case rel => exact ⟨i + 1, by go_num, hlt, HO3, HB3⟩
      case measure => simp [intOf]; omega
    · obtain rfl : i = n := by omega
      have HE := Lib.hid (show l.take i = l by rw [List.take_of_length_le (by rw [HN.out]; exact Nat.le_refl _)])
      rw [HE.out] at HO
      go_wp2_with fail
      go_ret
      exact ⟨_, rfl, HO.out, HB.out⟩
end
section
open Go.RowKit

theorem rsorted2_any (w : World) (ad : Option Addr) (n cap : Nat) (l : List LRow) (hr : Rd w rowE 6 (.slice ad n cap) l) (hok : ∀ r ∈ l, ROk r) : Calls Tryz.prog 15 #[.slice ad n cap] w (RSortedRet w l) := by
  rcases Nat.lt_or_ge 1024 n with h1 | h1
  · have hn : n = l.length := hr.size
    have h0 : 0 < n := by omega
    have HF := Lib.hid (sortedF_len (l := l) (.inr (by omega)))
    clear hr hok hn
    go_enter Tryz.func15, Tryz.ntmps15
    go_wp2_with fail
    go_ret2
    exact ⟨Below.refl _ _, .inl ⟨HF.out, rfl⟩⟩
  · exact rsorted_any w ad n cap l hr hok (by omega)
set_option maxHeartbeats 16000000 in
set_option maxRecDepth 100000 in
theorem plain2_any (w : World) (ad : Option Addr) (n cap : Nat) (l : List LRow) (hr : Rd w rowE 6 (.slice ad n cap) l) (hn : n ≤ 2932031007317) :
    Calls Tryz.prog 16 #[.slice ad n cap] w (PlainRet w l) := by
  have hnn := hr.size
  have HR := Lib.hid hr; have HN := Lib.hid hnn
  clear hr hnn
  go_enter Tryz.func16, Tryz.ntmps16
  go_wp2_with fail
  go_loopw [3, 8] (fun vo y wr => ∃ (i : Nat), y = .int .i64 i ∧ i ≤ n ∧ Hid (Own wr w.heap.size 57 rowE 6 vo (l.take i)) ∧ Hid (Below w.heap.size w wr)) (fun _ y _ => n - (intOf y).toNat)
  case atStart => exact ⟨0, rfl, by omega, Lib.hid (Own.nil _ _ _ _ _), Lib.hid (Below.refl _ _)⟩
  case round =>
    obtain ⟨i, rfl, hin, HO, HB⟩ := hrel
    by_cases hlt : i < n
    · have hi : i < l.length := by have := HN.out; omega
      obtain ⟨bb, off, hbb, _, c0, c1, c2, c3, c4, c5⟩ := (HR.out.later HB.out).six i hi
      subst hbb
      have htk := List.take_succ_eq_append_getElem hi
      obtain ⟨r, hrr⟩ : ∃ r, r = l[i] := ⟨_, rfl⟩
      rw [← hrr] at c0 c1 c2 c3 c4 c5 htk
      have HTK := Lib.hid htk; have HTL := Lib.hid (show (l.take i).length = i by rw [List.length_take]; omega)
      clear htk hrr hi
      go_wp2_with (refine wpList_alloc_g rfl _ rfl _ _ Tryz.zeroRow rfl ?_)
      intro X d1 hX
      go_wp2_with (refine wpList_store_row_g (t := 127) (old := #[.int .i64 0, .int .i64 0, .int .u64 0, .int .u64 0, .int .u64 0, .int .u64 0]) rfl 127 _ _ rfl X #[.int .i64 r.e, .int .i64 r.t, .int .u64 (uw0 r.m), .int .u64 (uw1 r.m), .int .u64 (uw2 r.m), .int .u64 (uw3 r.m)] rfl rfl hX.out.cells Tryz.sizeRow rfl (one_row r) ?_)
      intro d2 hxX kX zX
      clear zX
      have hbX : Below wr.heap.size wr d2 := hX.out.below.trans (kX.below (B := wr.heap.size) (fun x hx e => by have := hX.out.eq; omega) hX.out.below.size)
      have HX2 := Lib.hid hxX; have HO2 := Lib.hid (HO.out.later hbX); have HB2 := Lib.hid (HB.out.trans (hbX.mono HB.out.size))
      clear hX hxX kX hbX HO HB c0 c1 c2 c3 c4 c5
      go_wp2_with (first
        | (refine wpList_load_row rfl 127 _ rfl X rfl 127 _ _ _ HX2.out Tryz.underlying127 rfl Tryz.sizeRow ?_)
        | (at_builtin; refine own_app (us := #[.int .i64 r.e, .int .i64 r.t, .int .u64 (uw0 r.m), .int .u64 (uw1 r.m), .int .u64 (uw2 r.m), .int .u64 (uw3 r.m)]) (enc := rowE) rfl _ _ _ rfl Tryz.underlying31 Tryz.infoRRow rfl (by decide) r HO2.out rfl rfl rfl rfl (rowE_one r) (by have := HTL.out; unfold maxLen; omega) (by have := HTL.out; omega) HB2.out (Nat.le_refl _) HB2.out.size (Nat.le_refl _) ?_))
      intro v' w' ho' hb' hg' _
      rw [← HTK.out] at ho'
      have HO3 := Lib.hid ho'; have HB3 := Lib.hid hb'
      clear ho' hb' hg' HX2 HO2 HB2
      go_wp2_with fail
      go_roundw
      case rel => exact ⟨i + 1, by go_num, hlt, HO3, HB3⟩
      case measure => simp [intOf]; omega
    · obtain rfl : i = n := by omega
      have HE := Lib.hid (show l.take i = l by rw [List.take_of_length_le (by rw [HN.out]; exact Nat.le_refl _)])
      rw [HE.out] at HO
      go_wp2_with fail
      go_ret
      exact ⟨_, rfl, HO.out, HB.out⟩
end
end Go.Proofs.YtmclmccgghnglaaGreat
