/- Undo of the document's store: no condition. -/
import Derived.Test.YthnjakomkdlglaaGreatRstC
namespace Go.Proofs.YthnjakomkdlglaaGreat
open Go.RowKit

theorem Tryz.zeroRWas : (Tryz.prog.info? 208).map (·.zero) = some (some (.agg #[.string ⟨#[]⟩, .string ⟨#[]⟩, .bool false])) := by kernel_rfl
theorem Tryz.sizeRWas : (Tryz.prog.info? 208).map (·.size) = some 3 := by kernel_rfl
theorem h'keep {w w' : World} {g : Nat} {s : PS} {vL vP : Value} (h : RAt w g s vL vP) (hb : Below w.heap.size w w') : RAt w' g s vL vP :=
  ⟨(hb.block g (heap_lt h.head)).trans h.head, h.list.later hb, h.past.later hb, h.up⟩
/-- How many changes the document's store in memory has. -/
def rpastLen (w : World) (g : Nat) : Nat := match w.cell? ⟨g, 1, none⟩ with
  | some (.slice _ n _) => n
  | _ => 0
theorem wp_store_row_g {P : Program} {o : Oper} {a : Act} {w : World} {K : Act → World → Prop} {Q : Exit → Act → World → Prop} (ty : TypeId) (x y : Operand) (ho : o.op = .store ty x y)
    (g : Nat) (cells : Array Value) (hx : a.eval x = .pointer (some ⟨g, 0, none⟩)) (hy : a.eval y = .agg cells)
    (t : TypeId) (old : Array Value) (hg : w.heap[g]? = some (.cells old t (0, 0))) (hi : (P.info? ty).map (·.size) = some cells.size)
    (hold : old.size = cells.size) (h1 : cells.all (·.oneCell') = true)
    (h : ∀ w', w'.heap[g]? = some (.cells cells t (0, 0)) → Keep (· = g) w w' → w'.heap.size = w.heap.size → K (a.put o.dst undef) w') : o.wp P a w K Q :=
  wp_store_row ty x y ho g cells hx hy t old hg hi hold h1 (h _ (setRow_heap _ _ _ _ _ _ hg) (Keep.setRow (S := (· = g)) (Keep.refl _ _) (.inl rfl) _) (setRow_size _ _ _))
theorem rpastLen_of {w : World} {g : Nat} {s : PS} {F : List Nat} (h : RS w g s F) : rpastLen w g = s.past.length := by
  obtain ⟨vL, vP, h, rfl⟩ := h
  obtain ⟨ad, cap, hvp, h1, h2⟩ := h.past.shape
  unfold rpastLen
  rw [show w.cell? ⟨g, 1, none⟩ = some vP from Lib.cell_of_heap h.head 1, hvp]

set_option maxHeartbeats 8000000 in
set_option maxRecDepth 100000 in
theorem rundo_any {w : World} {g : Nat} {s : PS} {F : List Nat} (h : RS w g s F) (htl : s.t.length + s.past.length < 1099511627776) (m : Int) :
    Calls Tryz.prog 115 #[.pointer (some ⟨g, 0, none⟩), .int .i64 m] w (RRet w g F (s.undo m) (.bool (undoE s m))) := by
  have HST := Lib.hid h
  obtain ⟨vL, vP, h, hF⟩ := h
  obtain ⟨ad, cap, hvp, h1, h2⟩ := h.past.shape
  obtain ⟨n, hn⟩ : ∃ n, n = s.past.length := ⟨_, rfl⟩
  rw [← hn] at hvp h1 htl
  subst hvp
  have c1 : w.cell? ⟨g, 1, none⟩ = some (.slice ad n cap) := Lib.cell_of_heap h.head 1
  have HH := Lib.hid h.head; have HN := Lib.hid hn; have HTL := Lib.hid htl
  clear h hF
  by_cases hm : 0 ≤ m ∧ m ≤ n
  · obtain ⟨hm0, hm1⟩ := hm
    have hE : undoE s m = true := by unfold undoE; rw [← hn]; simp; omega
    have hU : s.undo m = PS.backs (n - m.toNat) s := by unfold PS.undo; rw [hE, if_pos rfl, ← hn]
    rw [hE, hU]
    obtain ⟨k, rfl⟩ := Int.eq_ofNat_of_zero_le hm0
    rw [Int.toNat_natCast]
    have hkn : k ≤ n := by omega
    have j0 : decide ((k : Int) < 0) = false := by simp
    have j1 : ¬ n < k := by omega
    clear hE hU hm0 hm1 hn
    go_enter Tryz.func115, Tryz.ntmps115
    go_wp2_with fail
    clear j0 j1
    go_loopw [5] (fun _ wr => ∃ j F', j ≤ n - k ∧ Hid (RS wr g (PS.backs j s) F') ∧ Hid (Keep (· ∈ F) w wr) ∧ Hid (∀ x ∈ F', x ∈ F ∨ w.heap.size ≤ x)) (fun _ wr => rpastLen wr g - k)
    case atStart => exact ⟨0, F, Nat.zero_le _, HST, Lib.hid (Keep.refl _ _), Lib.hid fun x hx => .inl hx⟩
    case round =>
      obtain ⟨j, F', hj, HS, HK, HF⟩ := hrel
      obtain ⟨s', hs'⟩ : ∃ s', s' = PS.backs j s := ⟨_, rfl⟩
      rw [← hs'] at HS
      have hpl : s'.past.length = n - j := by rw [hs', backs_past, ← HN.out]
      have htl : s'.t.length < 1099511627776 := by have h3 := backs_length j s; rw [← hs'] at h3; have := HTL.out; omega
      obtain ⟨vL', vP', h', hF'⟩ := HS.out
      have hmeas : rpastLen wr g = s'.past.length := rpastLen_of HS.out
      obtain ⟨ad', cap', hvp', e1, e2⟩ := h'.past.shape
      obtain ⟨q, hq⟩ : ∃ q, q = s'.past.length := ⟨_, rfl⟩
      rw [← hq] at hvp' e1 hpl hmeas
      have HB := Lib.hid hs'; have HT := Lib.hid htl; have HQ := Lib.hid hq; have HME := Lib.hid hmeas; have HF' := Lib.hid hF'; have HPL := Lib.hid hpl
      subst hvp'
      have H' := Lib.hid h'
      have c1' : wr.cell? ⟨g, 1, none⟩ = some (.slice ad' q cap') := Lib.cell_of_heap h'.head 1
      clear hs' htl hq hmeas hF' h' c1 hpl
      by_cases hlt : k < q
      · obtain ⟨l, rfl⟩ : ∃ l, q = l + 1 := ⟨q - 1, by omega⟩
        have hne : s'.past ≠ [] := by intro e; have := HQ.out; rw [e] at this; simp at this
        obtain ⟨init, r, hir⟩ : ∃ init r, s'.past = init ++ [r] := ⟨_, _, (List.dropLast_concat_getLast hne).symm⟩
        have hil : init.length = l := by have := HQ.out; rw [hir, List.length_append] at this; simp at this; omega
        obtain ⟨gp, cap2, cur, hv2, hgp, d1, d2, d3, d4⟩ := H'.out.past.opened hne
        have hadc : ad' = some ⟨gp, 0, none⟩ ∧ cap' = cap2 := ⟨(Value.slice.inj hv2).1, (Value.slice.inj hv2).2.2⟩
        obtain ⟨rfl, rfl⟩ := hadc
        have hcell : ∀ i, i < 3 → wr.cell? ⟨gp, l * 3 + i, none⟩ = (wasE r)[i]? := by
          intro i hi
          obtain ⟨ax, cx, e3, _, _, h3⟩ := H'.out.past.rd wasE_len
          obtain ⟨b, off, e4, _, h5⟩ := h3 hne
          have e5 := (Value.slice.inj e3).1.trans e4
          simp only [Option.some.injEq, Addr.mk.injEq] at e5
          obtain ⟨rfl, rfl, _⟩ := e5
          have h6 := h5 l (by have := HQ.out; omega) i hi
          have h7 : s'.past[l]'(by have := HQ.out; omega) = r := by
            have : s'.past[l]? = some r := by rw [hir, List.getElem?_append_right (by omega), hil]; simp
            rw [List.getElem?_eq_getElem (by have := HQ.out; omega)] at this
            exact Option.some.inj this
          rw [h7, Nat.zero_add] at h6
          exact h6
        have q0 : wr.cell? ⟨gp, l * 3, none⟩ = some (.string (bs r.1)) := hcell 0 (by omega)
        have q1 : wr.cell? ⟨gp, l * 3 + 1, none⟩ = some (.string (bs r.2.1)) := hcell 1 (by omega)
        have q2 : wr.cell? ⟨gp, l * 3 + 2, none⟩ = some (.bool r.2.2) := hcell 2 (by omega)
        have HIR := Lib.hid hir; have HIL := Lib.hid hil
        have hcm : ((l + 1 : Nat) : Int) = (l : Int) + 1 := by omega
        have hwl : IntKind.i64.wrap (l : Int) = (l : Int) := IntWalk.i64_in _ (by have := HTL.out; have := HPL.out; omega)
        have hll : (l : Int) < (l : Int) + 1 := by omega
        have hl40 : l < 1099511627776 := by have := HTL.out; have := HPL.out; omega
        have HQS : Hid (wr.cell? ⟨g, 1, none⟩ = some (.slice (some ⟨gp, 0, none⟩) (l + 1) cap') ∧ wr.cell? ⟨gp, l * 3, none⟩ = some (.string (bs r.1)) ∧ wr.cell? ⟨gp, l * 3 + 1, none⟩ = some (.string (bs r.2.1)) ∧ wr.cell? ⟨gp, l * 3 + 2, none⟩ = some (.bool r.2.2)) := Lib.hid ⟨c1', q0, q1, q2⟩
        have HGP := Lib.hid (heap_lt hgp)
        clear hcell hir hil hv2 hgp d1 d2 d3 d4 hne q0 q1 q2
        go_wp2_with fail
        have hS : (fun w' : World => w'.cell? ⟨g, 1, none⟩ = some (.slice (some ⟨gp, 0, none⟩) (l + 1) cap') ∧ w'.cell? ⟨gp, l * 3, none⟩ = some (.string (bs r.1)) ∧ w'.cell? ⟨gp, l * 3 + 1, none⟩ = some (.string (bs r.2.1)) ∧ w'.cell? ⟨gp, l * 3 + 2, none⟩ = some (.bool r.2.2)) wr.drew := HQS.out
        refine wp_region_till (fun w' => w'.cell? ⟨g, 1, none⟩ = some (.slice (some ⟨gp, 0, none⟩) (l + 1) cap') ∧ w'.cell? ⟨gp, l * 3, none⟩ = some (.string (bs r.1)) ∧ w'.cell? ⟨gp, l * 3 + 1, none⟩ = some (.string (bs r.2.1)) ∧ w'.cell? ⟨gp, l * 3 + 2, none⟩ = some (.bool r.2.2)) 13 14 (by kernel_rfl) rfl ?_
        have HAdr := Lib.hid (Below.drew (Below.refl wr.heap.size wr))
        refine till_take 0 (some 24) rfl rfl (by kernel_rfl) (by kernel_rfl) (by kernel_rfl) (by kernel_rfl) (by kernel_rfl) (by kernel_rfl) (fun _ _ _ h => h) (.inl ⟨by rfl, fun w' _ => (by go_simp; rfl)⟩) hS ?_
        go_frame
        refine till_take 1 (some 25) rfl rfl (by kernel_rfl) (by kernel_rfl) (by kernel_rfl) (by kernel_rfl) (by kernel_rfl) (by kernel_rfl) (fun _ _ _ h => h) (.inl ⟨by rfl, fun w' _ => (by go_simp; rfl)⟩) hS ?_
        go_frame
        refine till_take 2 (some 26) rfl rfl (by kernel_rfl) (by kernel_rfl) (by kernel_rfl) (by kernel_rfl) (by kernel_rfl) (by kernel_rfl) (fun _ _ _ h => h) (.inl ⟨by rfl, fun w' _ => (by go_simp; rfl)⟩) hS ?_
        go_frame
        refine till_take 3 (some 27) rfl rfl (by kernel_rfl) (by kernel_rfl) (by kernel_rfl) (by kernel_rfl) (by kernel_rfl) (by kernel_rfl) (fun _ _ _ h => h) (.inl ⟨by rfl, fun w' hS' => (by have hc : w'.cell? ⟨g, 1, none⟩ = _ := hS'.1; go_simp; rfl)⟩) hS ?_
        go_frame
        refine till_take 4 (some 28) rfl rfl (by kernel_rfl) (by kernel_rfl) (by kernel_rfl) (by kernel_rfl) (by kernel_rfl) (by kernel_rfl) (fun _ _ _ h => h) (.inl ⟨by rfl, fun w' _ => (by go_simp; rfl)⟩) hS ?_
        go_frame
        refine till_take 5 (some 29) rfl rfl (by kernel_rfl) (by kernel_rfl) (by kernel_rfl) (by kernel_rfl) (by kernel_rfl) (by kernel_rfl) (fun _ _ _ h => h) (.inl ⟨by rfl, fun w' _ => (by go_simp; rfl)⟩) hS ?_
        go_frame
        refine till_take 6 (some 30) rfl rfl (by kernel_rfl) (by kernel_rfl) (by kernel_rfl) (by kernel_rfl) (by kernel_rfl) (by kernel_rfl) (fun _ _ _ h => h) (.inl ⟨by rfl, fun w' _ => (by go_simp; rfl)⟩) hS ?_
        go_frame
        refine till_take 7 (some 31) rfl rfl (by kernel_rfl) (by kernel_rfl) (by kernel_rfl) (by kernel_rfl) (by kernel_rfl) (by kernel_rfl) (fun _ _ _ h => h) (.inl ⟨by rfl, fun w' hS' => (by have hc : w'.cell? ⟨g, 1, none⟩ = _ := hS'.1; go_simp; rfl)⟩) hS ?_
        go_frame
        refine till_take 8 (some 32) rfl rfl (by kernel_rfl) (by kernel_rfl) (by kernel_rfl) (by kernel_rfl) (by kernel_rfl) (by kernel_rfl) (fun _ _ _ h => h) (.inl ⟨by rfl, fun w' _ => (by go_simp; rfl)⟩) hS ?_
        go_frame
        refine till_take 9 (some 33) rfl rfl (by kernel_rfl) (by kernel_rfl) (by kernel_rfl) (by kernel_rfl) (by kernel_rfl) (by kernel_rfl) (fun _ _ _ h => h) (.inl ⟨by rfl, fun w' _ => (by go_simp; rfl)⟩) hS ?_
        go_frame
        refine till_take 10 (some 34) rfl rfl (by kernel_rfl) (by kernel_rfl) (by kernel_rfl) (by kernel_rfl) (by kernel_rfl) (by kernel_rfl) (fun _ _ _ h => h) (.inl ⟨by rfl, fun w' _ => (by go_simp; rfl)⟩) hS ?_
        go_frame
        refine till_take 11 (some 35) rfl rfl (by kernel_rfl) (by kernel_rfl) (by kernel_rfl) (by kernel_rfl) (by kernel_rfl) (by kernel_rfl) (fun _ _ _ h => h) (.inl ⟨by rfl, fun w' hS' => (by have hc : w'.cell? ⟨gp, l * 3, none⟩ = _ := hS'.2.1; have hc1 : w'.cell? ⟨gp, l * 3 + 1, none⟩ = _ := hS'.2.2.1; have hc2 : w'.cell? ⟨gp, l * 3 + 2, none⟩ = _ := hS'.2.2.2; go_simp; rfl)⟩) hS ?_
        go_frame
        refine till_one 12 rfl (by kernel_rfl) fun K hK => ?_
        simp only [List.getElem_toArray, List.getElem_cons_succ, List.getElem_cons_zero]
        rw [if_pos (by rfl)]
        go_simp
        obtain ⟨w1, hw1⟩ : ∃ w1, w1 = (wr.alloc (.cells #[.string (bs []), .string (bs []), .bool false] 208)).drew := ⟨_, rfl⟩
        obtain ⟨R, hRR⟩ : ∃ R, R = wr.heap.size := ⟨_, rfl⟩
        rw [show (wr.alloc (Obj.cells #[Value.string { data := #[] }, Value.string { data := #[] }, Value.bool false] 208)).drew = w1 from hw1.symm, ← hRR]
        have hb1 : Below wr.heap.size wr w1 := by rw [hw1]; exact ((Below.refl _ _).alloc (Nat.le_refl _) _).drew
        have hr1 : w1.heap[R]? = some (.cells #[.string (bs []), .string (bs []), .bool false] 208 (0, 0)) := by rw [hw1, hRR]; exact heap_alloc_new _ _
        refine hK _ _ (fun _ _ => ⟨(hb1.cell (p := ⟨g, 1, none⟩) (heap_lt H'.out.head)).trans hS.1, (hb1.cell (p := ⟨gp, l * 3, none⟩) HGP.out).trans hS.2.1, (hb1.cell (p := ⟨gp, l * 3 + 1, none⟩) HGP.out).trans hS.2.2.1, (hb1.cell (p := ⟨gp, l * 3 + 2, none⟩) HGP.out).trans hS.2.2.2⟩) ?_
        have HB1 := Lib.hid hb1; have HR1 := Lib.hid hr1; have HRR := Lib.hid hRR
        clear hK hw1 hb1 hr1 hRR hS
        refine till_one 13 rfl (by kernel_rfl) fun K hK => ?_
        simp only [List.getElem_toArray, List.getElem_cons_succ, List.getElem_cons_zero]
        rw [if_pos (by rfl)]
        refine wp_store_row_g (t := 208) (old := #[.string (bs []), .string (bs []), .bool false]) 208 _ _ rfl R #[.string (bs r.1), .string (bs r.2.1), .bool r.2.2] rfl rfl HR1.out Tryz.sizeRWas rfl (by simp [Value.oneCell']) ?_
        intro w2 h2' k12 z12
        refine hK _ _ (fun h => absurd rfl h) ?_
        refine till_done (by kernel_rfl) ?_ _
        have hb12 : Below wr.heap.size wr w2 := HB1.out.trans (k12.below (B := wr.heap.size) (fun x hx e => by have := HRR.out; omega) HB1.out.size)
        have H2 := Lib.hid (h'keep H'.out hb12)
        have HW2 := Lib.hid h2'; have HB12 := Lib.hid hb12
        clear hK h2' k12 z12 hb12 c1'
        have c1' : w2.cell? ⟨g, 1, none⟩ = some (.slice (some ⟨gp, 0, none⟩) (l + 1) cap') := Lib.cell_of_heap H2.out.head 1
        have hlc : (l : Int) ≤ (cap' : Int) := by omega
        have hlc2 : (l : Int) ≤ (l : Int) + 1 := by omega
        go_wp2_with fail
        have hS : (fun w' : World => w'.cell? ⟨g, 1, none⟩ = some (.slice (some ⟨gp, 0, none⟩) (l + 1) cap')) w2.drew := c1'
        refine wp_region_till (fun w' => w'.cell? ⟨g, 1, none⟩ = some (.slice (some ⟨gp, 0, none⟩) (l + 1) cap')) 14 15 (by kernel_rfl) rfl ?_
        refine till_take 0 (some 36) rfl rfl (by kernel_rfl) (by kernel_rfl) (by kernel_rfl) (by kernel_rfl) (by kernel_rfl) (by kernel_rfl) (fun _ _ _ h => h) (.inl ⟨by rfl, fun w' _ => (by go_simp; rfl)⟩) hS ?_
        go_frame
        refine till_take 1 (some 37) rfl rfl (by kernel_rfl) (by kernel_rfl) (by kernel_rfl) (by kernel_rfl) (by kernel_rfl) (by kernel_rfl) (fun _ _ _ h => h) (.inl ⟨by rfl, fun w' _ => (by go_simp; rfl)⟩) hS ?_
        go_frame
        refine till_take 2 (some 38) rfl rfl (by kernel_rfl) (by kernel_rfl) (by kernel_rfl) (by kernel_rfl) (by kernel_rfl) (by kernel_rfl) (fun _ _ _ h => h) (.inl ⟨by rfl, fun w' _ => (by go_simp; rfl)⟩) hS ?_
        go_frame
        refine till_take 3 (some 39) rfl rfl (by kernel_rfl) (by kernel_rfl) (by kernel_rfl) (by kernel_rfl) (by kernel_rfl) (by kernel_rfl) (fun _ _ _ h => h) (.inl ⟨by rfl, fun w' _ => (by go_simp; rfl)⟩) hS ?_
        go_frame
        refine till_take 4 (some 40) rfl rfl (by kernel_rfl) (by kernel_rfl) (by kernel_rfl) (by kernel_rfl) (by kernel_rfl) (by kernel_rfl) (fun _ _ _ h => h) (.inl ⟨by rfl, fun w' hS' => (by have hc : w'.cell? ⟨g, 1, none⟩ = _ := hS'; go_simp; rfl)⟩) hS ?_
        go_frame
        refine till_take 5 (some 41) rfl rfl (by kernel_rfl) (by kernel_rfl) (by kernel_rfl) (by kernel_rfl) (by kernel_rfl) (by kernel_rfl) (fun _ _ _ h => h) (.inl ⟨by rfl, fun w' _ => (by go_simp; rfl)⟩) hS ?_
        go_frame
        refine till_take 6 (some 42) rfl rfl (by kernel_rfl) (by kernel_rfl) (by kernel_rfl) (by kernel_rfl) (by kernel_rfl) (by kernel_rfl) (fun _ _ _ h => h) (.inl ⟨by rfl, fun w' _ => (by go_simp; rfl)⟩) hS ?_
        go_frame
        refine till_take 7 (some 43) rfl rfl (by kernel_rfl) (by kernel_rfl) (by kernel_rfl) (by kernel_rfl) (by kernel_rfl) (by kernel_rfl) (fun _ _ _ h => h) (.inl ⟨by rfl, fun w' _ => (by go_simp; rfl)⟩) hS ?_
        go_frame
        refine till_take 8 (some 44) rfl rfl (by kernel_rfl) (by kernel_rfl) (by kernel_rfl) (by kernel_rfl) (by kernel_rfl) (by kernel_rfl) (fun _ _ _ h => h) (.inl ⟨by rfl, fun w' hS' => (by have hc : w'.cell? ⟨g, 1, none⟩ = _ := hS'; go_simp; rfl)⟩) hS ?_
        go_frame
        refine till_take 9 (some 45) rfl rfl (by kernel_rfl) (by kernel_rfl) (by kernel_rfl) (by kernel_rfl) (by kernel_rfl) (by kernel_rfl) (fun _ _ _ h => h) (.inl ⟨by rfl, fun w' _ => (by go_simp; rfl)⟩) hS ?_
        go_frame
        refine till_take 10 (some 46) rfl rfl (by kernel_rfl) (by kernel_rfl) (by kernel_rfl) (by kernel_rfl) (by kernel_rfl) (by kernel_rfl) (fun _ _ _ h => h) (.inl ⟨by rfl, fun w' _ => (by go_simp; rfl)⟩) hS ?_
        go_frame
        refine till_take 11 (some 47) rfl rfl (by kernel_rfl) (by kernel_rfl) (by kernel_rfl) (by kernel_rfl) (by kernel_rfl) (by kernel_rfl) (fun _ _ _ h => h) (.inl ⟨by rfl, fun w' _ => (by go_simp; rfl)⟩) hS ?_
        go_frame
        refine till_take 12 (some 48) rfl rfl (by kernel_rfl) (by kernel_rfl) (by kernel_rfl) (by kernel_rfl) (by kernel_rfl) (by kernel_rfl) (fun _ _ _ h => h) (.inl ⟨by rfl, fun w' _ => (by go_simp; rfl)⟩) hS ?_
        go_frame
        refine till_take 13 (some 49) rfl rfl (by kernel_rfl) (by kernel_rfl) (by kernel_rfl) (by kernel_rfl) (by kernel_rfl) (by kernel_rfl) (fun _ _ _ h => h) (.inl ⟨by rfl, fun w' _ => (by go_simp; rfl)⟩) hS ?_
        go_frame
        refine till_one 14 rfl (by kernel_rfl) fun K hK => ?_
        simp only [List.getElem_toArray, List.getElem_cons_succ, List.getElem_cons_zero]
        rw [if_pos (by rfl)]
        refine wp_store1_g 28 _ _ rfl g 1 _ rfl rfl rfl rfl 30 _ H2.out.head (by kernel_rfl) (by simp) _ rfl ?_
        intro w3 h3 k23 z23
        refine hK _ _ (fun h => absurd rfl h) ?_
        refine till_done (by kernel_rfl) ?_ _
        have hb12d : Below wr.heap.size wr w2.drew := HB12.out.drew
        have hcut : LO w2.drew 208 wasE 3 (.slice (some ⟨gp, 0, none⟩) l cap') init := by
          have h4 := (H2.out.past.later ((Below.refl w2.heap.size w2).drew)).cut wasE_len l cap' (by omega) (by omega) (Nat.le_refl _)
          rw [HIR.out, List.take_left' HIL.out] at h4
          exact h4
        have hcl := rpast_close (w := wr) (w3 := w2.drew) (w4 := w2.drew) (vP' := .slice (some ⟨gp, 0, none⟩) l cap') (p' := init) H'.out hb12d hcut (Keep.refl _ _) (.inl rfl) h3 k23
        have hr3 : w3.heap[R]? = some (.cells #[.string (bs r.1), .string (bs r.2.1), .bool r.2.2] 208 (0, 0)) := k23.at HW2.out (by have := HRR.out; have := heap_lt H'.out.head; omega)
        have HC3 := Lib.hid hcl; have HR3 := Lib.hid hr3
        clear hK hS h3 k23 z23 hcut hcl hr3 c1' hlc hlc2 hb12d
        have r0 : w3.cell? ⟨R, 0, none⟩ = some (.string (bs r.1)) := Lib.cell_of_heap HR3.out 0
        have r1 : w3.cell? ⟨R, 1, none⟩ = some (.string (bs r.2.1)) := Lib.cell_of_heap HR3.out 1
        have r2 : w3.cell? ⟨R, 2, none⟩ = some (.bool r.2.2) := Lib.cell_of_heap HR3.out 2
        go_wp2_with fail
        refine (rlay_any (F := rfoot g vL' (.slice (some ⟨gp, 0, none⟩) l cap')) ⟨_, _, HC3.out.1, rfl⟩ HT.out r.1 r.2.1 r.2.2).mono ?_
        intro e w6 hr
        have hr2 := RRet.then HC3.out.2.1 HC3.out.2.2 hr
        obtain ⟨rfl, F6, h6, k6, f6⟩ := hr2
        have hback : s'.back = ⟨layP s'.t r.1 r.2.1 r.2.2, init⟩ := by
          unfold PS.back
          rw [HIR.out, List.getLast?_append]
          simp
        have hst6 : RS w6 g (PS.backs (j + 1) s) F6 := by
          rw [backs_succ, ← HB.out, hback]
          exact h6
        have hk6 : Keep (· ∈ F) w w6 := HK.out.then k6 fun x hx => HF.out x (by rw [HF'.out]; exact hx)
        have hf7 : ∀ x ∈ F6, x ∈ F ∨ w.heap.size ≤ x := by
          intro x hx
          rcases f6 x hx with h | h
          · exact HF.out x (by rw [HF'.out]; exact h)
          · exact .inr (Nat.le_trans HK.out.size h)
        have hme : rpastLen w6 g = l := by rw [rpastLen_of h6]; exact HIL.out
        have S6 := Lib.hid hst6; have K6 := Lib.hid hk6; have F6h := Lib.hid hf7; have M6 := Lib.hid hme
        clear hr h6 k6 f6 hback hst6 hk6 hf7 hme r0 r1 r2
        go_wp2_with fail
        go_roundw
        case rel => exact ⟨j + 1, _, by have := HPL.out; omega, S6, K6, F6h⟩
        case measure => rw [M6.out, HME.out]; omega
      · go_wp2_with fail
        go_ret
        have hjn : n - k = j := by have := HPL.out; omega
        refine ⟨rfl, F', ?_, HK.out, HF.out⟩
        rw [hjn, ← HB.out]
        exact HS.out
  · have hE : undoE s m = false := by unfold undoE; rw [← hn]; simp; omega
    have hU : s.undo m = s := by unfold PS.undo; rw [hE, if_neg (by simp)]
    rw [hE, hU]
    clear hE hU hn
    by_cases hm0 : m < 0
    · have j0 : decide (m < 0) = true := by simpa using hm0
      go_enter Tryz.func115, Tryz.ntmps115
      go_wp2_with fail
      go_ret
      exact ⟨rfl, _, HST.out, Keep.refl _ _, fun x hx => .inl hx⟩
    · have j0 : decide (m < 0) = false := by simpa using hm0
      have j1 : decide (m > (n : Int)) = true := by simp; omega
      go_enter Tryz.func115, Tryz.ntmps115
      go_wp2_with fail
      go_ret
      exact ⟨rfl, _, HST.out, Keep.refl _ _, fun x hx => .inl hx⟩
end Go.Proofs.YthnjakomkdlglaaGreat
