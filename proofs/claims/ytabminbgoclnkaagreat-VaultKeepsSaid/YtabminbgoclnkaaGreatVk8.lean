/- The document's store in memory; place, Get, lay: no condition. lay, Set and Delete of the document's store: no condition. Set, Delete and Undo of the document's store: no condition. Undo of the document's store: no condition. Under of the document's store: no condition. Copy of the document's store: no condition. Same of the document's store: no condition. -/
import Derived.Test.YtabminbgoclnkaaGreatVk7
namespace Go.Proofs.YtabminbgoclnkaaGreat
section
open Go.RowKit

structure RAt (w : World) (g : Nat) (s : PS) (vL vP : Value) : Prop where
 head : w.heap[g]? = some (.cells #[vL, vP] 33 (0, 0))
 list : LO w 106 pairE 2 vL s.t
 past : LO w 155 wasE 3 vP s.past
 up : Up s.t
def rfoot (g : Nat) (vL vP : Value) : List Nat := g :: (vL.ownBlock.toList ++ vP.ownBlock.toList)
def RS (w : World) (g : Nat) (s : PS) (F : List Nat) : Prop := ∃ vL vP, RAt w g s vL vP ∧ F = rfoot g vL vP
theorem rfoot_eq (g : Nat) (vL vP : Value) (x : Nat) : x ∈ rfoot g vL vP ↔ x = g ∨ vL.ownBlock = some x ∨ vP.ownBlock = some x := by
 unfold rfoot
 simp only [List.mem_cons, List.mem_append, Option.mem_toList]
theorem RAt.keep {w w' : World} {g : Nat} {s : PS} {vL vP : Value} (h : RAt w g s vL vP) {S : Nat → Prop} (hk : Keep S w w') (hS : ∀ x ∈ rfoot g vL vP, ¬ S x) : RAt w' g s vL vP where
 head := hk.at h.head (hS g ((rfoot_eq _ _ _ _).2 (.inl rfl)))
 list := h.list.keep hk fun k e => hS k ((rfoot_eq _ _ _ _).2 (.inr (.inl e)))
 past := h.past.keep hk fun k e => hS k ((rfoot_eq _ _ _ _).2 (.inr (.inr e)))
 up := h.up
theorem RS.keep {w w' : World} {g : Nat} {s : PS} {F : List Nat} (h : RS w g s F) {S : Nat → Prop} (hk : Keep S w w') (hS : ∀ x ∈ F, ¬ S x) : RS w' g s F := by
 obtain ⟨vL, vP, h, rfl⟩ := h
 exact ⟨vL, vP, h.keep hk hS, rfl⟩
theorem RS.later {w w' : World} {g : Nat} {s : PS} {F : List Nat} (h : RS w g s F) (hb : Below w.heap.size w w') : RS w' g s F :=
 h.keep (Keep.of_below (S := fun _ => False) hb) fun _ _ => id
def rstKind (o : Obj) : Bool := match o with
 | .cells _ e (0, 0) => e == 33 || e == 106 || e == 155
 | _ => false
theorem RS.kind {w : World} {g : Nat} {s : PS} {F : List Nat} (h : RS w g s F) : ∀ x ∈ F, ∃ o, w.heap[x]? = some o ∧ rstKind o = true := by
 obtain ⟨vL, vP, h, rfl⟩ := h; intro x hx; rw [rfoot_eq] at hx
 rcases hx with rfl | hx | hx
 ·exact ⟨_, h.head, rfl⟩
 ·obtain ⟨cs, hc⟩ := h.list.kind hx; exact ⟨_, hc, rfl⟩
 ·obtain ⟨cs, hc⟩ := h.past.kind hx; exact ⟨_, hc, rfl⟩
theorem RS.lt {w : World} {g : Nat} {s : PS} {F : List Nat} (h : RS w g s F) : ∀ x ∈ F, x < w.heap.size := by
 intro x hx; obtain ⟨o, ho, _⟩ := h.kind x hx
 exact heap_lt ho
theorem RS.up {w : World} {g : Nat} {s : PS} {F : List Nat} (h : RS w g s F) : Up s.t := by
 obtain ⟨_, _, h, _⟩ := h; exact h.up
theorem kinds_apart (o : Obj) (h1 : stoKind o = true) (h2 : rstKind o = true) : False := by
 unfold rstKind at h2
 split at h2
 ·rename_i e
  unfold stoKind at h1
  simp at h1 h2
  rcases h2 with (rfl | rfl) | rfl <;> revert h1 <;> decide
 ·cases h2
theorem stores_apart {w : World} {g g' : Nat} {s s' : PS} {F F' : List Nat} (h : St w g s F) (h' : RS w g' s' F') : ∀ x ∈ F, x ∉ F' := by
 intro x hx hx'; obtain ⟨o, ho, k1⟩ := h.kind x hx; obtain ⟨o', ho', k2⟩ := h'.kind x hx'; rw [ho] at ho'
 cases ho'
 exact kinds_apart o k1 k2
def RRet (w : World) (g : Nat) (F : List Nat) (s' : PS) (v : Value) (e : Ending) (w' : World) : Prop :=
 e = .returned v ∧ ∃ F', RS w' g s' F' ∧ Keep (· ∈ F) w w' ∧ ∀ x ∈ F', x ∈ F ∨ w.heap.size ≤ x

theorem LO.pair {w : World} {e : TypeId} {ad : Option Addr} {n cap : Nat} {t : Tab} (h : LO w e pairE 2 (.slice ad n cap) t) (i : Nat) (hi : i < t.length) :
  ∃ g, ad = some ⟨g, 0, none⟩ ∧ g < w.heap.size ∧ w.cell? ⟨g, i * 2, none⟩ = some (.string (bs t[i].1)) ∧ w.cell? ⟨g, i * 2 + 1, none⟩ = some (.string (bs t[i].2)) := by
 have hne : t ≠ [] := by rintro rfl; simp at hi
 obtain ⟨g, c, cur, e1, hg, _⟩ := h.opened hne; have e2 := (Value.slice.inj e1).1; subst e2; obtain ⟨ax, cx, e3, _, _, h3⟩ := h.rd pairE_len; obtain ⟨b, off, e4, _, h5⟩ := h3 hne; have e5 := (Value.slice.inj e3).1.trans e4; simp only [Option.some.injEq, Addr.mk.injEq] at e5; obtain ⟨rfl, rfl, _⟩ := e5; refine ⟨g, rfl, heap_lt hg, ?_, ?_⟩
 ·have := h5 i hi 0 (by omega); simpa [pairE] using this
 ·have := h5 i hi 1 (by omega); simpa [pairE] using this

def PlaceRet (w : World) (t : Tab) (k : Txt) (e : Ending) (w' : World) : Prop := ∃ i : Nat, e = .returned (.int .i64 i) ∧ At (keysP t) k i ∧ w = w'
end
section
open Go.RowKit

theorem Tryz.sizePair : (Tryz.prog.info? 106).map (·.size) = some 2 := by kernel_rfl
end
section
open Go.RowKit

theorem RRet.then {w w1 w2 : World} {g : Nat} {F F1 : List Nat} {s2 : PS} {v : Value} {e : Ending} (hk : Keep (· ∈ F) w w1) (hf : ∀ x ∈ F1, x ∈ F ∨ w.heap.size ≤ x) (h : RRet w1 g F1 s2 v e w2) : RRet w g F s2 v e w2 := by
 obtain ⟨he, F2, h1, h2, h3⟩ := h; refine ⟨he, F2, h1, hk.then h2 hf, fun x hx => ?_⟩
 rcases h3 x hx with h | h
 ·exact hf x h
 ·exact .inr (Nat.le_trans hk.size h)
end
section
open Go.RowKit

def rpastLen (w : World) (g : Nat) : Nat := match w.cell? ⟨g, 1, none⟩ with
 | some (.slice _ n _) => n
 | _ => 0
theorem wp_store_row_g {P : Program} {o : Oper} {a : Act} {w : World} {K : Act → World → Prop} {Q : Exit → Act → World → Prop} (ty : TypeId) (x y : Operand) (ho : o.op = .store ty x y)
  (g : Nat) (cells : Array Value) (hx : a.eval x = .pointer (some ⟨g, 0, none⟩)) (hy : a.eval y = .agg cells)
  (t : TypeId) (old : Array Value) (hg : w.heap[g]? = some (.cells old t (0, 0))) (hi : (P.info? ty).map (·.size) = some cells.size)
  (hold : old.size = cells.size) (h1 : cells.all (·.oneCell') = true)
  (h : ∀ w', w'.heap[g]? = some (.cells cells t (0, 0)) → Keep (· = g) w w' → w'.heap.size = w.heap.size → K (a.put o.dst undef) w') : o.wp P a w K Q :=
 wp_store_row ty x y ho g cells hx hy t old hg hi hold h1 (h _ (setRow_heap _ _ _ _ _ _ hg) (Keep.setRow (S := (· = g)) (Keep.refl _ _) (.inl rfl) _) (setRow_size _ _ _))
end
section
open Go.RowKit

theorem Tryz.zeroPairE (w : World) : (zeroValue 106).run Tryz.prog w = .ok (.agg #[.string (bs []), .string (bs [])]) w := by kernel_rfl
end
section
open Go.RowKit

def RCopyRet (w : World) (s : PS) (x : Ending) (w' : World) : Prop := ∃ g' F', x = .returned (.pointer (some ⟨g', 0, none⟩)) ∧ RS w' g' s F' ∧ Below w.heap.size w w' ∧ ∀ k ∈ F', w.heap.size ≤ k
end
section
set_option maxHeartbeats 8000000
set_option maxRecDepth 100000
open Go.RowKit

theorem Rd.pair {w : World} {ad : Option Addr} {n cap : Nat} {t : Tab} (h : Rd w pairE 2 (.slice ad n cap) t) (i : Nat) (hi : i < t.length) :
  ∃ g off, ad = some ⟨g, off, none⟩ ∧ g < w.heap.size ∧ w.cell? ⟨g, off + i * 2, none⟩ = some (.string (bs t[i].1)) ∧ w.cell? ⟨g, off + i * 2 + 1, none⟩ = some (.string (bs t[i].2)) := by
 have hne : t ≠ [] := by rintro rfl; simp at hi
 obtain ⟨ax, cx, e3, _, _, h3⟩ := h; obtain ⟨b, off, e4, hb, h5⟩ := h3 hne
 exact ⟨b, off, (Value.slice.inj e3).1.trans e4, hb, h5 i hi 0 (by decide), h5 i hi 1 (by decide)⟩
def SameRet (w : World) (r : Bool) (x : Ending) (w' : World) : Prop := x = .returned (.bool r) ∧ Below w.heap.size w w'
theorem take_step {a b : Tab} {i : Nat} (h : a.take i = b.take i) (ha : i < a.length) (hb : i < b.length) (h1 : a[i].1 = b[i].1) (h2 : a[i].2 = b[i].2) : a.take (i + 1) = b.take (i + 1) := by
 rw [List.take_succ_eq_append_getElem ha, List.take_succ_eq_append_getElem hb, h]
 congr 2
 exact Prod.ext h1 h2

theorem rsame_any {w : World} {v1 v2 : Value} {a b : Tab} (h1 : Rd w pairE 2 v1 a) (h2 : Rd w pairE 2 v2 b) (hla : a.length < 1099511627776) (hlb : b.length < 1099511627776) :
  Calls Tryz.prog 25 #[v1, v2] w (SameRet w (decide (a = b))) := by
 obtain ⟨ad1, cap1, e1, l1, l1'⟩ := h1.shape; obtain ⟨ad2, cap2, e2, l2, l2'⟩ := h2.shape; obtain ⟨n, hn⟩ := nm (a.length); obtain ⟨m, hm⟩ := nm (b.length); rw [← hn] at e1 l1 hla; rw [← hm] at e2 l2 hlb; subst e1 e2; obtain ⟨r, hr⟩ := nm (decide (a = b)); rw [← hr]; have H1 := hh h1; have H2 := hh h2; have HN := hh hn; have HM := hh hm; have HR := hh hr; clear h1 h2 hn hm hr
 by_cases hnm : n = m
 ·subst hnm
  go_enter Tryz.func25, Tryz.ntmps25
  go_wp2_with fail
  go_loopw [5, 13] (fun _ vi wr => ∃ (i : Nat), vi = .int .i64 i ∧ i ≤ n ∧ Hid (a.take i = b.take i) ∧ Hid (Below w.heap.size w wr)) (fun _ vi _ => n - (intOf vi).toNat)
  case atStart => exact ⟨0, rfl, Nat.zero_le _, hh rfl, hh (Below.refl _ _)⟩
  case round =>
   obtain ⟨i, rfl, hin, TT, BW⟩ := hrel
   by_cases hlt : i < n
   ·have hia : i < a.length := by rw [← HN.out]; exact hlt
    have hib : i < b.length := by rw [← HM.out]; exact hlt
    obtain ⟨g1, o1, rfl, hg1, p0, p1⟩ := Rd.pair H1.out i hia; obtain ⟨g2, o2, rfl, hg2, q0, q1⟩ := Rd.pair H2.out i hib; have hstep := take_step TT.out hia hib; have hneq : a = b → a[i].1 = b[i].1 ∧ a[i].2 = b[i].2 := fun e => by subst e; exact ⟨rfl, rfl⟩
    obtain ⟨x, hx⟩ := nm (a[i]); obtain ⟨y, hy⟩ := nm (b[i]); rw [← hx] at p0 p1 hstep hneq; rw [← hy] at q0 q1 hstep hneq; have P0 := (BW.out.cell (p := ⟨g1, o1 + i * 2, none⟩) hg1).trans p0; have P1 := (BW.out.cell (p := ⟨g1, o1 + i * 2 + 1, none⟩) hg1).trans p1; have Q0 := (BW.out.cell (p := ⟨g2, o2 + i * 2, none⟩) hg2).trans q0; have Q1 := (BW.out.cell (p := ⟨g2, o2 + i * 2 + 1, none⟩) hg2).trans q1; have hS : (fun w' : World => w'.cell? ⟨g1, o1 + i * 2, none⟩ = some (.string (bs x.1)) ∧ w'.cell? ⟨g1, o1 + i * 2 + 1, none⟩ = some (.string (bs x.2)) ∧ w'.cell? ⟨g2, o2 + i * 2, none⟩ = some (.string (bs y.1)) ∧ w'.cell? ⟨g2, o2 + i * 2 + 1, none⟩ = some (.string (bs y.2))) wr.drew := ⟨P0, P1, Q0, Q1⟩; have HS := hh hS; have HST := hh hstep; have HNE := hh hneq; have HLT := hh hlt; have hbd : Below w.heap.size w wr.drew := BW.out.drew; have HBD := hh hbd; have hii : (i : Int) < (n : Int) := by omega
    clear hx hy p0 p1 q0 q1 P0 P1 Q0 Q1 hS hstep hneq hg1 hg2 hia hib hbd; have hcase : (∃ c1 : x.1 = y.1, x.2 = y.2) ∨ (x.1 ≠ y.1) ∨ (∃ c1 : x.1 = y.1, x.2 ≠ y.2) := by
     by_cases c1 : x.1 = y.1
     ·by_cases c2 : x.2 = y.2
      ·exact .inl ⟨c1, c2⟩
      ·exact .inr (.inr ⟨c1, c2⟩)
     ·exact .inr (.inl c1)
    rcases hcase with ⟨c1, c2⟩ | c1 | ⟨c1, c2⟩
    ·have g1' : ((bs x.1).toList == (bs y.1).toList) = true := by rw [c1]; simp
     have g2' : ((bs x.2).toList == (bs y.2).toList) = true := by rw [c2]; simp
     have T1 := hh (HST.out c1 c2); clear c1 c2; go_wp2_with fail; have hS := HS.out; refine wp_region_till (fun w' => w'.cell? ⟨g1, o1 + i * 2, none⟩ = some (.string (bs x.1)) ∧ w'.cell? ⟨g1, o1 + i * 2 + 1, none⟩ = some (.string (bs x.2)) ∧ w'.cell? ⟨g2, o2 + i * 2, none⟩ = some (.string (bs y.1)) ∧ w'.cell? ⟨g2, o2 + i * 2 + 1, none⟩ = some (.string (bs y.2))) 9 9 (by kernel_rfl) rfl ?_; refine tp 0 (some 16) hS ?_; go_frame; refine tp 1 (some 17) hS ?_; go_frame; refine tp 2 (some 18) hS ?_; go_frame; refine tk 3 (some 19) rfl rfl (.inl ⟨by rfl, fun w' hS' => (by have hc : w'.cell? ⟨g1, o1 + i * 2, none⟩ = _ := hS'.1; have hc1 : w'.cell? ⟨g1, o1 + i * 2 + 1, none⟩ = _ := hS'.2.1; go_simp; rfl)⟩) hS ?_; go_frame; refine tp 4 (some 20) hS ?_; go_frame; refine tp 5 (some 21) hS ?_; go_frame; refine tp 6 (some 22) hS ?_; go_frame; refine tk 7 (some 23) rfl rfl (.inl ⟨by rfl, fun w' hS' => (by have hc : w'.cell? ⟨g2, o2 + i * 2, none⟩ = _ := hS'.2.2.1; have hc1 : w'.cell? ⟨g2, o2 + i * 2 + 1, none⟩ = _ := hS'.2.2.2; go_simp; rfl)⟩) hS ?_; go_frame; refine tp 8 (some 24) hS ?_; go_frame; clear hS; refine till_done (by kernel_rfl) ?_ _; go_wp2_with fail
     go_roundw
     case rel => exact ⟨i + 1, by go_num, Nat.succ_le_of_lt HLT.out, T1, HBD⟩
     case measure => have hhq : i < n := HLT.out; simp [intOf]; omega
    ·have g1' : ((bs x.1).toList == (bs y.1).toList) = false := by rw [toList_bs, toList_bs, beq_eq_false_iff_ne]; exact c1
     have hr0 : r = false := by rw [HR.out, decide_eq_false_iff_not]; exact fun e => c1 (HNE.out e).1
     clear c1; subst hr0; go_wp2_with fail; have hS := HS.out; refine wp_region_till (fun w' => w'.cell? ⟨g1, o1 + i * 2, none⟩ = some (.string (bs x.1)) ∧ w'.cell? ⟨g1, o1 + i * 2 + 1, none⟩ = some (.string (bs x.2)) ∧ w'.cell? ⟨g2, o2 + i * 2, none⟩ = some (.string (bs y.1)) ∧ w'.cell? ⟨g2, o2 + i * 2 + 1, none⟩ = some (.string (bs y.2))) 9 9 (by kernel_rfl) rfl ?_; refine tp 0 (some 16) hS ?_; go_frame; refine tp 1 (some 17) hS ?_; go_frame; refine tp 2 (some 18) hS ?_; go_frame; refine tk 3 (some 19) rfl rfl (.inl ⟨by rfl, fun w' hS' => (by have hc : w'.cell? ⟨g1, o1 + i * 2, none⟩ = _ := hS'.1; have hc1 : w'.cell? ⟨g1, o1 + i * 2 + 1, none⟩ = _ := hS'.2.1; go_simp; rfl)⟩) hS ?_; go_frame; refine tp 4 (some 20) hS ?_; go_frame; refine tp 5 (some 21) hS ?_; go_frame; refine tp 6 (some 22) hS ?_; go_frame; refine tk 7 (some 23) rfl rfl (.inl ⟨by rfl, fun w' hS' => (by have hc : w'.cell? ⟨g2, o2 + i * 2, none⟩ = _ := hS'.2.2.1; have hc1 : w'.cell? ⟨g2, o2 + i * 2 + 1, none⟩ = _ := hS'.2.2.2; go_simp; rfl)⟩) hS ?_; go_frame; refine tp 8 (some 24) hS ?_; go_frame; clear hS; refine till_done (by kernel_rfl) ?_ _; go_wp2_with fail
     go_ret
     exact ⟨rfl, HBD.out⟩
    ·have g1' : ((bs x.1).toList == (bs y.1).toList) = true := by rw [c1]; simp
     have g2' : ((bs x.2).toList == (bs y.2).toList) = false := by rw [toList_bs, toList_bs, beq_eq_false_iff_ne]; exact c2
     have hr0 : r = false := by rw [HR.out, decide_eq_false_iff_not]; exact fun e => c2 (HNE.out e).2
     clear c1 c2; subst hr0; go_wp2_with fail; have hS := HS.out; refine wp_region_till (fun w' => w'.cell? ⟨g1, o1 + i * 2, none⟩ = some (.string (bs x.1)) ∧ w'.cell? ⟨g1, o1 + i * 2 + 1, none⟩ = some (.string (bs x.2)) ∧ w'.cell? ⟨g2, o2 + i * 2, none⟩ = some (.string (bs y.1)) ∧ w'.cell? ⟨g2, o2 + i * 2 + 1, none⟩ = some (.string (bs y.2))) 9 9 (by kernel_rfl) rfl ?_; refine tp 0 (some 16) hS ?_; go_frame; refine tp 1 (some 17) hS ?_; go_frame; refine tp 2 (some 18) hS ?_; go_frame; refine tk 3 (some 19) rfl rfl (.inl ⟨by rfl, fun w' hS' => (by have hc : w'.cell? ⟨g1, o1 + i * 2, none⟩ = _ := hS'.1; have hc1 : w'.cell? ⟨g1, o1 + i * 2 + 1, none⟩ = _ := hS'.2.1; go_simp; rfl)⟩) hS ?_; go_frame; refine tp 4 (some 20) hS ?_; go_frame; refine tp 5 (some 21) hS ?_; go_frame; refine tp 6 (some 22) hS ?_; go_frame; refine tk 7 (some 23) rfl rfl (.inl ⟨by rfl, fun w' hS' => (by have hc : w'.cell? ⟨g2, o2 + i * 2, none⟩ = _ := hS'.2.2.1; have hc1 : w'.cell? ⟨g2, o2 + i * 2 + 1, none⟩ = _ := hS'.2.2.2; go_simp; rfl)⟩) hS ?_; go_frame; refine tp 8 (some 24) hS ?_; go_frame; clear hS; refine till_done (by kernel_rfl) ?_ _; go_wp2_with fail
     go_ret
     exact ⟨rfl, HBD.out⟩
   ·have hr1 : r = true := by
     have h8 := TT.out; rw [List.take_of_length_le (by rw [← HN.out]; omega), List.take_of_length_le (by rw [← HM.out]; omega)] at h8; rw [HR.out, decide_eq_true_iff]; exact h8
    subst hr1; go_wp2_with fail
    go_ret
    exact ⟨rfl, BW.out⟩
 ·have hr0 : r = false := by
   rw [HR.out, decide_eq_false_iff_not]; intro e
   apply hnm
   rw [HN.out, HM.out, e]
  subst hr0; have j0 : ¬ n = m := hnm; clear hnm
  go_enter Tryz.func25, Tryz.ntmps25
  go_wp2_with fail
  go_ret
  exact ⟨rfl, Below.refl _ _⟩
end
end Go.Proofs.YtabminbgoclnkaaGreat
