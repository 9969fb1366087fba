/- The reference's tree: sum. -/
import Derived.Test.YtbfdjjaonjepnaaMerkD
import Derived.Test.YtbfdjjaonjepnaaMerkC
import Derived.Test.YtbfdjjaonjepnaaShaV
import Derived.Test.YtbfdjjaonjepnaaOwn
namespace Go.Proofs.Ytbfdjjaonjepnaa
open Go.RowKit

/-- The slice lies in a block of bytes, or nowhere. -/
def ByteBlk (w : World) (u : Value) : Prop := ∀ k, u.ownBlock = some k → ∃ cs fr, w.heap[k]? = some (.cells cs 5 fr)
theorem ByteBlk.keep {w w' : World} {u : Value} {S : Nat → Prop} (h : ByteBlk w u) (k : Keep S w w') (hn : ∀ x cs fr, w.heap[x]? = some (.cells cs 5 fr) → ¬ S x) : ByteBlk w' u := fun x hx => by
  obtain ⟨cs, fr, h1⟩ := h x hx
  exact ⟨cs, fr, k.at h1 (hn x cs fr h1)⟩
theorem ByteBlk.ne {w : World} {u : Value} (h : ByteBlk w u) {g : Nat} {cs : Array Value} {T : TypeId} {fr : Nat × Nat} (hg : w.heap[g]? = some (.cells cs T fr)) (hT : T ≠ 5) : u.ownBlock ≠ some g := fun e => by
  obtain ⟨cs', fr', h1⟩ := h g e
  rw [hg] at h1
  simp at h1
  exact hT h1.2.1
/-- Behind the pointer to block g stands a tree that has noted these texts, its list in block a. -/
def Tr (w : World) (g : Nat) (a : Option Nat) (texts : List (List UInt8)) : Prop :=
  ∃ (v : Value) (vs : List Value), w.heap[g]? = some (.cells #[v] 70 (0, 0)) ∧ Own w 0 43 slE 1 v vs ∧ v.ownBlock = a ∧ vs.length = texts.length ∧
    ∀ (i : Nat) u l, vs[i]? = some u → texts[i]? = some l → Rd w u8E 1 u l ∧ ByteBlk w u
/-- Of the tree's blocks and new ones alone have any turned. -/
def Grew (w : World) (g : Nat) (a : Option Nat) (w' : World) (a' : Option Nat) : Prop :=
  Keep (fun k => k = g ∨ a = some k) w w' ∧ (a' = a ∨ ∃ k, a' = some k ∧ w.heap.size ≤ k)
theorem Grew.of_below {w w' : World} (g : Nat) (a : Option Nat) (h : Below w.heap.size w w') : Grew w g a w' a := ⟨Keep.of_below h, .inl rfl⟩
theorem Grew.trans {w w1 w2 : World} {g : Nat} {a a1 a2 : Option Nat} (h : Grew w g a w1 a1) (k : Grew w1 g a1 w2 a2) : Grew w g a w2 a2 := by
  obtain ⟨h1, h2⟩ := h
  obtain ⟨k1, k2⟩ := k
  refine ⟨h1.then k1 fun x hx => ?_, ?_⟩
  · rcases hx with hx | hx
    · exact .inl (.inl hx)
    · rcases h2 with h2 | ⟨y, h2, h3⟩
      · exact .inl (.inr (h2 ▸ hx))
      · rw [h2] at hx; cases hx; exact .inr h3
  · rcases k2 with k2 | ⟨y, k2, k3⟩
    · rw [k2]; exact h2
    · exact .inr ⟨y, k2, Nat.le_trans h1.size k3⟩
theorem Tr.lt {w : World} {g : Nat} {a : Option Nat} {texts : List (List UInt8)} (h : Tr w g a texts) : g < w.heap.size ∧ ∀ k, a = some k → k < w.heap.size := by
  obtain ⟨v, vs, h1, h2, h3, _⟩ := h
  exact ⟨heap_lt h1, fun k hk => (h2.lt k (by rw [h3]; exact hk)).2⟩
theorem Tr.later {w w' : World} {g : Nat} {a : Option Nat} {texts : List (List UInt8)} (h : Tr w g a texts) (hb : Below w.heap.size w w') : Tr w' g a texts := by
  obtain ⟨v, vs, h1, h2, h3, h4, h5⟩ := h
  exact ⟨v, vs, (hb.block g (heap_lt h1)).trans h1, h2.later hb, h3, h4, fun i u l p q => ⟨(h5 i u l p q).1.later hb, (h5 i u l p q).2.keep (S := fun _ => False) (Keep.of_below hb) (fun _ _ _ _ e => e)⟩⟩
/-- What a call on a tree leaves. -/
def TrRet (w : World) (g : Nat) (a : Option Nat) (texts : List (List UInt8)) (v : Value) (e : Ending) (w' : World) : Prop := e = .returned v ∧ ∃ a', Tr w' g a' texts ∧ Grew w g a w' a'
theorem Try.infoSl : (Try.prog.info? 43).map (fun i => (i.zero, i.size, i.bytes)) = some (some (.slice none 0 0), 1, 24) := by kernel_rfl
theorem Own.shape1 {w : World} {B : Nat} {e : TypeId} {v : Value} {l : List Value} (h : Own w B e slE 1 v l) : ∃ ad cap, v = .slice ad l.length cap := by
  obtain ⟨ad, cap, h, _⟩ := (h.rd slE_len).shape; exact ⟨ad, cap, h⟩
theorem Own.type {α : Type} {w : World} {B : Nat} {e T : TypeId} {enc : α → List Value} {sz : Nat} {v : Value} {l : List α} (h : Own w B e enc sz v l) {g : Nat} {cs : Array Value} {fr : Nat × Nat} (hg : w.heap[g]? = some (.cells cs T fr)) (hT : T ≠ e) : v.ownBlock ≠ some g := by
  intro hv
  rcases h.2 with ⟨h, _⟩ | ⟨g', cap', cur, h, _, hh, _⟩
  · rw [h] at hv; simp [Value.ownBlock] at hv
  · rw [h] at hv
    simp [Value.ownBlock] at hv
    subst hv
    rw [hg] at hh
    simp at hh
    exact hT hh.2.1
theorem Own.at {α : Type} {w : World} {B : Nat} {e : TypeId} {enc : α → List Value} {sz : Nat} {v : Value} {l : List α} (h : Own w B e enc sz v l) {k : Nat} (hk : v.ownBlock = some k) : ∃ cs fr, w.heap[k]? = some (.cells cs e fr) := by
  rcases h.2 with ⟨h, _⟩ | ⟨g', cap', cur, h, _, hh, _⟩
  · rw [h] at hk; simp [Value.ownBlock] at hk
  · rw [h] at hk
    simp [Value.ownBlock] at hk
    subst hk
    exact ⟨_, _, hh⟩
/-- A tree, when a block of another type has turned. -/
theorem Tr.keep {w w' : World} {g : Nat} {a : Option Nat} {texts : List (List UInt8)} {S : Nat → Prop} (h : Tr w g a texts) (k : Keep S w w') (hS : ∀ x cs T fr, w.heap[x]? = some (.cells cs T fr) → S x → T ≠ 5 ∧ T ≠ 43 ∧ T ≠ 70) : Tr w' g a texts := by
  obtain ⟨v, vs, h1, h2, h3, h4, h5⟩ := h
  refine ⟨v, vs, k.at h1 (fun e => (hS _ _ _ _ h1 e).2.2 rfl), h2.keep k (fun x hx e => ?_), h3, h4, fun i u l p q => ?_⟩
  · obtain ⟨cs, fr, h6⟩ := h2.at hx
    exact (hS _ _ _ _ h6 e).2.1 rfl
  · obtain ⟨r1, r2⟩ := h5 i u l p q
    refine ⟨r1.keep k fun x hx _ e => ?_, r2.keep k fun x cs fr h6 e => (hS _ _ _ _ h6 e).1 rfl⟩
    obtain ⟨cs, fr, h6⟩ := r2 x hx
    exact (hS _ _ _ _ h6 e).1 rfl
theorem Tr.keep1 {w w' : World} {g R : Nat} {a : Option Nat} {texts : List (List UInt8)} (h : Tr w g a texts) (k : Keep (· = R) w w') {cs : Array Value} {T : TypeId} {fr : Nat × Nat} (hR : w.heap[R]? = some (.cells cs T fr)) (hT : T ≠ 5 ∧ T ≠ 43 ∧ T ≠ 70) : Tr w' g a texts :=
  h.keep k fun x cs' T' fr' h1 e => by
    subst e
    rw [hR] at h1
    simp at h1
    rw [← h1.2.1]; exact hT
/-- The tree has a text more, and its blocks and new ones alone have turned. -/
theorem tr_more {w w' : World} {g : Nat} {texts : List (List UInt8)} {v v' u : Value} {vs : List Value} {b : List UInt8} (h1 : w.heap[g]? = some (.cells #[v] 70 (0, 0))) (h2 : Own w 0 43 slE 1 v vs)
    (h4 : vs.length = texts.length) (h5 : ∀ (i : Nat) u l, vs[i]? = some u → texts[i]? = some l → Rd w u8E 1 u l ∧ ByteBlk w u)
    (hu : Rd w u8E 1 u b) (hub : ByteBlk w u) (hk : Keep (fun k => k = g ∨ v.ownBlock = some k) w w') (hh : w'.heap[g]? = some (.cells #[v'] 70 (0, 0)))
    (hown : Own w' 0 43 slE 1 v' (vs ++ [u])) : Tr w' g v'.ownBlock (texts ++ [b]) := by
  have hS : ∀ x cs fr, w.heap[x]? = some (.cells cs 5 fr) → ¬ (x = g ∨ v.ownBlock = some x) := by
    rintro x cs fr h6 (rfl | e)
    · rw [h1] at h6; simp at h6
    · exact h2.type h6 (by decide) e
  have key : ∀ u l, Rd w u8E 1 u l → ByteBlk w u → Rd w' u8E 1 u l ∧ ByteBlk w' u := by
    intro u l r1 r2
    refine ⟨r1.keep hk fun x hx _ e => ?_, r2.keep hk hS⟩
    obtain ⟨cs, fr, h6⟩ := r2 x hx
    exact hS x cs fr h6 e
  refine ⟨v', vs ++ [u], hh, hown, rfl, by simp [h4], fun i x l p q => ?_⟩
  rcases Nat.lt_or_ge i vs.length with hi | hi
  · rw [List.getElem?_append_left hi] at p
    rw [List.getElem?_append_left (by omega)] at q
    exact key x l (h5 i x l p q).1 (h5 i x l p q).2
  · rw [List.getElem?_append_right hi] at p
    rw [List.getElem?_append_right (by omega), ← h4] at q
    match hj : i - vs.length, p, q with
    | 0, p, q => simp at p q; subst p; subst q; exact key u b hu hub
    | j + 1, p, q => simp at p

set_option maxRecDepth 100000 in
set_option maxHeartbeats 1000000 in
theorem tsum_any (w : World) (g : Nat) (a : Option Nat) (texts : List (List UInt8)) (b : List UInt8) (u : Value) (hb : Rd w u8E 1 u b) (hl : b.length < 1099511627776) (ht : Tr w g a texts)
    (hub : ByteBlk w u) (hn : texts.length < 1000000000) :
    Calls Try.prog 90 #[.pointer (some ⟨g, 0, none⟩), u] w (TrRet w g a (texts ++ [b]) (.agg (c8 (shaF b)))) := by
  obtain ⟨v, vs, h1, h2, rfl, h4, h5⟩ := ht
  obtain ⟨ad, cap, rfl⟩ := h2.shape1
  obtain ⟨ub, ucap, rfl, _⟩ := hb.shape
  have H5 := Lib.hid h5; have HB := Lib.hid hb; have H1 := Lib.hid h1; have H2 := Lib.hid h2; have HUB := Lib.hid hub; have H4 := Lib.hid h4
  clear h5 hb h1 h2 hub h4
  go_enter Try.func90, Try.ntmps90
  go_wp2_with (refine wpList_alloc_g rfl _ rfl _ _ Try.zeroHash rfl ?_)
  intro R w1 hR1
  have hg1 := (hR1.out.below.block g (heap_lt H1.out)).trans H1.out
  have hgR : g < R := by have := heap_lt H1.out; have := hR1.out.eq; omega
  have q := Lib.cell_of_heap hg1 0
  simp only [List.getElem?_toArray, List.getElem?_cons_zero] at q
  have HG1 := Lib.hid hg1
  clear hg1
  have hown1 := H2.out.later hR1.out.below
  have hlen : vs.length + 1 ≤ maxLen := by have := H4.out; unfold maxLen; omega
  have hbytes : (vs.length + 1) * 24 ≤ 140737488355328 := by have := H4.out; omega
  have HO := Lib.hid hown1; have HL := Lib.hid hlen; have HBY := Lib.hid hbytes
  clear hown1 hlen hbytes
  go_wp2_with (at_builtin; refine own_app rfl _ _ _ rfl Try.underlying66 Try.infoSl rfl (by omega) (B := 0) (base := 0) (w0 := w) (.slice ub b.length ucap) HO.out rfl rfl rfl rfl (by simp [slE, Value.oneCell']) HL.out HBY.out (hR1.out.below.mono (Nat.zero_le _)) (Nat.zero_le _) (Nat.zero_le _) (Nat.zero_le _) ?_)
  intro v' w2 hown2 _ hgr2 hm2
  obtain ⟨ad', cap', hv'⟩ := hown2.shape1
  obtain ⟨N, hN⟩ : ∃ N, N = (vs ++ [Value.slice ub b.length ucap]).length := ⟨_, rfl⟩
  rw [← hN] at hv'
  subst hv'
  clear hN
  have hR1lt := heap_lt hR1.out.cells
  have hg2 : w2.heap[g]? = some (.cells #[.slice ad vs.length cap] 70 (0, 0)) := by
    rw [hgr2.block g (heap_lt HG1.out) ?_]
    · exact HG1.out
    · exact fun e => HO.out.type HG1.out (by decide) e.symm
  have hR2 : w2.heap[R]? = some (.cells (cB 32 []) 48 (0, 0)) := by
    rw [hgr2.block R hR1lt ?_]
    · exact hR1.out.cells
    · intro e
      have := (H2.out.lt R e.symm).2
      have := hR1.out.eq
      omega
  have hk2 : Keep (fun k => k = g ∨ Value.ownBlock (.slice ad vs.length cap) = some k) w w2 := (Keep.of_below hR1.out.below).then (S' := fun k => Value.ownBlock (.slice ad vs.length cap) = some k) ⟨hgr2.os, hgr2.tape, hgr2.output, hgr2.size, fun k hk hn => hgr2.block k hk (fun e => hn e.symm)⟩ (fun x hx => .inl (.inr hx))
  have hmv : Value.ownBlock (.slice ad' N cap') = Value.ownBlock (.slice ad vs.length cap) ∨ ∃ k, Value.ownBlock (.slice ad' N cap') = some k ∧ w.heap.size ≤ k := by
    rcases hm2 with ⟨h, _⟩ | ⟨k, h, h2⟩
    · exact .inl h
    · exact .inr ⟨k, h, Nat.le_trans hR1.out.below.size h2⟩
  have hap : Value.ownBlock (.slice ad' N cap') ≠ some R ∧ Value.ownBlock (.slice ad' N cap') ≠ some g := by
    constructor
    · rcases hm2 with ⟨h, _⟩ | ⟨k, h, h2⟩
      · rw [h]; intro e
        have := (H2.out.lt R e).2
        have := hR1.out.eq
        omega
      · rw [h]; intro e; cases e; omega
    · exact hown2.type hg2 (by decide)
  have HOWN2 := Lib.hid hown2; have HG2 := Lib.hid hg2; have HR2 := Lib.hid hR2; have HK2 := Lib.hid hk2; have HMV := Lib.hid hmv; have HAP := Lib.hid hap
  have hz12 : w1.heap.size ≤ w2.heap.size := hgr2.size
  clear hown2 hg2 hR2 hk2 hmv hap hgr2 hm2 q
  have HWR := Lib.hid hR1.out.eq; have HB1 := Lib.hid hR1.out.below
  clear hR1 HO HG1
  go_wp2_with (refine wpList_store1_g rfl 66 _ _ rfl g 0 (.slice ad' N cap') rfl rfl rfl rfl 70 _ HG2.out (by kernel_rfl) (by simp) _ rfl ?_)
  intro w3 h3 k3 z3
  have hown3 := HOWN2.out.keep k3 (fun k hk e => HAP.out.2 (by rw [hk, e]))
  have hR3 := k3.at HR2.out (by omega)
  have hk3 := HK2.out.then k3 (fun x hx => .inl (.inl hx))
  have hrb : Rd w3 u8E 1 (.slice ub b.length ucap) b := HB.out.keep hk3 (fun k hk hl e => by
    obtain ⟨cs, fr, h6⟩ := HUB.out k hk
    rcases e with e | e
    · subst e; have := H1.out; rw [this] at h6; simp at h6
    · exact H2.out.type h6 (by decide) e)
  have HOWN3 := Lib.hid hown3; have HR3 := Lib.hid hR3; have HK3 := Lib.hid hk3; have H3 := Lib.hid h3; have HRB := Lib.hid hrb
  clear hown3 hR3 hk3 h3 k3 z3 hrb HOWN2 HG2 HR2 HK2
  go_wp2_with fail
  refine (refSum_any _ b _ HRB.out (by omega)).mono ?_
  rintro e w4 ⟨rfl, hb4⟩
  have hown4 := HOWN3.out.later hb4
  have hR4 := (hb4.block R (heap_lt HR3.out)).trans HR3.out
  have hg4 := (hb4.block g (heap_lt H3.out)).trans H3.out
  have hk4 := HK3.out.then_below hb4
  have HOWN4 := Lib.hid hown4; have HR4 := Lib.hid hR4; have HG4 := Lib.hid hg4; have HK4 := Lib.hid hk4
  clear hown4 hR4 hg4 hk4 hb4 HOWN3 HR3 H3 HK3 HRB
  go_wp2_with (refine wpList_store_row_g (t := 48) (old := cB 32 []) rfl 48 _ _ rfl R (c8 (shaF b)) rfl rfl HR4.out (Try.sizeHs _ (shaF_length _)) (by rw [c8_size, shaF_length]; rfl) (by rw [← cB_full 32 _ (shaF_length _)]; exact one_b _ _) ?_)
  intro w5 h5 k5 z5
  have hk5 := HK4.out.then k5 (fun x hx => .inr (by have := HWR.out; omega))
  have hg5 := k5.at HG4.out (by omega)
  have hown5 := HOWN4.out.keep k5 (fun k hk e => HAP.out.1 (by rw [hk, e]))
  have HF : Hid (Tr w5 g _ (texts ++ [b])) := Lib.hid (tr_more H1.out H2.out H4.out H5.out HB.out HUB.out hk5 hg5 hown5)
  have HKF := Lib.hid hk5
  have HH5 := Lib.hid h5
  clear hk5 hg5 hown5 h5 k5 z5 HOWN4 HR4 HG4 HK4
  go_wp2_with fail
  exact bodyPost_ret (results_cell_row rfl _ _ R _ (c8 (shaF b)) _ _ rfl HH5.out Try.underlying48 rfl (Try.sizeHs _ (shaF_length _))) rfl ⟨rfl, _, HF.out, HKF.out, HMV.out⟩
end Go.Proofs.Ytbfdjjaonjepnaa
