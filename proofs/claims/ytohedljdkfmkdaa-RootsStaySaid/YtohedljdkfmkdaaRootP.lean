/- Plain law of chapter 32: roots in a store. No condition. -/
import Derived.Test.YtohedljdkfmkdaaDelE
import Derived.Test.YtohedljdkfmkdaaCelB
namespace Go.Proofs.Ytohedljdkfmkdaa
open Go.RowKit

theorem keyF_good {t : Int} {ids : List Int} (h1 : 1 ≤ t) (h2 : t ≤ 255) (h : ∀ x ∈ ids, 0 ≤ x) : keyF t ids = UInt8.ofNat t.toNat :: ids.flatMap numL := by
  unfold keyF
  rw [if_neg]
  rintro (h3 | h3 | ⟨x, hx, h3⟩)
  · omega
  · omega
  · have := h x hx; omega
theorem keyF_nil_of_neg {t : Int} {i : Int} (h : i < 0) : keyF t [i] = [] := by
  unfold keyF; rw [if_pos (.inr (.inr ⟨i, by simp, h⟩))]
theorem keyF_one {t i : Int} (h1 : 1 ≤ t) (h2 : t ≤ 255) (h : 0 ≤ i) : keyF t [i] = UInt8.ofNat t.toNat :: numL i := by
  rw [keyF_good h1 h2 (by intro x hx; simp only [List.mem_singleton] at hx; omega)]; simp
theorem keyF_inj {t i j : Int} (h1 : 1 ≤ t) (h2 : t ≤ 255) (hi : 0 ≤ i) (hi2 : i < 18446744073709551616) (hj : 0 ≤ j) (hj2 : j < 18446744073709551616) (h : keyF t [i] = keyF t [j]) : i = j := by
  rw [keyF_one h1 h2 hi, keyF_one h1 h2 hj] at h
  have h3 := (List.cons.inj h).2
  rw [← cbe_numL i hi hi2, ← cbe_numL j hj hj2, h3]
theorem keyF_apart {t u : Int} {l m : List Int} (h1 : 1 ≤ t) (h2 : t ≤ 255) (h3 : 1 ≤ u) (h4 : u ≤ 255) (h : t ≠ u) (hl : keyF t l ≠ []) : keyF t l ≠ keyF u m := by
  have e1 : keyF t l = UInt8.ofNat t.toNat :: l.flatMap numL := by
    unfold keyF at hl ⊢
    split
    · rename_i hc; rw [if_pos hc] at hl; exact absurd rfl hl
    · rfl
  rw [e1]
  unfold keyF
  split
  · simp
  · intro e
    have e2 := (List.cons.inj e).1
    have e3 := congrArg UInt8.toNat e2
    rw [UInt8.toNat_ofNat', UInt8.toNat_ofNat'] at e3
    omega

/-- A root that was posted. -/
structure RV where
  h : Txt
  st : Int
  at_ : Int
  ok : Bool
def z32 : Txt := List.replicate 32 0
def RV.none : RV := ⟨z32, 0, 0, false⟩
def mkR (l : List Int) (v : Txt) : RV := if l.length = 2 ∧ v.length = 32 then ⟨v, l.getD 0 0, l.getD 1 0, true⟩ else RV.none
def rootF (f : Txt → Option Txt) (i : Int) : RV := mkR (rowF (valF f (keyF 37 [i]))) (valF f (keyF 38 [i]))
theorem rootF_h (f : Txt → Option Txt) (i : Int) : (rootF f i).h.length = 32 := by
  unfold rootF mkR
  split
  · rename_i h; exact h.2
  · rfl
theorem rootF_bound (f : Txt → Option Txt) (i : Int) : 0 ≤ (rootF f i).st ∧ (rootF f i).st < 9223372036854775808 ∧ 0 ≤ (rootF f i).at_ ∧ (rootF f i).at_ < 9223372036854775808 := by
  unfold rootF
  have hb := rowF_bound (valF f (keyF 37 [i]))
  generalize rowF (valF f (keyF 37 [i])) = l at hb
  unfold mkR
  split
  · rename_i h
    match l, h with
    | [a, b], _ =>
      have h1 := hb a (by simp); have h2 := hb b (by simp)
      exact ⟨h1.1, h1.2, h2.1, h2.2⟩
  · exact ⟨by decide, by decide, by decide, by decide⟩
def kC : Txt := keyF 36 []
def cntF (f : Txt → Option Txt) : Int := getI f kC
def badR (b wt : Int) : Bool := !goodB b || !goodB wt
def postS (s : PS) (h : Txt) (b wt : Int) : PS :=
  if badR b wt = true ∨ 1000 ≤ cntF (getP s.t) then s
  else ((s.setInt kC (nextI (cntF (getP s.t)))).setRow (keyF 37 [nextI (cntF (getP s.t)) - 1]) [1, b + wt]).set (keyF 38 [nextI (cntF (getP s.t)) - 1]) h
def postN (f : Txt → Option Txt) (b wt : Int) : Int := if badR b wt = true ∨ 1000 ≤ cntF f then 0 else nextI (cntF f) - 1
def postE (f : Txt → Option Txt) (b wt : Int) : Int := if badR b wt = true then 2 else if 1000 ≤ cntF f then 7 else 0
def disE (f : Txt → Option Txt) (i b : Int) : Int := if (rootF f i).ok = false then 8 else if (rootF f i).st ≠ 1 then 9 else if (rootF f i).at_ ≤ b then 10 else 0
def disS (s : PS) (i b : Int) : PS := if disE (getP s.t) i b = 0 then s.setRow (keyF 37 [i]) [2, (rootF (getP s.t) i).at_] else s
def useE (f : Txt → Option Txt) (i b : Int) : Int := if (rootF f i).ok = false then 8 else if (rootF f i).st ≠ 1 ∨ b < (rootF f i).at_ then 10 else 0
def useH (f : Txt → Option Txt) (i b : Int) : Txt := if useE f i b = 0 then (rootF f i).h else z32
theorem useH_len (f : Txt → Option Txt) (i b : Int) : (useH f i b).length = 32 := by
  unfold useH; split
  · exact rootF_h _ _
  · rfl
theorem sz_postS (s : PS) (h : Txt) (b wt : Int) : (postS s h b wt).sz ≤ s.sz + 6 := by
  unfold postS
  split
  · omega
  · refine Nat.le_trans (sz_set _ _ _) ?_
    refine Nat.le_trans (Nat.add_le_add_right (sz_setRow _ _ _) 2) ?_
    have := sz_setInt s kC (nextI (cntF (getP s.t)))
    omega
theorem Fit.postS {s : PS} (hf : Fit s) {h : Txt} (hh : h.length = 32) (b wt : Int) : Fit (postS s h b wt) := by
  unfold Go.Proofs.Ytohedljdkfmkdaa.postS
  split
  · exact hf
  · exact ((hf.setInt _ _).setRow _ (by simp)).set _ (by omega)
theorem sz_disS (s : PS) (i b : Int) : (disS s i b).sz ≤ s.sz + 2 := by
  unfold disS; split
  · exact sz_setRow _ _ _
  · omega
theorem Fit.disS {s : PS} (hf : Fit s) (i b : Int) : Fit (disS s i b) := by
  unfold Go.Proofs.Ytohedljdkfmkdaa.disS; split
  · exact hf.setRow _ (by simp)
  · exact hf

/-- An act: a root is posted, or number i disabled. -/
structure Act32 where
  dis : Bool
  i : Int
  b : Int
  wt : Int
  h : Txt
def doR (s : PS) (a : Act32) : PS := if a.dis then disS s a.i a.b else postS s a.h a.b a.wt
def doRs (s : PS) (l : List Act32) : PS := l.foldl doR s
/-- The acts of RootsStay: those at or behind a block. -/
def doR2 (q : Int) (s : PS) (a : Act32) : PS := if q ≤ a.b then doR s a else s
def doR2s (q : Int) (s : PS) (l : List Act32) : PS := l.foldl (doR2 q) s
theorem doRs_take {s : PS} {l : List Act32} {i : Nat} (hi : i < l.length) : doRs s (l.take (i + 1)) = doR (doRs s (l.take i)) l[i] := by
  unfold doRs; rw [List.take_succ_eq_append_getElem hi, List.foldl_append]; rfl
theorem doR2s_take {q : Int} {s : PS} {l : List Act32} {i : Nat} (hi : i < l.length) : doR2s q s (l.take (i + 1)) = doR2 q (doR2s q s (l.take i)) l[i] := by
  unfold doR2s; rw [List.take_succ_eq_append_getElem hi, List.foldl_append]; rfl
theorem sz_doR (s : PS) (a : Act32) : (doR s a).sz ≤ s.sz + 6 := by
  unfold doR; split
  · have := sz_disS s a.i a.b; omega
  · exact sz_postS _ _ _ _
theorem sz_doR2 (q : Int) (s : PS) (a : Act32) : (doR2 q s a).sz ≤ s.sz + 6 := by
  unfold doR2; split
  · exact sz_doR _ _
  · omega
theorem sz_doRs : ∀ (l : List Act32) (s : PS), (doRs s l).sz ≤ s.sz + 6 * l.length
  | [], _ => Nat.le_refl _
  | a :: l, s => by
    have h1 := sz_doRs l (doR s a); have h2 := sz_doR s a
    have h3 : doRs s (a :: l) = doRs (doR s a) l := rfl
    rw [h3, List.length_cons]; omega
theorem sz_doR2s (q : Int) : ∀ (l : List Act32) (s : PS), (doR2s q s l).sz ≤ s.sz + 6 * l.length
  | [], _ => Nat.le_refl _
  | a :: l, s => by
    have h1 := sz_doR2s q l (doR2 q s a); have h2 := sz_doR2 q s a
    have h3 : doR2s q s (a :: l) = doR2s q (doR2 q s a) l := rfl
    rw [h3, List.length_cons]; omega
theorem Fit.doR {s : PS} (hf : Fit s) {a : Act32} (ha : a.h.length = 32) : Fit (doR s a) := by
  unfold Go.Proofs.Ytohedljdkfmkdaa.doR; split
  · exact hf.disS _ _
  · exact hf.postS ha _ _
theorem Fit.doR2 {s : PS} (hf : Fit s) (q : Int) {a : Act32} (ha : a.h.length = 32) : Fit (doR2 q s a) := by
  unfold Go.Proofs.Ytohedljdkfmkdaa.doR2; split
  · exact hf.doR ha
  · exact hf
theorem Fit.doRs : ∀ (l : List Act32) {s : PS}, Fit s → (∀ a ∈ l, a.h.length = 32) → Fit (doRs s l)
  | [], _, h, _ => h
  | a :: l, _, h, ha => Fit.doRs l (h.doR (ha a (by simp))) fun b hb => ha b (by simp [hb])
theorem Fit.doR2s (q : Int) : ∀ (l : List Act32) {s : PS}, Fit s → (∀ a ∈ l, a.h.length = 32) → Fit (doR2s q s l)
  | [], _, h, _ => h
  | a :: l, _, h, ha => Fit.doR2s q l (h.doR2 q (ha a (by simp))) fun b hb => ha b (by simp [hb])

/-! ### what stands, stays -/
/-- Each root is counted. -/
def RInv (s : PS) : Prop := ∀ i : Int, i < 9223372036854775808 → (rootF (getP s.t) i).ok = true → i < cntF (getP s.t)
theorem rowF_numL {n : Int} (h0 : 0 ≤ n) (h1 : n < 9223372036854775808) : rowF (numL n) = [n] := by
  have := rowF_flat (l := [n]) (by intro x hx; simp only [List.mem_singleton] at hx; omega)
  simpa using this
theorem kC_eq : kC = [36] := by kernel_rfl
theorem valF_setInt (s : PS) (k q : Txt) {n : Int} (hk : k ≠ []) (hn : 1 ≤ n) : valF (getP (s.setInt k n).t) q = if k = q then numL n else valF (getP s.t) q := by
  unfold PS.setInt
  rw [if_neg (by omega), valF_set]
  by_cases h : k = q
  · rw [if_pos ⟨h, hk⟩, if_pos h]
  · rw [if_neg fun e => h e.1, if_neg h]
theorem kC_ne : kC ≠ [] := by rw [kC_eq]; simp
/-- What a post leaves under a key. -/
theorem valF_post {s : PS} {h : Txt} {b wt n : Int} (hb : badR b wt = false) (hn : n = cntF (getP s.t)) (hf : n < 1000) (q : Txt) :
    valF (getP (postS s h b wt).t) q = if keyF 38 [n] = q then h else if keyF 37 [n] = q then [1, b + wt].flatMap numL else if kC = q then numL (n + 1) else valF (getP s.t) q := by
  have h0 := (getI_bound (getP s.t) kC).1
  have h0' : 0 ≤ n := by rw [hn]; exact h0
  have hx : nextI n = n + 1 := if_pos (by omega)
  have hx1 : n + 1 - 1 = n := by omega
  unfold postS
  rw [if_neg (by rw [hb, ← hn]; rintro (h | h); cases h; omega), ← hn, hx, hx1]
  have hg : 0 ≤ b ∧ 0 ≤ wt := by
    unfold badR at hb
    simp only [Bool.or_eq_false_iff, Bool.not_eq_false'] at hb
    exact ⟨(goodB_yes.1 hb.1).1, (goodB_yes.1 hb.2).1⟩
  have k7 : keyF 37 [n] ≠ [] := keyF_ne (by decide) (by decide) (by intro x hx; simp only [List.mem_singleton] at hx; omega)
  have k8 : keyF 38 [n] ≠ [] := keyF_ne (by decide) (by decide) (by intro x hx; simp only [List.mem_singleton] at hx; omega)
  rw [valF_set]
  by_cases c8 : keyF 38 [n] = q
  · rw [if_pos ⟨c8, k8⟩, if_pos c8]
  rw [if_neg fun e => c8 e.1, if_neg c8]
  rw [setRow_ok (by intro x hx; simp only [List.mem_cons, List.not_mem_nil, or_false] at hx; omega), valF_putv _ _ _ _ k7]
  by_cases c7 : keyF 37 [n] = q
  · rw [if_pos c7, if_pos c7]
  rw [if_neg c7, if_neg c7, valF_setInt _ _ _ kC_ne (by omega)]
theorem k7_ne_8 (i n : Int) (hi : 0 ≤ i) : keyF 37 [i] ≠ keyF 38 [n] := keyF_apart (by decide) (by decide) (by decide) (by decide) (by decide) (keyF_ne (by decide) (by decide) (by intro x hx; simp only [List.mem_singleton] at hx; omega))
theorem k8_ne_7 (i n : Int) (hi : 0 ≤ i) : keyF 38 [i] ≠ keyF 37 [n] := keyF_apart (by decide) (by decide) (by decide) (by decide) (by decide) (keyF_ne (by decide) (by decide) (by intro x hx; simp only [List.mem_singleton] at hx; omega))
theorem kC_ne_7 (n : Int) : kC ≠ keyF 37 [n] := keyF_apart (by decide) (by decide) (by decide) (by decide) (by decide) kC_ne
theorem kC_ne_8 (n : Int) : kC ≠ keyF 38 [n] := keyF_apart (by decide) (by decide) (by decide) (by decide) (by decide) kC_ne
theorem post_off {s : PS} {h : Txt} {b wt : Int} (hb : badR b wt = true ∨ 1000 ≤ cntF (getP s.t)) : postS s h b wt = s := by unfold postS; rw [if_pos hb]
/-- A post leaves the roots that were there. -/
theorem post_other {s : PS} {h : Txt} {b wt i : Int} (hi : 0 ≤ i) (hi2 : i < 9223372036854775808) (hne : i ≠ cntF (getP s.t)) : rootF (getP (postS s h b wt).t) i = rootF (getP s.t) i := by
  by_cases hc : badR b wt = true ∨ 1000 ≤ cntF (getP s.t)
  · rw [post_off hc]
  · have hb : badR b wt = false := by cases hh : badR b wt with | true => exact absurd (.inl hh) hc | false => rfl
    have hf : cntF (getP s.t) < 1000 := by have := fun q => hc (.inr q); omega
    have h0 : 0 ≤ cntF (getP s.t) := (getI_bound (getP s.t) kC).1
    obtain ⟨n, hn⟩ : ∃ n, n = cntF (getP s.t) := ⟨_, rfl⟩
    rw [← hn] at hf h0 hne
    unfold rootF
    rw [valF_post hb hn hf, valF_post hb hn hf]
    rw [if_neg (k8_ne_7 n i h0), if_neg (fun e => hne (keyF_inj (by decide) (by decide) hi (by omega) h0 (by omega) e.symm)), if_neg (kC_ne_7 i)]
    rw [if_neg (fun e => hne (keyF_inj (by decide) (by decide) hi (by omega) h0 (by omega) e.symm)), if_neg (k7_ne_8 n i h0), if_neg (kC_ne_8 i)]
theorem post_cnt {s : PS} {h : Txt} {b wt : Int} : cntF (getP s.t) ≤ cntF (getP (postS s h b wt).t) ∧ (¬ (badR b wt = true ∨ 1000 ≤ cntF (getP s.t)) → cntF (getP (postS s h b wt).t) = cntF (getP s.t) + 1) := by
  by_cases hc : badR b wt = true ∨ 1000 ≤ cntF (getP s.t)
  · rw [post_off hc]; exact ⟨Int.le_refl _, fun h => absurd hc h⟩
  · have hb : badR b wt = false := by cases hh : badR b wt with | true => exact absurd (.inl hh) hc | false => rfl
    have hf : cntF (getP s.t) < 1000 := by have := fun q => hc (.inr q); omega
    have h0 : 0 ≤ cntF (getP s.t) := (getI_bound (getP s.t) kC).1
    have he : cntF (getP (postS s h b wt).t) = cntF (getP s.t) + 1 := by
      obtain ⟨n, hn⟩ : ∃ n, n = cntF (getP s.t) := ⟨_, rfl⟩
      rw [← hn] at hf h0
      show intF (rowF (valF _ kC)) = _
      rw [valF_post hb hn hf, if_neg (fun e => kC_ne_8 n e.symm), if_neg (fun e => kC_ne_7 n e.symm), if_pos rfl, rowF_numL (by omega) (by omega), ← hn]
      rfl
    exact ⟨by omega, fun _ => he⟩
theorem RInv.new : RInv PS.new := by
  intro i _ h
  have : (rootF (getP PS.new.t) i).ok = false := by
    unfold rootF
    have e : ∀ k, valF (getP PS.new.t) k = [] := fun k => rfl
    rw [e, e, rowF_nil]; rfl
  rw [this] at h; cases h
theorem RInv.postS {s : PS} (hv : RInv s) (h : Txt) (b wt : Int) : RInv (postS s h b wt) := by
  intro i hi ho
  have hc := post_cnt (s := s) (h := h) (b := b) (wt := wt)
  have h0 : 0 ≤ cntF (getP s.t) := (getI_bound (getP s.t) kC).1
  by_cases hneg : i < 0
  · omega
  by_cases hn : i = cntF (getP s.t)
  · by_cases hx : badR b wt = true ∨ 1000 ≤ cntF (getP s.t)
    · rw [post_off hx] at ho ⊢; exact hv i hi ho
    · have := hc.2 hx; omega
  · rw [post_other (by omega) hi hn] at ho
    have := hv i hi ho; omega
theorem dis_cases (s : PS) (i b : Int) : disS s i b = s ∨ ((rootF (getP s.t) i).ok = true ∧ (rootF (getP s.t) i).st = 1 ∧ b < (rootF (getP s.t) i).at_ ∧ disS s i b = s.setRow (keyF 37 [i]) [2, (rootF (getP s.t) i).at_]) := by
  unfold disS disE
  by_cases h1 : (rootF (getP s.t) i).ok = false
  · rw [if_pos h1, if_neg (by decide)]; exact .inl rfl
  rw [if_neg h1]
  by_cases h2 : (rootF (getP s.t) i).st ≠ 1
  · rw [if_pos h2, if_neg (by decide)]; exact .inl rfl
  rw [if_neg h2]
  by_cases h3 : (rootF (getP s.t) i).at_ ≤ b
  · rw [if_pos h3, if_neg (by decide)]; exact .inl rfl
  rw [if_neg h3, if_pos rfl]
  exact .inr ⟨by cases hh : (rootF (getP s.t) i).ok with | true => rfl | false => exact absurd hh h1, Classical.not_not.1 h2, by omega, rfl⟩
theorem setRow_no_key (s : PS) (l : List Int) : l ≠ [] → s.setRow [] l = s := by
  intro hl
  unfold PS.setRow
  split
  · rfl
  · unfold PS.putv
    rw [if_neg]
    · unfold PS.set; rw [if_pos (.inl rfl)]
    · intro e
      have := cflat_length l
      rw [e] at this
      have h2 : l.length ≠ 0 := fun h => hl (List.length_eq_zero_iff.1 h)
      simp at this; omega
/-- What disabling leaves. -/
theorem dis_root (s : PS) (i b j : Int) (hj : 0 ≤ j) (hj2 : j < 9223372036854775808) (hi2 : i < 9223372036854775808) :
    rootF (getP (disS s i b).t) j = rootF (getP s.t) j ∨ (i = j ∧ (rootF (getP s.t) j).ok = true ∧ (rootF (getP s.t) j).st = 1 ∧ b < (rootF (getP s.t) j).at_ ∧ rootF (getP (disS s i b).t) j = ⟨(rootF (getP s.t) j).h, 2, (rootF (getP s.t) j).at_, true⟩) := by
  rcases dis_cases s i b with e | ⟨h1, h2, h3, e⟩
  · rw [e]; exact .inl rfl
  rw [e]
  have hb := rootF_bound (getP s.t) i
  by_cases hneg : i < 0
  · rw [keyF_nil_of_neg hneg, setRow_no_key _ _ (by simp)]; exact .inl rfl
  have hk : keyF 37 [i] ≠ [] := keyF_ne (by decide) (by decide) (by intro x hx; simp only [List.mem_singleton] at hx; omega)
  have hrow := rowF_setRow s (keyF 37 [i]) (keyF 37 [j]) (l := [2, (rootF (getP s.t) i).at_]) hk (by intro x hx; simp only [List.mem_cons, List.not_mem_nil, or_false] at hx; omega)
  have hval : valF (getP (s.setRow (keyF 37 [i]) [2, (rootF (getP s.t) i).at_]).t) (keyF 38 [j]) = valF (getP s.t) (keyF 38 [j]) := by
    rw [setRow_ok (by intro x hx; simp only [List.mem_cons, List.not_mem_nil, or_false] at hx; omega), valF_putv _ _ _ _ hk, if_neg (k7_ne_8 i j (by omega))]
  by_cases hij : i = j
  · subst hij
    refine .inr ⟨rfl, h1, h2, h3, ?_⟩
    have h4 : (rootF (getP s.t) i).ok = true ∧ (rootF (getP s.t) i).h = valF (getP s.t) (keyF 38 [i]) ∧ (valF (getP s.t) (keyF 38 [i])).length = 32 := by
      refine ⟨h1, ?_⟩
      unfold rootF mkR at h1 ⊢
      split
      · rename_i hc; exact ⟨rfl, hc.2⟩
      · rename_i hc; rw [if_neg hc] at h1; cases h1
    have e0 : rootF (getP (s.setRow (keyF 37 [i]) [2, (rootF (getP s.t) i).at_]).t) i = mkR [2, (rootF (getP s.t) i).at_] (valF (getP s.t) (keyF 38 [i])) := by
      show mkR (rowF (valF _ _)) (valF _ _) = _
      rw [hrow, if_pos rfl, hval]
    rw [e0, h4.2.1]
    unfold mkR
    rw [if_pos ⟨rfl, h4.2.2⟩]
    rfl
  · refine .inl ?_
    show mkR (rowF (valF _ _)) (valF _ _) = _
    rw [hrow, if_neg (fun e => hij (keyF_inj (by decide) (by decide) (by omega) (by omega) hj (by omega) e)), hval]
    rfl
theorem dis_cnt (s : PS) (i b : Int) : cntF (getP (disS s i b).t) = cntF (getP s.t) := by
  rcases dis_cases s i b with e | ⟨h1, h2, h3, e⟩
  · rw [e]
  rw [e]
  have hb := rootF_bound (getP s.t) i
  by_cases hneg : i < 0
  · rw [keyF_nil_of_neg hneg, setRow_no_key _ _ (by simp)]
  have hk : keyF 37 [i] ≠ [] := keyF_ne (by decide) (by decide) (by intro x hx; simp only [List.mem_singleton] at hx; omega)
  show intF (rowF (valF _ kC)) = intF (rowF (valF _ kC))
  rw [rowF_setRow s (keyF 37 [i]) kC hk (by intro x hx; simp only [List.mem_cons, List.not_mem_nil, or_false] at hx; omega), if_neg (fun e => kC_ne_7 i e.symm)]
theorem RInv.disS {s : PS} (hv : RInv s) {i : Int} (hi2 : i < 9223372036854775808) (b : Int) : RInv (disS s i b) := by
  intro j hj ho
  rw [dis_cnt]
  have h0 : 0 ≤ cntF (getP s.t) := (getI_bound (getP s.t) kC).1
  by_cases hneg : j < 0
  · omega
  rcases dis_root s i b j (by omega) hj hi2 with e | ⟨_, h1, _⟩
  · rw [e] at ho; exact hv j hj ho
  · exact hv j hj h1
theorem RInv.doR {s : PS} (hv : RInv s) {a : Act32} (ha : a.i < 9223372036854775808) : RInv (doR s a) := by
  unfold Go.Proofs.Ytohedljdkfmkdaa.doR; split
  · exact hv.disS ha _
  · exact hv.postS _ _ _
theorem RInv.doRs : ∀ (l : List Act32) {s : PS}, RInv s → (∀ a ∈ l, a.i < 9223372036854775808) → RInv (doRs s l)
  | [], _, h, _ => h
  | a :: l, _, h, ha => RInv.doRs l (h.doR (ha a (by simp))) fun b hb => ha b (by simp [hb])
/-- A root later on. -/
structure Later (q : Int) (r r' : RV) : Prop where
  ok : r'.ok = true
  h : r'.h = r.h
  at_ : r'.at_ = r.at_
  st : r'.st = r.st ∨ r'.st = 2
  on : r.st = 1 → r.at_ ≤ q → r'.st = 1
theorem doR2s_later (q : Int) {j : Int} (hj : 0 ≤ j) (hj2 : j < 9223372036854775808) : ∀ (l : List Act32) {s : PS} {r : RV}, RInv s → (∀ a ∈ l, a.i < 9223372036854775808) → Later q r (rootF (getP s.t) j) → Later q r (rootF (getP (doR2s q s l).t) j)
  | [], _, _, _, _, h => h
  | a :: l, s, r, hv, ha, h => by
    have hs : Later q r (rootF (getP (doR2 q s a).t) j) ∧ RInv (doR2 q s a) := by
      unfold doR2
      split
      · rename_i hq
        refine ⟨?_, hv.doR (ha a (by simp))⟩
        unfold doR
        split
        · rcases dis_root s a.i a.b j hj hj2 (ha a (by simp)) with e | ⟨_, h1, h2, h3, e⟩
          · rw [e]; exact h
          · rw [e]
            refine ⟨rfl, h.h, h.at_, .inr rfl, fun h5 h6 => ?_⟩
            have := h.at_; omega
        · rw [post_other hj hj2 (by have := hv j hj2 h.ok; omega)]; exact h
      · exact ⟨h, hv⟩
    exact doR2s_later q hj hj2 l hs.2 (fun b hb => ha b (by simp [hb])) hs.1
theorem useE_ok {f : Txt → Option Txt} {i b : Int} (h : useE f i b = 0) : (rootF f i).ok = true ∧ (rootF f i).st = 1 ∧ (rootF f i).at_ ≤ b := by
  unfold useE at h
  split at h
  · cases h
  · rename_i h1
    split at h
    · cases h
    · rename_i h2
      refine ⟨by cases hh : (rootF f i).ok with | true => rfl | false => exact absurd hh h1, Classical.not_not.1 fun e => h2 (.inl e), ?_⟩
      have := fun e => h2 (.inr e); omega
theorem useE_yes {f : Txt → Option Txt} {i b : Int} (h1 : (rootF f i).ok = true) (h2 : (rootF f i).st = 1) (h3 : (rootF f i).at_ ≤ b) : useE f i b = 0 := by
  unfold useE; rw [if_neg (by rw [h1]; decide), if_neg (by rintro (h | h); exact h h2; omega)]
theorem useE_off {f : Txt → Option Txt} {i b : Int} (h1 : (rootF f i).ok = true) (h2 : (rootF f i).st ≠ 1) : useE f i b = 10 := by
  unfold useE; rw [if_neg (by rw [h1]; decide), if_pos (.inl h2)]
/-- What RootsStay says, of both readings of root j. -/
theorem stay_law {q j : Int} (hj : 0 ≤ j) (hj2 : j < 9223372036854775808) {l more : List Act32} (hl : ∀ a ∈ l, a.i < 9223372036854775808) (hm : ∀ a ∈ more, a.i < 9223372036854775808) :
    let f := getP (doRs PS.new l).t; let f' := getP (doR2s q (doRs PS.new l) more).t
    ((rootF f j).ok = true → (rootF f' j).ok = true ∧ (rootF f' j).h = (rootF f j).h ∧ (¬ (rootF f j).st = 1 → ¬ (rootF f' j).st = 1)) ∧
    (useE f j q = 0 → useE f' j (q + 1) = 0 ∧ useH f' j (q + 1) = useH f j q) ∧
    (¬ useE f j q = 0 → (rootF f j).ok = true → ¬ (rootF f j).st = 1 → useE f' j (q + 1) = 10) := by
  intro f f'
  have hinv : RInv (doRs PS.new l) := RInv.doRs l RInv.new hl
  have hlater : (rootF f j).ok = true → Later q (rootF f j) (rootF f' j) := fun ho => doR2s_later q hj hj2 more hinv hm ⟨ho, rfl, rfl, .inl rfl, fun h _ => h⟩
  refine ⟨fun ho => ?_, fun hu => ?_, fun _ ho hs => ?_⟩
  · have L := hlater ho
    refine ⟨L.ok, L.h, fun hn h1 => ?_⟩
    rcases L.st with e | e
    · exact hn (e ▸ h1)
    · rw [h1] at e; cases e
  · obtain ⟨h1, h2, h3⟩ := useE_ok hu
    have L := hlater h1
    have hx : useE f' j (q + 1) = 0 := useE_yes L.ok (L.on h2 h3) (by have := L.at_; omega)
    refine ⟨hx, ?_⟩
    unfold useH
    rw [if_pos hx, if_pos hu, L.h]
  · have L := hlater ho
    refine useE_off L.ok ?_
    rcases L.st with e | e
    · rw [e]; exact hs
    · rw [e]; decide
end Go.Proofs.Ytohedljdkfmkdaa
