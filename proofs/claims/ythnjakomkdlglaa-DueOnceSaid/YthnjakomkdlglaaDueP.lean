/- Plain law of DueOnce: what is due stands by block, then by number. No condition. -/
import Derived.Test.YthnjakomkdlglaaDueF
namespace Go.Proofs.Ythnjakomkdlglaa
open Go.RowKit

/-! ### the order of keys -/
theorem dq_lex : ∀ (x y : List UInt8), less x y = lexLt x y
  | [], [] => rfl
  | [], _ :: _ => rfl
  | _ :: _, [] => rfl
  | a :: x, b :: y => by
    rw [less_cons, lexLt, dq_lex x y]
    by_cases h : a = b
    · subst h; simp
    · have : (a == b) = false := by simpa using h
      rw [if_neg h, this]; simp
theorem dq_foldl (l : List UInt8) : ∀ a : Nat, l.foldl (fun a c => a * 256 + c.toNat) a = a * 256 ^ l.length + be l := by
  induction l with
  | nil => intro a; simp [be]
  | cons c l ih =>
    intro a
    rw [List.foldl_cons, ih, List.length_cons]
    have : be (c :: l) = (0 * 256 + c.toNat) * 256 ^ l.length + be l := by rw [be, List.foldl_cons, ih]
    rw [this, Nat.pow_succ, Nat.add_mul]
    simp only [Nat.zero_mul, Nat.zero_add]
    rw [Nat.mul_assoc, Nat.mul_comm 256, ← Nat.add_assoc]
theorem dq_cons (c : UInt8) (l : List UInt8) : be (c :: l) = c.toNat * 256 ^ l.length + be l := by
  rw [be, List.foldl_cons, dq_foldl]; simp
theorem dq_be : ∀ (u v s t : List UInt8), u.length = v.length → lexLt (u ++ s) (v ++ t) = if u = v then lexLt s t else decide (be u < be v)
  | [], [], s, t, _ => by simp
  | [], _ :: _, _, _, h => by simp at h
  | _ :: _, [], _, _, h => by simp at h
  | a :: u, b :: v, s, t, h => by
    have hl : u.length = v.length := by simpa using h
    have h1 := be_lt u
    have h2 := be_lt v
    rw [← hl] at h2
    rw [List.cons_append, List.cons_append, lexLt, dq_cons, dq_cons, ← hl]
    by_cases hab : a = b
    · subst hab
      rw [if_pos rfl, dq_be u v s t hl]
      by_cases huv : u = v
      · rw [if_pos huv, if_pos (by rw [huv])]
      · rw [if_neg huv, if_neg (by simpa using huv)]
        simp
    · rw [if_neg hab, if_neg (by simp [hab])]
      have hne : a.toNat ≠ b.toNat := fun e => hab (UInt8.toNat_inj.1 e)
      by_cases hlt : a.toNat < b.toNat
      · have h3 : (a.toNat + 1) * 256 ^ u.length ≤ b.toNat * 256 ^ u.length := Nat.mul_le_mul_right _ hlt
        rw [Nat.add_mul, Nat.one_mul] at h3
        have ha : a < b := UInt8.lt_iff_toNat_lt.2 hlt
        rw [decide_eq_true ha, decide_eq_true (by omega)]
      · have h3 : (b.toNat + 1) * 256 ^ u.length ≤ a.toNat * 256 ^ u.length := Nat.mul_le_mul_right _ (by omega)
        rw [Nat.add_mul, Nat.one_mul] at h3
        have ha : ¬ a < b := fun h => hlt (UInt8.lt_iff_toNat_lt.1 h)
        rw [decide_eq_false ha, decide_eq_false (by omega)]
/-- A number of a key. -/
def Nm (x : Int) : Prop := 0 ≤ x ∧ x < 9223372036854775808
theorem keyF_two {t b n : Int} (h1 : 1 ≤ t) (h2 : t ≤ 255) (hb : 0 ≤ b) (hn : 0 ≤ n) : keyF t [b, n] = UInt8.ofNat t.toNat :: (numL b ++ (numL n ++ [])) := by
  unfold keyF
  rw [if_neg]
  · rfl
  · rintro (h3 | h3 | ⟨x, hx, h3⟩)
    · omega
    · omega
    · simp only [List.mem_cons, List.not_mem_nil, or_false] at hx
      rcases hx with rfl | rfl <;> omega
theorem keyF_onee {t b : Int} (h1 : 1 ≤ t) (h2 : t ≤ 255) (hb : 0 ≤ b) : keyF t [b] = UInt8.ofNat t.toNat :: (numL b ++ []) := by
  unfold keyF
  rw [if_neg]
  · rfl
  · rintro (h3 | h3 | ⟨x, hx, h3⟩)
    · omega
    · omega
    · simp only [List.mem_cons, List.not_mem_nil, or_false] at hx
      omega
theorem numL_lex {a b : Int} (ha : Nm a) (hb : Nm b) (s t : List UInt8) (h : lexLt (numL a ++ s) (numL b ++ t) = true) : a < b ∨ a = b ∧ lexLt s t = true := by
  rw [dq_be _ _ _ _ (by rw [numL_length, numL_length])] at h
  have ea := cbe_numL a ha.1 (by have := ha.2; omega)
  have eb := cbe_numL b hb.1 (by have := hb.2; omega)
  by_cases e : numL a = numL b
  · rw [if_pos e] at h
    rw [e, eb] at ea
    exact .inr ⟨ea.symm, h⟩
  · rw [if_neg e] at h
    have h9 := of_decide_eq_true h
    exact .inl (by omega)
theorem keyR_less {b n c m : Int} (hb : Nm b) (hn : Nm n) (hc : Nm c) (hm : Nm m) (h : less (keyF 26 [b, n]) (keyF 26 [c, m]) = true) : b < c ∨ b = c ∧ n < m := by
  rw [keyF_two (by decide) (by decide) hb.1 hn.1, keyF_two (by decide) (by decide) hc.1 hm.1, dq_lex, lexLt, if_pos rfl] at h
  rcases numL_lex hb hc _ _ h with h | ⟨h, h9⟩
  · exact .inl h
  · rcases numL_lex hn hm _ _ h9 with h9 | ⟨_, h8⟩
    · exact .inr ⟨h, h9⟩
    · cases h8
theorem keyR_inj {b n c m : Int} (hb : Nm b) (hn : Nm n) (hc : Nm c) (hm : Nm m) (h : keyF 26 [b, n] = keyF 26 [c, m]) : b = c ∧ n = m := by
  rw [keyF_two (by decide) (by decide) hb.1 hn.1, keyF_two (by decide) (by decide) hc.1 hm.1] at h
  have h2 := (List.cons.inj h).2
  rw [List.append_nil, List.append_nil] at h2
  have h3 := List.append_inj h2 (by rw [numL_length, numL_length])
  have e1 := cbe_numL b hb.1 (by have := hb.2; omega)
  have e2 := cbe_numL c hc.1 (by have := hc.2; omega)
  have e3 := cbe_numL n hn.1 (by have := hn.2; omega)
  have e4 := cbe_numL m hm.1 (by have := hm.2; omega)
  rw [h3.1, e2] at e1
  rw [h3.2, e4] at e3
  exact ⟨e1.symm, e3.symm⟩
def kDC : Txt := keyF 27 []
theorem kDC_ne : kDC ≠ [] := by decide +kernel
theorem keyR_cnt {b n : Int} (hb : Nm b) (hn : Nm n) : keyF 26 [b, n] ≠ kDC := by
  rw [keyF_two (by decide) (by decide) hb.1 hn.1, show kDC = [27] by decide +kernel]
  intro e
  have h := (List.cons.inj e).2
  have := congrArg List.length h
  rw [List.length_append, numL_length] at this
  simp at this
theorem keyR_ne {b n : Int} (hb : Nm b) (hn : Nm n) : keyF 26 [b, n] ≠ [] := by
  rw [keyF_two (by decide) (by decide) hb.1 hn.1]; simp
theorem keyR_under {b n : Int} (hb : Nm b) (hn : Nm n) : (keyF 26 []).isPrefixOf (keyF 26 [b, n]) = true := by
  rw [keyF_two (by decide) (by decide) hb.1 hn.1, show keyF 26 [] = [26] by decide +kernel]; rfl
theorem keyR_block {b n : Int} (hb : Nm b) (hn : Nm n) : (keyF 26 [b]).isPrefixOf (keyF 26 [b, n]) = true := by
  rw [keyF_two (by decide) (by decide) hb.1 hn.1, keyF_onee (by decide) (by decide) hb.1, List.isPrefixOf_iff_prefix, List.append_nil]
  exact ⟨numL n ++ [], by simp⟩
theorem cnt_under : (keyF 26 []).isPrefixOf kDC = false := by decide +kernel
theorem cnt_block {b : Int} (hb : Nm b) : (keyF 26 [b]).isPrefixOf kDC = false := by
  rw [keyF_onee (by decide) (by decide) hb.1, show kDC = [27] by decide +kernel]; rfl
theorem dparse_key {b n : Int} (hb : Nm b) (hn : Nm n) : readF (keyF 26 [b, n]) = some (b, n) := by
  refine readF_two (t := 26) ?_
  rw [keyF_two (by decide) (by decide) hb.1 hn.1]
  have h := cnumsF_flat [b, n] (fun x hx => by
    simp only [List.mem_cons, List.not_mem_nil, or_false] at hx
    rcases hx with rfl | rfl
    · exact hb
    · exact hn)
  have h2 : numsF (numL b ++ (numL n ++ [])) = some [b, n] := h
  rw [parseF, if_neg (by decide), h2]
  rfl

/-! ### the rows of DueOnce -/
def bbD (bl : List Int) (j : Nat) : Int := bl.getD j 0
def kjD (bl : List Int) (nf : Nat → Int) (j : Nat) : Txt := keyF 26 [bbD bl j, nf j]
def vjD (bl : List Int) (j : Nat) : Txt := [bbD bl j, (j : Int)].flatMap numL
def rjD (bl : List Int) (nf : Nat → Int) (j : Nat) : (Int × Int) × List Int := ((bbD bl j, nf j), [bbD bl j, (j : Int)])
def Bl (bl : List Int) : Prop := bl.length ≤ 80 ∧ ∀ x ∈ bl, 0 ≤ x ∧ x ≤ 255
theorem Bl.bb {bl : List Int} (h : Bl bl) (j : Nat) : 0 ≤ bbD bl j ∧ bbD bl j ≤ 255 := by
  unfold bbD
  rw [List.getD_eq_getElem?_getD]
  by_cases hj : j < bl.length
  · rw [List.getElem?_eq_getElem hj]; exact h.2 _ (List.getElem_mem hj)
  · rw [List.getElem?_eq_none (by omega)]; decide
theorem Bl.nm {bl : List Int} (h : Bl bl) (j : Nat) : Nm (bbD bl j) := by have := h.bb j; exact ⟨this.1, by omega⟩
/-- Row i stands ahead of row j. -/
def Ahd (bl : List Int) (i j : Nat) : Prop := bbD bl i < bbD bl j ∨ bbD bl i = bbD bl j ∧ i < j
/-- What stands in the store while the rows j < m with al j are due. -/
structure DJ (bl : List Int) (nf : Nat → Int) (m : Nat) (al : Nat → Bool) (s : PS) : Prop where
  up : Up s.t
  mem : ∀ k v, getP s.t k = some v → k = kDC ∨ ∃ j, j < m ∧ al j = true ∧ k = kjD bl nf j ∧ v = vjD bl j
  has : ∀ j, j < m → al j = true → getP s.t (kjD bl nf j) = some (vjD bl j)
  cnt : getI (getP s.t) kDC = ((List.range m).countP al : Nat)
  val : ∀ v, getP s.t kDC = some v → v.length = 8
  num : ∀ j, j < m → 0 ≤ nf j ∧ nf j ≤ j
  mono : ∀ j k, j < k → k < m → bbD bl j = bbD bl k → nf j < nf k
theorem DJ.new (bl : List Int) : DJ bl (fun _ => 0) 0 (fun _ => true) PS.new :=
  ⟨List.Pairwise.nil, fun _ _ h => (by cases h), fun _ hj => absurd hj (Nat.not_lt_zero _), (by decide +kernel), fun _ h => (by cases h), fun _ hj => absurd hj (Nat.not_lt_zero _), fun _ _ _ hk => absurd hk (Nat.not_lt_zero _)⟩
theorem DJ.congr {bl : List Int} {nf : Nat → Int} {m : Nat} {al al' : Nat → Bool} {s : PS} (h : DJ bl nf m al s) (e : ∀ j, j < m → al j = al' j) : DJ bl nf m al' s := by
  refine ⟨h.up, fun k v hk => ?_, fun j hj ha => h.has j hj (by rw [e j hj]; exact ha), ?_, h.val, h.num, h.mono⟩
  · rcases h.mem k v hk with h1 | ⟨j, hj, ha, h2⟩
    · exact .inl h1
    · exact .inr ⟨j, hj, by rw [← e j hj]; exact ha, h2⟩
  · rw [h.cnt]
    congr 1
    exact List.countP_congr fun j hj => by rw [e j (List.mem_range.1 hj)]
theorem DJ.nmn {bl : List Int} {nf : Nat → Int} {m : Nat} {al : Nat → Bool} {s : PS} (h : DJ bl nf m al s) (hm : m ≤ 80) {j : Nat} (hj : j < m) : Nm (nf j) := by
  have := h.num j hj
  exact ⟨this.1, by omega⟩
theorem rowT_j {bl : List Int} (hB : Bl bl) {nf : Nat → Int} {j : Nat} (hn : Nm (nf j)) (hj : j < 80) : rowT (kjD bl nf j, vjD bl j) = some (rjD bl nf j) := by
  unfold rowT kjD vjD
  have h := cnumsF_flat [bbD bl j, (j : Int)] (fun x hx => by
    simp only [List.mem_cons, List.not_mem_nil, or_false] at hx
    rcases hx with rfl | rfl
    · exact hB.nm j
    · omega)
  simp only [dparse_key (hB.nm j) hn, h]
  rfl
theorem vj_inj {bl : List Int} {i j : Nat} (hB : Bl bl) (hi : i < 80) (hj : j < 80) (h : vjD bl i = vjD bl j) : i = j := by
  have e : ∀ k : Nat, k < 80 → numsF (vjD bl k) = some [bbD bl k, (k : Int)] := fun k hk => cnumsF_flat _ (fun x hx => by
    simp only [List.mem_cons, List.not_mem_nil, or_false] at hx
    rcases hx with rfl | rfl
    · exact hB.nm k
    · omega)
  have h1 := e i hi
  rw [h, e j hj] at h1
  injection h1 with h1
  injection h1 with _ h1
  injection h1 with h1
  omega
/-- A part of the table, whose keys begin alike. -/
theorem DJ.list {bl : List Int} {nf : Nat → Int} {m : Nat} {al : Nat → Bool} {s : PS} (h : DJ bl nf m al s) (hB : Bl bl) (hm : m ≤ bl.length) : ∀ {t : Tab}, Up t → (∀ p ∈ t, p ∈ s.t ∧ p.1 ≠ kDC) →
    ∃ js : List Nat, t = js.map (fun j => (kjD bl nf j, vjD bl j)) ∧ (∀ j ∈ js, j < m ∧ al j = true) ∧ js.Pairwise (Ahd bl)
  | [], _, _ => ⟨[], rfl, fun _ h => (by cases h), List.Pairwise.nil⟩
  | p :: t, hu, hp => by
    have h80 := hB.1
    have hu' := List.pairwise_cons.1 hu
    obtain ⟨js, e1, e2, e3⟩ := h.list hB hm hu'.2 (fun q hq => hp q (List.mem_cons_of_mem _ hq))
    obtain ⟨hp1, hp2⟩ := hp p (by simp)
    rcases h.mem p.1 p.2 (getP_of_mem h.up hp1) with h1 | ⟨j, hj, ha, h2, h3⟩
    · exact absurd h1 hp2
    · refine ⟨j :: js, ?_, fun k hk => ?_, List.pairwise_cons.2 ⟨fun k hk => ?_, e3⟩⟩
      · rw [List.map_cons, ← e1, ← h2, ← h3]
      · rcases List.mem_cons.1 hk with rfl | hk
        · exact ⟨hj, ha⟩
        · exact e2 k hk
      · have hkm := (e2 k hk).1
        have hl := hu'.1 (kjD bl nf k, vjD bl k) (by rw [e1]; exact List.mem_map.2 ⟨k, hk, rfl⟩)
        rw [h2] at hl
        rcases keyR_less (hB.nm j) (h.nmn (by omega) hj) (hB.nm k) (h.nmn (by omega) hkm) hl with h4 | ⟨h4, h5⟩
        · exact .inl h4
        · refine .inr ⟨h4, ?_⟩
          rcases Nat.lt_trichotomy j k with h6 | h6 | h6
          · exact h6
          · subst h6; omega
          · have := h.mono k j h6 hj h4.symm
            omega
theorem DJ.rowsOf {bl : List Int} {nf : Nat → Int} {m : Nat} {al : Nat → Bool} {s : PS} (h : DJ bl nf m al s) (hB : Bl bl) (hm : m ≤ bl.length) : ∀ {js : List Nat}, (∀ j ∈ js, j < m) → rowsT (js.map (fun j => (kjD bl nf j, vjD bl j))) = js.map (rjD bl nf)
  | [], _ => rfl
  | j :: js, hj => by
    have h80 := hB.1
    have h1 := hj j (by simp)
    have := h.rowsOf hB hm (js := js) (fun k hk => hj k (List.mem_cons_of_mem _ hk))
    unfold rowsT at this ⊢
    rw [List.map_cons, List.filterMap_cons, rowT_j hB (h.nmn (by omega) h1) (by omega), this]
    rfl
/-- All rows that are due, in order. -/
theorem DJ.rows {bl : List Int} {nf : Nat → Int} {m : Nat} {al : Nat → Bool} {s : PS} (h : DJ bl nf m al s) (hB : Bl bl) (hm : m ≤ bl.length) :
    ∃ js : List Nat, rowsT (underP s.t (keyF 26 [])) = js.map (rjD bl nf) ∧ (∀ j, j ∈ js ↔ j < m ∧ al j = true) ∧ js.Pairwise (Ahd bl) := by
  have h80 := hB.1
  obtain ⟨js, e1, e2, e3⟩ := h.list hB hm (up_under h.up (keyF 26 [])) (fun p hp => by
    obtain ⟨h1, h2⟩ := List.mem_filter.1 hp
    refine ⟨h1, fun e => ?_⟩
    rw [e, cnt_under] at h2
    cases h2)
  refine ⟨js, by rw [e1, h.rowsOf hB hm fun j hj => (e2 j hj).1], fun j => ⟨e2 j, fun ⟨hj, ha⟩ => ?_⟩, e3⟩
  have h1 : (kjD bl nf j, vjD bl j) ∈ underP s.t (keyF 26 []) := List.mem_filter.2 ⟨getP_mem (h.has j hj ha), keyR_under (hB.nm j) (h.nmn (by omega) hj)⟩
  rw [e1] at h1
  obtain ⟨k, hk, e⟩ := List.mem_map.1 h1
  have := vj_inj hB (by have := (e2 k hk).1; omega) (by omega) (congrArg Prod.snd e)
  rw [← this]; exact hk
theorem Ahd.irrefl (bl : List Int) (j : Nat) : ¬ Ahd bl j j := by rintro (h | ⟨_, h⟩) <;> omega
theorem ahd_nodup {bl : List Int} {js : List Nat} (h : js.Pairwise (Ahd bl)) : js.Nodup := h.imp fun {a b} hab e => by subst e; exact Ahd.irrefl _ _ hab
theorem js_count {bl : List Int} {m : Nat} {al : Nat → Bool} {js : List Nat} (h : ∀ j, j ∈ js ↔ j < m ∧ al j = true) (hp : js.Pairwise (Ahd bl)) (p : Nat → Bool) : (js.filter p).length = (List.range m).countP (fun j => al j && p j) := by
  have h1 : (js.filter p).Perm ((List.range m).filter (fun j => al j && p j)) := by
    refine (List.perm_ext_iff_of_nodup ((ahd_nodup hp).filter _) (List.nodup_range.filter _)).2 fun j => ?_
    simp only [List.mem_filter, h, List.mem_range, Bool.and_eq_true]
    exact ⟨fun ⟨⟨a, b⟩, c⟩ => ⟨a, b, c⟩, fun ⟨a, b, c⟩ => ⟨⟨a, b⟩, c⟩⟩
  rw [h1.length_eq, List.countP_eq_length_filter]
/-- What is due up to a block stands ahead. -/
theorem take_filter {bl : List Int} {nf : Nat → Int} (bk : Int) : ∀ {js : List Nat}, js.Pairwise (Ahd bl) → takeL bk (js.map (rjD bl nf)) = (js.filter fun j => decide (bbD bl j ≤ bk)).map (rjD bl nf)
  | [], _ => rfl
  | j :: js, hp => by
    have hp' := List.pairwise_cons.1 hp
    have ih := take_filter (nf := nf) bk hp'.2
    unfold takeL at ih ⊢
    rw [List.map_cons, List.takeWhile_cons]
    by_cases h : bbD bl j ≤ bk
    · rw [List.filter_cons_of_pos (by simpa using h), List.map_cons, ← ih]
      have : decide ((rjD bl nf j).1.1 ≤ bk) = true := decide_eq_true h
      rw [this]; rfl
    · have h1 : decide ((rjD bl nf j).1.1 ≤ bk) = false := decide_eq_false h
      rw [List.filter_cons_of_neg (by simpa using h), h1]
      have h2 : (js.filter fun j => decide (bbD bl j ≤ bk)) = [] := List.filter_eq_nil_iff.2 fun k hk => by
        have := hp'.1 k hk
        simp only [decide_eq_true_eq]
        rcases this with h3 | ⟨h3, _⟩ <;> omega
      rw [h2]; rfl
theorem getP_delAll (q : Txt) : ∀ (R : List ((Int × Int) × List Int)) (s : PS), getP (delAll s R).t q = if ∃ r ∈ R, keyF 26 [r.1.1, r.1.2] = q then none else getP s.t q
  | [], s => by
    rw [if_neg (by rintro ⟨r, hr, _⟩; cases hr)]; rfl
  | r :: R, s => by
    have h1 : delAll s (r :: R) = delAll (s.del (keyF 26 [r.1.1, r.1.2])) R := rfl
    rw [h1, getP_delAll q R, getP_sdel]
    by_cases h : ∃ r ∈ R, keyF 26 [r.1.1, r.1.2] = q
    · rw [if_pos h, if_pos]
      obtain ⟨r', h2, h3⟩ := h
      exact ⟨r', List.mem_cons_of_mem _ h2, h3⟩
    · rw [if_neg h]
      by_cases h4 : keyF 26 [r.1.1, r.1.2] = q
      · rw [if_pos h4, if_pos ⟨r, by simp, h4⟩]
      · rw [if_neg h4, if_neg]
        rintro ⟨r', h5, h6⟩
        rcases List.mem_cons.1 h5 with rfl | h5
        · exact h4 h6
        · exact h ⟨r', h5, h6⟩
theorem up_sdel {s : PS} (h : Up s.t) (k : Txt) : Up (s.del k).t := by
  unfold PS.del
  split
  · exact h
  · show Up (layP s.t k [] false)
    exact up_lay h _ _ _
theorem up_sset {s : PS} (h : Up s.t) (k v : Txt) : Up (s.set k v).t := by
  unfold PS.set
  split
  · exact h
  · show Up (layP s.t k v true)
    exact up_lay h _ _ _
theorem up_delAll : ∀ (R : List ((Int × Int) × List Int)) {s : PS}, Up s.t → Up (delAll s R).t
  | [], _, h => h
  | _ :: R, s, h => up_delAll R (s := s.del _) (up_sdel h _)
theorem up_setInt {s : PS} (h : Up s.t) (k : Txt) (n : Int) : Up (s.setInt k n).t := by
  unfold PS.setInt
  split
  · exact up_sdel h _
  · exact up_sset h _ _
/-- The count is laid. -/
theorem getP_cnt {s : PS} {n : Int} (q : Txt) : getP (s.setInt kDC n).t q = if kDC = q then (if n < 1 then none else some (numL n)) else getP s.t q := by
  unfold PS.setInt
  by_cases h : n < 1
  · rw [if_pos h, getP_sdel, if_pos h]
  · rw [if_neg h, getP_set, if_neg h]
    by_cases hq : kDC = q
    · rw [if_pos ⟨hq, kDC_ne⟩, if_pos hq]
    · rw [if_neg (fun e => hq e.1), if_neg hq]
theorem getI_cnt {s : PS} {n : Int} (h0 : 0 ≤ n) (h1 : n < 9223372036854775808) : getI (getP (s.setInt kDC n).t) kDC = n := by
  unfold getI valF
  rw [getP_cnt, if_pos rfl]
  by_cases h : n < 1
  · rw [if_pos h]
    obtain rfl : n = 0 := by omega
    decide +kernel
  · rw [if_neg h]
    have e : rowF (numL n) = [n] := by
      have := rowF_flat (l := [n]) (fun x hx => by rw [List.mem_singleton.1 hx]; exact ⟨h0, h1⟩)
      simpa using this
    show intF (rowF (numL n)) = n
    rw [e]; rfl
/-- The store with another count, whose rows are those of al. -/
theorem DJ.recount {bl : List Int} {nf : Nat → Int} {m : Nat} {al : Nat → Bool} {s : PS} (hB : Bl bl) (hm : m ≤ bl.length) (up : Up s.t)
    (mem : ∀ k v, getP s.t k = some v → k = kDC ∨ ∃ j, j < m ∧ al j = true ∧ k = kjD bl nf j ∧ v = vjD bl j) (has : ∀ j, j < m → al j = true → getP s.t (kjD bl nf j) = some (vjD bl j))
    (num : ∀ j, j < m → 0 ≤ nf j ∧ nf j ≤ j) (mono : ∀ j k, j < k → k < m → bbD bl j = bbD bl k → nf j < nf k) {n : Int} (hn : n = ((List.range m).countP al : Nat)) : DJ bl nf m al (s.setInt kDC n) := by
  have h80 := hB.1
  have hc : (List.range m).countP al ≤ m := by have := List.countP_le_length (p := al) (l := List.range m); rwa [List.length_range] at this
  refine ⟨up_setInt up _ _, fun k v hk => ?_, fun j hj ha => ?_, ?_, fun v hv => ?_, num, mono⟩
  · rw [getP_cnt] at hk
    by_cases h : kDC = k
    · exact .inl h.symm
    · rw [if_neg h] at hk; exact mem k v hk
  · have hne : kDC ≠ kjD bl nf j := fun e => keyR_cnt (hB.nm j) ⟨(num j hj).1, by have := (num j hj).2; omega⟩ e.symm
    rw [getP_cnt, if_neg hne]; exact has j hj ha
  · rw [getI_cnt (by omega) (by omega), hn]
  · rw [getP_cnt, if_pos rfl] at hv
    split at hv
    · cases hv
    · cases hv; exact numL_length _
/-- What is taken at a block. -/
theorem DJ.take {bl : List Int} {nf : Nat → Int} {m : Nat} {al : Nat → Bool} {s : PS} (h : DJ bl nf m al s) (hB : Bl bl) (hm : m ≤ bl.length) (bk : Int) :
    ∃ A : List Nat, takeL bk (rowsT (underP s.t (keyF 26 []))) = A.map (rjD bl nf) ∧ (∀ j ∈ A, j < m ∧ bbD bl j ≤ bk) ∧ A.Pairwise (Ahd bl) ∧ A.length = (List.range m).countP (fun j => al j && decide (bbD bl j ≤ bk)) ∧
      DJ bl nf m (fun j => al j && !decide (bbD bl j ≤ bk)) (takeS s (takeL bk (rowsT (underP s.t (keyF 26 []))))) := by
  have h80 := hB.1
  obtain ⟨js, e1, e2, e3⟩ := h.rows hB hm
  obtain ⟨A, hA⟩ : ∃ A, A = js.filter fun j => decide (bbD bl j ≤ bk) := ⟨_, rfl⟩
  have eT : takeL bk (rowsT (underP s.t (keyF 26 []))) = A.map (rjD bl nf) := by rw [e1, take_filter bk e3, hA]
  have mA : ∀ j, j ∈ A ↔ (j < m ∧ al j = true) ∧ bbD bl j ≤ bk := fun j => by rw [hA, List.mem_filter, e2]; simp
  have lA : A.length = (List.range m).countP (fun j => al j && decide (bbD bl j ≤ bk)) := by rw [hA]; exact js_count e2 e3 _
  have split : (List.range m).countP al = (List.range m).countP (fun j => al j && decide (bbD bl j ≤ bk)) + (List.range m).countP (fun j => al j && !decide (bbD bl j ≤ bk)) := by
    have : ∀ l : List Nat, l.countP al = l.countP (fun j => al j && decide (bbD bl j ≤ bk)) + l.countP (fun j => al j && !decide (bbD bl j ≤ bk)) := by
      intro l
      induction l with
      | nil => rfl
      | cons x l ih =>
        simp only [List.countP_cons]
        cases al x <;> cases decide (bbD bl x ≤ bk) <;> simp <;> omega
    exact this _
  refine ⟨A, eT, fun j hj => ⟨((mA j).1 hj).1.1, ((mA j).1 hj).2⟩, by rw [hA]; exact e3.filter _, lA, ?_⟩
  rw [eT]
  unfold takeS
  by_cases hnil : A = []
  · rw [if_pos (by rw [hnil]; rfl)]
    refine h.congr fun j hj => ?_
    have : ¬ ((j < m ∧ al j = true) ∧ bbD bl j ≤ bk) := fun hc => by have := (mA j).2 hc; rw [hnil] at this; cases this
    cases ha : al j with
    | false => rfl
    | true =>
      have hb : ¬ bbD bl j ≤ bk := fun hc => this ⟨⟨hj, ha⟩, hc⟩
      simp [hb]
  · rw [if_neg (by simpa using hnil)]
    have gd : ∀ q, getP (delAll s (A.map (rjD bl nf))).t q = if ∃ j ∈ A, kjD bl nf j = q then none else getP s.t q := fun q => by
      rw [getP_delAll]
      congr 1
      apply propext
      constructor
      · rintro ⟨r, hr, e⟩
        obtain ⟨j, hj, rfl⟩ := List.mem_map.1 hr
        exact ⟨j, hj, e⟩
      · rintro ⟨j, hj, e⟩
        exact ⟨_, List.mem_map.2 ⟨j, hj, rfl⟩, e⟩
    have nm : ∀ j, j < m → Nm (nf j) := fun j hj => h.nmn (by omega) hj
    have gc : getI (getP (delAll s (A.map (rjD bl nf))).t) (keyF 27 []) = getI (getP s.t) kDC := by
      unfold getI valF
      rw [gd, if_neg]
      · rfl
      · rintro ⟨j, hj, e⟩
        exact keyR_cnt (hB.nm j) (nm j ((mA j).1 hj).1.1) e
    refine DJ.recount hB hm (up_delAll _ h.up) (fun k v hk => ?_) (fun j hj ha => ?_) h.num h.mono ?_
    · rw [gd] at hk
      split at hk
      · cases hk
      · rename_i hno
        rcases h.mem k v hk with h1 | ⟨j, hj, ha, h2, h3⟩
        · exact .inl h1
        · refine .inr ⟨j, hj, ?_, h2, h3⟩
          have : ¬ bbD bl j ≤ bk := fun hc => hno ⟨j, (mA j).2 ⟨⟨hj, ha⟩, hc⟩, h2.symm⟩
          simp [ha, this]
    · simp only [Bool.and_eq_true, Bool.not_eq_true', decide_eq_false_iff_not] at ha
      rw [gd, if_neg]
      · exact h.has j hj ha.1
      · rintro ⟨i, hi, e⟩
        have hi2 := (mA i).1 hi
        have := keyR_inj (hB.nm i) (nm i hi2.1.1) (hB.nm j) (nm j hj) e
        rw [this.1] at hi2
        exact ha.2 hi2.2
    · rw [gc, h.cnt, List.length_map, lA, split]
      omega
/-- One more row. -/
theorem dnext_ge {r : (Int × Int) × List Int} : ∀ {R : List ((Int × Int) × List Int)} {n : Int}, r ∈ R → r.1.2 + 1 ≤ R.foldl (fun n r => max n (r.1.2 + 1)) n := by
  intro R
  have mono : ∀ (R : List ((Int × Int) × List Int)) (n : Int), n ≤ R.foldl (fun n r => max n (r.1.2 + 1)) n := by
    intro R
    induction R with
    | nil => intro n; exact Int.le_refl _
    | cons x R ih => intro n; exact Int.le_trans (Int.le_max_left _ _) (ih _)
  induction R with
  | nil => intro n h; cases h
  | cons x R ih =>
    intro n h
    rcases List.mem_cons.1 h with rfl | h
    · exact Int.le_trans (Int.le_max_right _ _) (mono R _)
    · exact ih h
theorem DJ.block {bl : List Int} {nf : Nat → Int} {m : Nat} {al : Nat → Bool} {s : PS} (h : DJ bl nf m al s) (hB : Bl bl) (hm : m ≤ bl.length) {bk : Int} (hbk : Nm bk) :
    ∃ js : List Nat, rowsT (underP s.t (keyF 26 [bk])) = js.map (rjD bl nf) ∧ (∀ j ∈ js, j < m) ∧ (∀ j, j < m → al j = true → bbD bl j = bk → j ∈ js) := by
  have h80 := hB.1
  obtain ⟨js, e1, e2, e3⟩ := h.list hB hm (up_under h.up (keyF 26 [bk])) (fun p hp => by
    obtain ⟨h1, h2⟩ := List.mem_filter.1 hp
    refine ⟨h1, fun e => ?_⟩
    rw [e, cnt_block hbk] at h2
    cases h2)
  refine ⟨js, by rw [e1, h.rowsOf hB hm fun j hj => (e2 j hj).1], fun j hj => (e2 j hj).1, fun j hj ha hb => ?_⟩
  have h1 : (kjD bl nf j, vjD bl j) ∈ underP s.t (keyF 26 [bk]) := List.mem_filter.2 ⟨getP_mem (h.has j hj ha), by rw [← hb]; exact keyR_block (hB.nm j) (h.nmn (by omega) hj)⟩
  rw [e1] at h1
  obtain ⟨k, hk, e⟩ := List.mem_map.1 h1
  have := vj_inj hB (by have := (e2 k hk).1; omega) (by omega) (congrArg Prod.snd e)
  rw [← this]; exact hk
theorem DJ.ok {bl : List Int} {nf : Nat → Int} {m : Nat} {al : Nat → Bool} {s : PS} (h : DJ bl nf m al s) (hB : Bl bl) (_hm : m ≤ bl.length) (hs : s.sz < 1000000) : Fit s ∧ ∀ b, TabOk (underP s.t b) := by
  have h80 := hB.1
  have hv : ∀ p ∈ s.t, p.1.length ≤ 100 ∧ p.2.length ≤ 100 := fun p hp => by
    have hg := getP_of_mem h.up (k := p.1) (v := p.2) hp
    rcases h.mem _ _ hg with h1 | ⟨j, hj, ha, h2, h3⟩
    · rw [h1] at hg
      exact ⟨by rw [h1]; decide +kernel, by rw [h.val _ hg]; decide⟩
    · refine ⟨?_, by rw [h3, vjD, cflat_length]; simp⟩
      rw [h2, kjD, keyF_two (by decide) (by decide) (hB.nm j).1 (h.num j hj).1]
      simp [numL_length]
  refine ⟨fun p hp => by have := hv p hp; omega, fun b => ⟨?_, fun p hp => ?_⟩⟩
  · refine Nat.lt_of_le_of_lt (List.length_filter_le _ _) ?_
    unfold PS.sz at hs; omega
  · have := hv p (List.mem_filter.1 hp).1
    omega
theorem DJ.add {bl : List Int} {nf : Nat → Int} {m : Nat} {s : PS} (h : DJ bl nf m (fun _ => true) s) (hB : Bl bl) (hm : m < bl.length) :
    (∀ r ∈ rowsT (underP s.t (keyF 26 [bbD bl m])), 0 ≤ r.1.2 ∧ r.1.2 < 1000000000000) ∧ getI (getP (s.dput (bbD bl m) (daddN s (bbD bl m)) [bbD bl m, (m : Int)]).t) (keyF 27 []) < 1000000000000 ∧
    ∃ nf' : Nat → Int, DJ bl nf' (m + 1) (fun _ => true) (s.dadd (bbD bl m) [bbD bl m, (m : Int)]) := by
  have h80 := hB.1
  obtain ⟨js, e1, e2, e3⟩ := h.block hB (Nat.le_of_lt hm) (hB.nm m)
  obtain ⟨n, hn⟩ : ∃ n, n = daddN s (bbD bl m) := ⟨_, rfl⟩
  have hr : ∀ r ∈ rowsT (underP s.t (keyF 26 [bbD bl m])), 0 ≤ r.1.2 ∧ r.1.2 < m := fun r hr => by
    rw [e1] at hr
    obtain ⟨j, hj, rfl⟩ := List.mem_map.1 hr
    have hjm := e2 j hj
    have := h.num j hjm
    show 0 ≤ nf j ∧ nf j < m
    omega
  have nb : 0 ≤ n ∧ n ≤ m := by rw [hn]; exact dnext_bound _ (fun r h9 => (hr r h9).2) (by omega)
  have ng : ∀ j, j < m → bbD bl j = bbD bl m → nf j < n := fun j hj hb => by
    have h9 : rjD bl nf j ∈ rowsT (underP s.t (keyF 26 [bbD bl m])) := by rw [e1]; exact List.mem_map.2 ⟨j, e3 j hj rfl hb, rfl⟩
    have h8 : nf j + 1 ≤ daddN s (bbD bl m) := dnext_ge h9
    omega
  have hnn : Nm n := ⟨nb.1, by omega⟩
  rw [← hn]
  obtain ⟨nf', hnf⟩ : ∃ f : Nat → Int, f = fun j => if j = m then n else nf j := ⟨_, rfl⟩
  have nfm : nf' m = n := by rw [hnf]; simp
  have nfo : ∀ j, j < m → nf' j = nf j := fun j hj => by rw [hnf]; simp; omega
  have kjm : kjD bl nf' m = keyF 26 [bbD bl m, n] := by unfold kjD; rw [nfm]
  have kjo : ∀ j, j < m → kjD bl nf' j = kjD bl nf j := fun j hj => by unfold kjD; rw [nfo j hj]
  have gput : ∀ q, getP (s.dput (bbD bl m) n [bbD bl m, (m : Int)]).t q = if keyF 26 [bbD bl m, n] = q then some (vjD bl m) else getP s.t q := fun q => by
    unfold PS.dput PS.setRow
    rw [if_neg]
    · unfold PS.putv
      have hne : [bbD bl m, (m : Int)].flatMap numL ≠ [] := by
        intro e
        have := congrArg List.length e
        rw [cflat_length] at this
        simp at this
      rw [if_neg hne, getP_set]
      by_cases hq : keyF 26 [bbD bl m, n] = q
      · rw [if_pos ⟨hq, keyR_ne (hB.nm m) hnn⟩, if_pos hq]; rfl
      · rw [if_neg (fun e => hq e.1), if_neg hq]
    · rintro ⟨x, hx, h9⟩
      simp only [List.mem_cons, List.not_mem_nil, or_false] at hx
      rcases hx with rfl | rfl
      · have := (hB.bb m).1; omega
      · omega
  have upp : Up (s.dput (bbD bl m) n [bbD bl m, (m : Int)]).t := by
    unfold PS.dput PS.setRow
    split
    · exact h.up
    · unfold PS.putv
      split
      · exact up_sdel h.up _
      · exact up_sset h.up _ _
  have gci : getI (getP (s.dput (bbD bl m) n [bbD bl m, (m : Int)]).t) (keyF 27 []) = m := by
    have : getI (getP (s.dput (bbD bl m) n [bbD bl m, (m : Int)]).t) (keyF 27 []) = getI (getP s.t) kDC := by
      unfold getI valF
      rw [gput, if_neg (show keyF 26 [bbD bl m, n] ≠ keyF 27 [] from keyR_cnt (hB.nm m) hnn)]; rfl
    rw [this, h.cnt]
    simp
  refine ⟨fun r h9 => by have := hr r h9; omega, by rw [gci]; omega, nf', ?_⟩
  have hds : s.dadd (bbD bl m) [bbD bl m, (m : Int)] = (s.dput (bbD bl m) n [bbD bl m, (m : Int)]).setInt kDC (m + 1) := by
    unfold PS.dadd PS.dcnt
    rw [← hn, gci]; rfl
  rw [hds]
  refine DJ.recount hB (by omega) upp (fun k v hk => ?_) (fun j hj _ => ?_) (fun j hj => ?_) (fun j k hjk hk hb => ?_) (by simp)
  · rw [gput] at hk
    split at hk
    · rename_i e
      cases hk
      exact .inr ⟨m, by omega, rfl, by rw [kjm, e], rfl⟩
    · rcases h.mem k v hk with h1 | ⟨j, hj, _, h2, h3⟩
      · exact .inl h1
      · exact .inr ⟨j, by omega, rfl, by rw [kjo j hj]; exact h2, h3⟩
  · rw [gput]
    by_cases hjm : j = m
    · subst hjm; rw [if_pos kjm.symm]
    · have hj' : j < m := by omega
      rw [kjo j hj', if_neg]
      · exact h.has j hj' rfl
      · intro e
        have := keyR_inj (hB.nm m) hnn (hB.nm j) (h.nmn (by omega) hj') e
        have h9 := ng j hj' this.1.symm
        omega
  · by_cases hjm : j = m
    · subst hjm; rw [nfm]; omega
    · rw [nfo j (by omega)]; exact h.num j (by omega)
  · by_cases hkm : k = m
    · subst hkm
      rw [nfm, nfo j hjk]
      exact ng j hjk hb
    · rw [nfo j (by omega), nfo k (by omega)]
      exact h.mono j k hjk (by omega) hb

/-! ### how many -/
def leftN (bl : List Int) (nw : Int) : Nat := (List.range bl.length).countP fun j => decide (nw < bbD bl j)
theorem left_all {bl : List Int} (hB : Bl bl) : leftN bl (-1) = bl.length := by
  unfold leftN
  have : (List.range bl.length).countP (fun j => decide (-1 < bbD bl j)) = (List.range bl.length).length := List.countP_eq_length.2 fun j _ => by have := (hB.bb j).1; simp; omega
  rw [this, List.length_range]
theorem left_want (nw : Int) (bl : List Int) : leftN bl nw + bl.countP (fun b => decide (b ≤ nw)) = bl.length := by
  unfold leftN
  have e : (List.range bl.length).countP (fun j => decide (nw < bbD bl j)) = bl.countP fun b => decide (nw < b) := by
    have h1 : bl = (List.range bl.length).map (bbD bl) := by
      apply List.ext_getElem
      · simp
      · intro i h1 h2
        simp [bbD, List.getElem?_eq_getElem h1]
    have h2 : bl.countP (fun b => decide (nw < b)) = ((List.range bl.length).map (bbD bl)).countP (fun b => decide (nw < b)) := by rw [← h1]
    rw [h2, List.countP_map]; rfl
  rw [e]
  induction bl with
  | nil => rfl
  | cons b bl ih =>
    have ih' := ih (by
      have h1 : bl = (List.range bl.length).map (bbD bl) := by
        apply List.ext_getElem
        · simp
        · intro i h1 h2
          simp [bbD, List.getElem?_eq_getElem h1]
      have h2 : bl.countP (fun b => decide (nw < b)) = ((List.range bl.length).map (bbD bl)).countP (fun b => decide (nw < b)) := by rw [← h1]
      rw [h2, List.countP_map]; rfl)
    simp only [List.countP_cons, List.length_cons]
    by_cases hb : b ≤ nw
    · rw [decide_eq_true hb, decide_eq_false (by omega)]; simp; omega
    · rw [decide_eq_false hb, decide_eq_true (by omega)]; simp; omega
/-- The store while all that is due up to nw was taken. -/
def DN (bl : List Int) (nw : Int) (s : PS) : Prop := ∃ nf, DJ bl nf bl.length (fun j => decide (nw < bbD bl j)) s
theorem DJ.all {bl : List Int} {nf : Nat → Int} {s : PS} (h : DJ bl nf bl.length (fun _ => true) s) (hB : Bl bl) : DN bl (-1) s :=
  ⟨nf, h.congr fun j _ => (decide_eq_true (by have := (hB.bb j).1; omega)).symm⟩
theorem DN.len {bl : List Int} {nw : Int} {s : PS} (h : DN bl nw s) : getI (getP s.t) (keyF 27 []) = (leftN bl nw : Nat) := by
  obtain ⟨nf, h⟩ := h; exact h.cnt
theorem DN.ok {bl : List Int} {nw : Int} {s : PS} (h : DN bl nw s) (hB : Bl bl) (hs : s.sz < 1000000) : Fit s ∧ ∀ b, TabOk (underP s.t b) := by
  obtain ⟨nf, h⟩ := h; exact h.ok hB (Nat.le_refl _) hs
theorem sz_takeS (s : PS) (R : List ((Int × Int) × List Int)) : (takeS s R).sz ≤ s.sz + 2 * R.length + 2 := by
  unfold takeS
  split
  · omega
  · have := sz_delAll s R
    have := sz_setInt (delAll s R) (keyF 27 []) (getI (getP (delAll s R).t) (keyF 27 []) - R.length)
    omega
/-- What a Take gives: the numbers A of the rows, in order. -/
structure Took (bl : List Int) (nw bk : Int) (A : List Nat) : Prop where
  inn : ∀ j ∈ A, j < bl.length ∧ bbD bl j ≤ bk
  ord : A.Pairwise (Ahd bl)
  len : A.length + leftN bl bk = leftN bl nw
theorem DN.take {bl : List Int} {nw : Int} {s : PS} (h : DN bl nw s) (hB : Bl bl) {bk : Int} (hle : nw ≤ bk) :
    (∀ r ∈ rowsT (underP s.t (keyF 26 [])), (0 ≤ r.1.1 ∧ r.1.1 < 9223372036854775808) ∧ (0 ≤ r.1.2 ∧ r.1.2 < 9223372036854775808)) ∧
    ∃ A : List Nat, (takeL bk (rowsT (underP s.t (keyF 26 [])))).map (·.2) = A.map (fun j => [bbD bl j, (j : Int)]) ∧ Took bl nw bk A ∧ DN bl bk (takeS s (takeL bk (rowsT (underP s.t (keyF 26 []))))) ∧ (takeS s (takeL bk (rowsT (underP s.t (keyF 26 []))))).sz ≤ s.sz + 200 := by
  have h80 := hB.1
  obtain ⟨nf, h⟩ := h
  obtain ⟨js, e1, e2, e3⟩ := h.rows hB (Nat.le_refl _)
  obtain ⟨A, a1, a2, a3, a4, a5⟩ := h.take hB (Nat.le_refl _) bk
  refine ⟨fun r hr => ?_, A, ?_, ⟨a2, a3, ?_⟩, ⟨nf, a5.congr fun j hj => ?_⟩, ?_⟩
  · rw [e1] at hr
    obtain ⟨j, hj, rfl⟩ := List.mem_map.1 hr
    exact ⟨hB.nm j, h.nmn (by omega) ((e2 j).1 hj).1⟩
  · rw [a1, List.map_map]; rfl
  · have hs : ∀ l : List Nat, l.countP (fun j => decide (nw < bbD bl j) && decide (bbD bl j ≤ bk)) + l.countP (fun j => decide (bk < bbD bl j)) = l.countP (fun j => decide (nw < bbD bl j)) := by
      intro l
      induction l with
      | nil => rfl
      | cons x l ih =>
        simp only [List.countP_cons]
        by_cases c1 : nw < bbD bl x <;> by_cases c2 : bbD bl x ≤ bk <;> by_cases c3 : bk < bbD bl x <;> simp [c1, c2, c3] <;> omega
    rw [a4]
    exact hs _
  · by_cases c1 : nw < bbD bl j <;> by_cases c2 : bbD bl j ≤ bk <;> by_cases c3 : bk < bbD bl j <;> simp [c1, c2, c3] <;> omega
  · have h1 := sz_takeS s (takeL bk (rowsT (underP s.t (keyF 26 []))))
    have h2 : (takeL bk (rowsT (underP s.t (keyF 26 [])))).length ≤ 80 := by
      rw [a1, List.length_map, a4]
      have := List.countP_le_length (p := fun j => decide (nw < bbD bl j) && decide (bbD bl j ≤ bk)) (l := List.range bl.length)
      rw [List.length_range] at this
      omega
    omega
end Go.Proofs.Ythnjakomkdlglaa
