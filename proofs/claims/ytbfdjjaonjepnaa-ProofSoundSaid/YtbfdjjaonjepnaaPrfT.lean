/- tallagelaw07.ProofSound: its walk. -/
import Derived.Test.YtbfdjjaonjepnaaOpenA
import Derived.Test.YtbfdjjaonjepnaaPrfC
namespace Go.Proofs.Ytbfdjjaonjepnaa
open Go.RowKit

/-- The cells of what is asked. -/
def askL (k : Int) (root : List UInt8) (vb : Value) (i : Int) (vp : Value) : List Value := .int .i64 k :: (root.map byteV ++ [vb, .int .i64 i, vp])
theorem ask_at {root : List UInt8} (h : root.length = 32) (k : Int) (vb : Value) (i : Int) (vp : Value) : (askL k root vb i vp)[0]? = some (.int .i64 k) ∧ (askL k root vb i vp)[33]? = some vb ∧ (askL k root vb i vp)[34]? = some (.int .i64 i) ∧ (askL k root vb i vp)[35]? = some vp := by
  have hl : (root.map byteV).length = 32 := by simpa using h
  unfold askL
  refine ⟨rfl, ?_, ?_, ?_⟩ <;>
  · rw [List.getElem?_cons_succ, List.getElem?_append_right (by omega), hl]; rfl
theorem ask_mid {root : List UInt8} (k : Int) (vb : Value) (i : Int) (vp : Value) (j : Nat) (u : Value) (h : (root.map byteV)[j]? = some u) : (askL k root vb i vp)[1 + j]? = some u := by
  unfold askL
  rw [Nat.add_comm, List.getElem?_cons_succ, List.getElem?_append_left (List.getElem?_eq_some_iff.1 h).1]; exact h
theorem rd_grew {α : Type} {en : α → List Value} {sz : Nat} {w w1 : World} {v : Value} {l : List α} {g : Nat} (hT : Rd w en sz v l) (hb : Below w.heap.size w w1) (hg : w.heap.size ≤ g) : ∀ w' a', Grew w1 g none w' a' → Rd w' en sz v l :=
  fun _ _ h => hT.later (hb.trans (h.below hb.size hg (fun _ h => by cases h)))
theorem checkNt_le (k : Int) (leaf : List UInt8) (i : Int) (p : List (List UInt8)) : (checkNt k leaf i p).length ≤ 1 + p.length := by
  unfold checkNt
  split
  · rw [List.length_append]
    have := leafN_le k leaf
    have := foldNt_le k (leafK k leaf) i.toNat p p.length
    omega
  · simp

theorem node_parts {k : Nat} {a b c d : List UInt8} (ha : a.length = 32) (hc : c.length = 32) (h : nodeT k a b = nodeT k c d) : a = c ∧ b = d := by
  unfold nodeT at h
  exact List.append_inj (List.cons.inj h).2 (by rw [ha, hc])
theorem mem_foldNt {k : Int} (hk : k = 1 ∨ k = 2) (x : List UInt8) (i : Nat) (p : List (List UInt8)) (j : Nat) : ∀ m, j < m → (if i / 2 ^ j % 2 = 0 then nodeT k.toNat (foldAt k x i p j) (hAt p j) else nodeT k.toNat (hAt p j) (foldAt k x i p j)) ∈ foldNt k x i p m
  | 0, h => absurd h (Nat.not_lt_zero _)
  | m + 1, h => by
    rw [foldNt, List.mem_append]
    rcases Nat.lt_or_ge j m with h1 | h1
    · exact .inl (mem_foldNt hk x i p j m h1)
    · obtain rfl : j = m := by omega
      right
      unfold stepN nodeN
      split <;> exact List.mem_singleton.2 rfl
theorem sound_down {k : Int} (hk : k = 1 ∨ k = 2) (l : List (List UInt8)) (x : List UInt8) (hx : x.length = 32) (i : Nat) (p : List (List UInt8)) (h32 : All32 p) (hi : i < 2 ^ depthF l.length) (N : List (List UInt8)) (hn : ¬ Twin N)
    (h1 : ∀ t ∈ notesF k.toNat l, t ∈ N) (h2 : ∀ t ∈ foldNt k x i p (depthF l.length), t ∈ N) :
    ∀ c j, j + c = depthF l.length → foldAt k x i p (depthF l.length) = hAt (rowN k l (depthF l.length)) (i / 2 ^ depthF l.length) → foldAt k x i p j = hAt (rowN k l j) (i / 2 ^ j)
  | 0, j, hj, h => by obtain rfl : j = depthF l.length := by omega
                      exact h
  | c + 1, j, hj, h => by
    have ih := sound_down hk l x hx i p h32 hi N hn h1 h2 c (j + 1) (by omega) h
    have hm : i / 2 ^ (j + 1) < (rowN k l (j + 1)).length := by
      rw [rowN_pow k l (j + 1) (by omega), Nat.div_lt_iff_lt_mul (Nat.pow_pos (by omega)), ← Nat.pow_add, Nat.sub_add_cancel (by omega)]
      exact hi
    rw [rowN_node hk l j _ (by omega) hm] at ih
    have hmem := h2 _ (mem_foldNt hk x i p j _ (by omega))
    have hs : foldAt k x i p (j + 1) = stepK k (i / 2 ^ j) (foldAt k x i p j) (hAt p j) := rfl
    rw [hs] at ih
    have hh := rowN_half k l j (by omega)
    have hl1 : 2 * (i / 2 ^ (j + 1)) + 1 < (rowN k l j).length := by omega
    have hup : nodeT k.toNat (hAt (rowN k l j) (2 * (i / 2 ^ (j + 1)))) (hAt (rowN k l j) (2 * (i / 2 ^ (j + 1)) + 1)) ∈ N := by
      refine h1 _ (mem_notes_up k.toNat l j (by omega) _ ?_)
      unfold upT
      refine List.mem_map.2 ⟨i / 2 ^ (j + 1), List.mem_range.2 (by show _ < (rowN k l j).length / 2; omega), ?_⟩
      have e : ∀ q, q < (rowN k l j).length → (rowAt k.toNat (groundF k.toNat (depthF l.length) l) j).getD q [] = hAt (rowN k l j) q := fun q hq => by
        rw [hAt_eq _ q hq, List.getD_eq_getElem?_getD]
        show ((rowN k l j)[q]?).getD [] = _
        rw [List.getElem?_eq_getElem hq]; rfl
      rw [e _ (by omega), e _ hl1]
    have hf := foldAt_length k x hx i p j
    have hp := hAt_length h32 j
    rw [place_next] at ih hup
    obtain ⟨q, hq⟩ : ∃ q, q = i / 2 ^ j := ⟨_, rfl⟩
    rw [← hq] at ih hup hmem ⊢
    have ha := hAt_length (rowN_32 k l j) (2 * (q / 2))
    unfold stepK nodeK at ih
    simp only [if_pos hk] at ih
    rcases Nat.mod_two_eq_zero_or_one q with h0 | h0
    · rw [if_pos h0] at ih hmem
      have := (node_parts hf ha (no_twin hn hmem hup ih)).1
      rw [this, show 2 * (q / 2) = q by omega]
    · rw [if_neg (by omega)] at ih hmem
      have := (node_parts hp ha (no_twin hn hmem hup ih)).2
      rw [this, show 2 * (q / 2) + 1 = q by omega]
theorem sound {k : Int} (hk : k = 1 ∨ k = 2) (l : List (List UInt8)) (leaf : List UInt8) (i : Int) (p : List (List UInt8)) (h32 : All32 p) (hn : l.length ≤ 1024) (hp : p.length = depthF l.length) (h : checkF k (rootF k.toNat l) leaf i p = 0) :
    0 ≤ i ∧ (leaf = tAt l i.toNat ∨ Twin (notesF k.toNat l ++ checkNt k leaf i p)) := by
  have hd := depthF_10 _ hn
  unfold checkF at h
  rw [if_pos hk, if_neg (by omega)] at h
  by_cases hi : i < 0 ∨ ((2 ^ p.length : Nat) : Int) ≤ i
  · rw [if_pos hi] at h; cases h
  · rw [if_neg hi] at h
    have hf : foldK k (leafK k leaf) i p = rootF k.toNat l := by
      split at h
      · assumption
      · cases h
    refine ⟨by omega, ?_⟩
    by_cases ht : Twin (notesF k.toNat l ++ checkNt k leaf i p)
    · exact .inr ht
    left
    have hcn : checkNt k leaf i p = leafN k leaf ++ foldNt k (leafK k leaf) i.toNat p p.length := by unfold checkNt; rw [if_pos ⟨hk, by omega, hi⟩]
    rw [hcn] at ht
    obtain ⟨i0, rfl⟩ : ∃ i0 : Nat, i = (i0 : Int) := ⟨i.toNat, by omega⟩
    rw [Int.toNat_natCast] at ht ⊢
    unfold foldK at hf
    rw [Int.toNat_natCast, hp] at hf
    rw [hp] at ht hi
    have hi2 : i0 < 2 ^ depthF l.length := Nat.not_le.1 (fun h => hi (.inr (Int.ofNat_le.2 h)))
    have hz : i0 / 2 ^ depthF l.length = 0 := Nat.div_eq_of_lt hi2
    have h0 := sound_down hk l (leafK k leaf) (leafK_length _ _) i0 p h32 hi2 _ ht (fun t h => List.mem_append_left _ h) (fun t h => List.mem_append_right _ (List.mem_append_right _ h)) (depthF l.length) 0 (by omega) (by rw [hz, rowN_top, hf]; rfl)
    have hg : hAt (rowN k l 0) i0 = leafF k.toNat (l.getD i0 []) := by
      have h1 : i0 < (rowN k l 0).length := by rw [rowN_pow k l 0 (Nat.zero_le _), Nat.sub_zero]; exact hi2
      rw [hAt_eq _ i0 h1]
      have h3 : (rowN k l 0)[i0]? = some (leafF k.toNat (l.getD i0 [])) := groundF_at _ _ _ _ hi2
      rw [List.getElem?_eq_getElem h1] at h3
      exact Option.some.inj h3
    rw [Nat.pow_zero, Nat.div_one, hg] at h0
    have e1 : foldAt k (leafK k leaf) i0 p 0 = leafF k.toNat leaf := by show leafK k leaf = _; unfold leafK; rw [if_pos hk]
    rw [e1] at h0
    have m1 : leafT k.toNat leaf ∈ notesF k.toNat l ++ (leafN k leaf ++ foldNt k (leafK k leaf) i0 p (depthF l.length)) := List.mem_append_right _ (List.mem_append_left _ (by unfold leafN; rw [if_pos hk]; simp))
    have m2 : leafT k.toNat (l.getD i0 []) ∈ notesF k.toNat l ++ (leafN k leaf ++ foldNt k (leafK k leaf) i0 p (depthF l.length)) := List.mem_append_left _ (mem_notes_ground _ _ _ (by unfold groundT; exact List.mem_map.2 ⟨i0, List.mem_range.2 hi2, rfl⟩))
    have := no_twin ht m1 m2 h0
    unfold leafT at this
    exact (List.cons.inj this).2
theorem checkNt_small {k : Int} {leaf : List UInt8} (hl : leaf.length ≤ 500) (i : Int) {p : List (List UInt8)} (h32 : All32 p) : ∀ t ∈ checkNt k leaf i p, t.length < 1099511627776 := by
  intro t ht
  unfold checkNt at ht
  split at ht
  · rcases List.mem_append.1 ht with h | h
    · unfold leafN at h
      split at h
      · rw [List.mem_singleton.1 h]; show leaf.length + 1 < _; omega
      · simp at h
    · have key : ∀ m, ∀ t ∈ foldNt k (leafK k leaf) i.toNat p m, t.length < 1099511627776 := by
        intro m
        induction m with
        | zero => intro t ht; simp [foldNt] at ht
        | succ m ih =>
          intro t ht
          rw [foldNt, List.mem_append] at ht
          rcases ht with h | h
          · exact ih t h
          · have h1 := foldAt_length k (leafK k leaf) (leafK_length _ _) i.toNat p m
            have h2 := hAt_length h32 m
            unfold stepN nodeN at h
            split at h <;> split at h
            · rw [List.mem_singleton.1 h]; unfold nodeT; rw [List.length_cons, List.length_append]; omega
            · simp at h
            · rw [List.mem_singleton.1 h]; unfold nodeT; rw [List.length_cons, List.length_append]; omega
            · simp at h
      exact key _ t h
  · simp at ht

set_option maxRecDepth 100000 in
set_option maxHeartbeats 8000000 in
theorem law_sound (c kk i : Int) (l : List (List UInt8)) (root leaf : List UInt8) (p : List (List UInt8)) (v vb vp : Value) (w : World) (h : Texts w v l) (hz : ∀ b ∈ l, b.length ≤ 140737488355328) (hc : 0 ≤ c) (hr : root.length = 32) (hi64 : i < 9223372036854775808) (hb : Rd w u8E 1 vb leaf) (hp : Rd w hE 32 vp p) (h32 : All32 p) :
    Calls Try.prog 17 #[.int .u8 c, v, .agg (askL kk root vb i vp).toArray] w (Ret w (.bool true)) := by
  obtain ⟨lad, lcap, rfl, la1, la2⟩ := h.shape
  obtain ⟨ad, cap, rfl, hc1, hc2⟩ := hp.shape
  obtain ⟨bad, bcap, rfl, hd1, hd2⟩ := hb.shape
  obtain ⟨m, hm⟩ : ∃ m, m = p.length := ⟨_, rfl⟩
  obtain ⟨n, hn⟩ : ∃ n, n = leaf.length := ⟨_, rfl⟩
  obtain ⟨q, hq⟩ : ∃ q, q = l.length := ⟨_, rfl⟩
  rw [← hq] at la1 h ⊢
  rw [← hm] at hc1 hp ⊢
  rw [← hn] at hd1 hb ⊢
  obtain ⟨cs, hcs⟩ : ∃ cs, cs = (askL kk root (.slice bad n bcap) i (.slice ad m cap)).toArray := ⟨_, rfl⟩
  obtain ⟨q0, q33, q34, q35⟩ := ask_at hr kk (.slice bad n bcap) i (.slice ad m cap)
  have c33 : cs[33]? = some (.slice bad n bcap) := by rw [hcs]; simpa using q33
  have c34 : cs[34]? = some (.int .i64 i) := by rw [hcs]; simpa using q34
  have c35 : cs[35]? = some (.slice ad m cap) := by rw [hcs]; simpa using q35
  rw [← hcs]
  have H := Lib.hid h; have HZ := Lib.hid hz
  have HC33 := Lib.hid c33; have HC34 := Lib.hid c34; have HC35 := Lib.hid c35
  have HBR := Lib.hid hb; have HP := Lib.hid hp; have H32 := Lib.hid h32; have HI64 := Lib.hid hi64; have HM := Lib.hid hm; have HN := Lib.hid hn; have HQ := Lib.hid hq
  clear hcs q0 q33 q34 q35 c33 c34 c35 hb hp h32 hr hi64 hm hn hq h hz
  obtain ⟨G, hG⟩ : ∃ G, G = w.heap.size := ⟨_, rfl⟩
  have hgg : (w.alloc (.cells cs 95)).heap[G]? = some (.cells cs 95 (0, 0)) := by rw [hG]; exact heap_alloc_new _ _
  have hb1 : Below w.heap.size w (w.alloc (.cells cs 95)) := (Below.refl _ _).alloc (Nat.le_refl _) _
  have HGG := Lib.hid hgg; have HB1 := Lib.hid hb1; have HG := Lib.hid hG
  clear hgg hb1
  go_enter Try.func17, Try.ntmps17
  go_upto_region 1 with fail
  rw [← hG]
  clear hG
  obtain ⟨w1, hw1⟩ : ∃ w1, w1 = w.alloc (.cells cs 95) := ⟨_, rfl⟩
  rw [← hw1] at HGG HB1 ⊢
  clear hw1
  have C33 : Hid (∀ w' : World, w'.heap[G]? = some (.cells cs 95 (0, 0)) → w'.cell? ⟨G, 33, none⟩ = _) := Lib.hid fun w' h => (Lib.cell_of_heap h 33).trans HC33.out
  have C34 : Hid (∀ w' : World, w'.heap[G]? = some (.cells cs 95 (0, 0)) → w'.cell? ⟨G, 34, none⟩ = _) := Lib.hid fun w' h => (Lib.cell_of_heap h 34).trans HC34.out
  have C35 : Hid (∀ w' : World, w'.heap[G]? = some (.cells cs 95 (0, 0)) → w'.cell? ⟨G, 35, none⟩ = _) := Lib.hid fun w' h => (Lib.cell_of_heap h 35).trans HC35.out
  have hS : w1.drew.heap[G]? = some (.cells cs 95 (0, 0)) := HGG.out
  have HBD := Lib.hid HB1.out.drew
  obtain ⟨d, hd⟩ : ∃ d, d = depthF q := ⟨_, rfl⟩
  have HD := Lib.hid hd; clear hd
  refine wp_region_till (fun w' => w'.heap[G]? = some (.cells cs 95 (0, 0))) 22 23 (by kernel_rfl) rfl ?_
  refine till_take 0 (some 12) rfl rfl (by kernel_rfl) (by kernel_rfl) (by kernel_rfl) (by kernel_rfl) (by kernel_rfl) (by kernel_rfl) (fun _ _ _ h => h) (.inl ⟨by rfl, fun w' _ => (by go_simp; rfl)⟩) hS ?_
  go_frame
  cases hba : lightB l with
  | false =>
    have HL := Lib.hid hba; clear hba
    refine till_one 1 rfl (by kernel_rfl) fun K hK => ?_
    simp only [List.getElem_toArray, List.getElem_cons_succ, List.getElem_cons_zero]
    rw [if_pos (by rfl)]
    go_simp
    refine (light07_any _ l _ (H.out.later HBD.out) HZ.out).mono ?_
    rintro e w2 ⟨rfl, rfl⟩
    rw [HL.out]
    refine hK _ _ (fun _ _ => hS) ?_
    clear hK
    refine till_take 2 (some 14) rfl rfl (by kernel_rfl) (by kernel_rfl) (by kernel_rfl) (by kernel_rfl) (by kernel_rfl) (by kernel_rfl) (fun _ _ _ h => h) (.inl ⟨by rfl, fun w' _ => (by go_simp; rfl)⟩) hS ?_
    go_frame
    refine till_take 3 (some 15) rfl rfl (by kernel_rfl) (by kernel_rfl) (by kernel_rfl) (by kernel_rfl) (by kernel_rfl) (by kernel_rfl) (fun _ _ _ h => h) (.inl ⟨by rfl, fun w' _ => (by go_simp; rfl)⟩) hS ?_
    go_frame
    refine till_take 4 (some 16) rfl rfl (by kernel_rfl) (by kernel_rfl) (by kernel_rfl) (by kernel_rfl) (by kernel_rfl) (by kernel_rfl) (fun _ _ _ h => h) (.inr ⟨by rfl, rfl⟩) hS ?_
    go_frame
    refine till_take 5 (some 17) rfl rfl (by kernel_rfl) (by kernel_rfl) (by kernel_rfl) (by kernel_rfl) (by kernel_rfl) (by kernel_rfl) (fun _ _ _ h => h) (.inr ⟨by rfl, rfl⟩) hS ?_
    go_frame
    refine till_take 6 (some 18) rfl rfl (by kernel_rfl) (by kernel_rfl) (by kernel_rfl) (by kernel_rfl) (by kernel_rfl) (by kernel_rfl) (fun _ _ _ h => h) (.inr ⟨by rfl, rfl⟩) hS ?_
    go_frame
    refine till_take 7 (some 19) rfl rfl (by kernel_rfl) (by kernel_rfl) (by kernel_rfl) (by kernel_rfl) (by kernel_rfl) (by kernel_rfl) (fun _ _ _ h => h) (.inl ⟨by rfl, fun w' _ => (by go_simp; rfl)⟩) hS ?_
    go_frame
    refine till_take 8 (some 20) rfl rfl (by kernel_rfl) (by kernel_rfl) (by kernel_rfl) (by kernel_rfl) (by kernel_rfl) (by kernel_rfl) (fun _ _ _ h => h) (.inl ⟨by rfl, fun w' _ => (by go_simp; rfl)⟩) hS ?_
    go_frame
    refine till_take 9 (some 21) rfl rfl (by kernel_rfl) (by kernel_rfl) (by kernel_rfl) (by kernel_rfl) (by kernel_rfl) (by kernel_rfl) (fun _ _ _ h => h) (.inr ⟨by rfl, rfl⟩) hS ?_
    go_frame
    refine till_take 10 (some 22) rfl rfl (by kernel_rfl) (by kernel_rfl) (by kernel_rfl) (by kernel_rfl) (by kernel_rfl) (by kernel_rfl) (fun _ _ _ h => h) (.inr ⟨by rfl, rfl⟩) hS ?_
    go_frame
    refine till_take 11 (some 23) rfl rfl (by kernel_rfl) (by kernel_rfl) (by kernel_rfl) (by kernel_rfl) (by kernel_rfl) (by kernel_rfl) (fun _ _ _ h => h) (.inr ⟨by rfl, rfl⟩) hS ?_
    go_frame
    refine till_take 12 (some 24) rfl rfl (by kernel_rfl) (by kernel_rfl) (by kernel_rfl) (by kernel_rfl) (by kernel_rfl) (by kernel_rfl) (fun _ _ _ h => h) (.inr ⟨by rfl, rfl⟩) hS ?_
    go_frame
    refine till_take 13 (some 25) rfl rfl (by kernel_rfl) (by kernel_rfl) (by kernel_rfl) (by kernel_rfl) (by kernel_rfl) (by kernel_rfl) (fun _ _ _ h => h) (.inl ⟨by rfl, fun w' _ => (by go_simp; rfl)⟩) hS ?_
    go_frame
    refine till_take 14 (some 26) rfl rfl (by kernel_rfl) (by kernel_rfl) (by kernel_rfl) (by kernel_rfl) (by kernel_rfl) (by kernel_rfl) (fun _ _ _ h => h) (.inl ⟨by rfl, fun w' _ => (by go_simp; rfl)⟩) hS ?_
    go_frame
    refine till_take 15 (some 27) rfl rfl (by kernel_rfl) (by kernel_rfl) (by kernel_rfl) (by kernel_rfl) (by kernel_rfl) (by kernel_rfl) (fun _ _ _ h => h) (.inr ⟨by rfl, rfl⟩) hS ?_
    go_frame
    refine till_take 16 (some 28) rfl rfl (by kernel_rfl) (by kernel_rfl) (by kernel_rfl) (by kernel_rfl) (by kernel_rfl) (by kernel_rfl) (fun _ _ _ h => h) (.inr ⟨by rfl, rfl⟩) hS ?_
    go_frame
    refine till_take 17 (some 29) rfl rfl (by kernel_rfl) (by kernel_rfl) (by kernel_rfl) (by kernel_rfl) (by kernel_rfl) (by kernel_rfl) (fun _ _ _ h => h) (.inr ⟨by rfl, rfl⟩) hS ?_
    go_frame
    refine till_take 18 (some 30) rfl rfl (by kernel_rfl) (by kernel_rfl) (by kernel_rfl) (by kernel_rfl) (by kernel_rfl) (by kernel_rfl) (fun _ _ _ h => h) (.inr ⟨by rfl, rfl⟩) hS ?_
    go_frame
    refine till_take 19 (some 31) rfl rfl (by kernel_rfl) (by kernel_rfl) (by kernel_rfl) (by kernel_rfl) (by kernel_rfl) (by kernel_rfl) (fun _ _ _ h => h) (.inr ⟨by rfl, rfl⟩) hS ?_
    go_frame
    refine till_one 20 rfl (by kernel_rfl) fun K hK => ?_
    simp only [List.getElem_toArray, List.getElem_cons_succ, List.getElem_cons_zero]
    rw [if_neg (Bool.eq_false_iff.1 (by rfl))]
    refine hK _ _ (fun _ _ => hS) ?_
    clear hK
    go_frame
    refine till_take 21 (some 33) rfl rfl (by kernel_rfl) (by kernel_rfl) (by kernel_rfl) (by kernel_rfl) (by kernel_rfl) (by kernel_rfl) (fun _ _ _ h => h) (.inr ⟨by rfl, rfl⟩) hS ?_
    go_frame
    refine till_one 22 rfl (by kernel_rfl) fun K hK => ?_
    simp only [List.getElem_toArray, List.getElem_cons_succ, List.getElem_cons_zero]
    rw [if_pos (by rfl)]
    go_simp
    refine hK _ _ (fun h => absurd rfl h) ?_
    clear hK hS
    refine till_done (by kernel_rfl) ?_ _
    go_wp2_with fail
    refine (lives07_any _).mono ?_
    rintro e w5 ⟨rfl, hb5⟩
    go_wp2_with fail
    go_ret
    exact ⟨rfl, HBD.out.trans (hb5.mono HBD.out.size)⟩
  | true =>
    have HL := Lib.hid hba; clear hba
    obtain ⟨hfa, hna⟩ := light_fair HL.out
    rw [← HQ.out] at hna
    have HF := Lib.hid hfa
    clear hfa
    by_cases h0 : q = 0
    · have j1 : ((q : Int) == 0) = true := by simp; omega
      clear h0
      refine till_one 1 rfl (by kernel_rfl) fun K hK => ?_
      simp only [List.getElem_toArray, List.getElem_cons_succ, List.getElem_cons_zero]
      rw [if_pos (by rfl)]
      go_simp
      refine (light07_any _ l _ (H.out.later HBD.out) HZ.out).mono ?_
      rintro e w2 ⟨rfl, rfl⟩
      rw [HL.out]
      refine hK _ _ (fun _ _ => hS) ?_
      clear hK
      refine till_take 2 (some 14) rfl rfl (by kernel_rfl) (by kernel_rfl) (by kernel_rfl) (by kernel_rfl) (by kernel_rfl) (by kernel_rfl) (fun _ _ _ h => h) (.inl ⟨by rfl, fun w' _ => (by go_simp; rfl)⟩) hS ?_
      go_frame
      refine till_take 3 (some 15) rfl rfl (by kernel_rfl) (by kernel_rfl) (by kernel_rfl) (by kernel_rfl) (by kernel_rfl) (by kernel_rfl) (fun _ _ _ h => h) (.inl ⟨by rfl, fun w' _ => (by go_simp; rfl)⟩) hS ?_
      go_frame
      refine till_take 4 (some 16) rfl rfl (by kernel_rfl) (by kernel_rfl) (by kernel_rfl) (by kernel_rfl) (by kernel_rfl) (by kernel_rfl) (fun _ _ _ h => h) (.inl ⟨by rfl, fun w' _ => (by go_simp; rfl)⟩) hS ?_
      go_frame
      refine till_take 5 (some 17) rfl rfl (by kernel_rfl) (by kernel_rfl) (by kernel_rfl) (by kernel_rfl) (by kernel_rfl) (by kernel_rfl) (fun _ _ _ h => h) (.inl ⟨by rfl, fun w' _ => (by go_simp; rfl)⟩) hS ?_
      go_frame
      refine till_take 6 (some 18) rfl rfl (by kernel_rfl) (by kernel_rfl) (by kernel_rfl) (by kernel_rfl) (by kernel_rfl) (by kernel_rfl) (fun _ _ _ h => h) (.inl ⟨by rfl, fun w' _ => (by go_simp; rfl)⟩) hS ?_
      go_frame
      refine till_take 7 (some 19) rfl rfl (by kernel_rfl) (by kernel_rfl) (by kernel_rfl) (by kernel_rfl) (by kernel_rfl) (by kernel_rfl) (fun _ _ _ h => h) (.inl ⟨by rfl, fun w' _ => (by go_simp; rfl)⟩) hS ?_
      go_frame
      refine till_take 8 (some 20) rfl rfl (by kernel_rfl) (by kernel_rfl) (by kernel_rfl) (by kernel_rfl) (by kernel_rfl) (by kernel_rfl) (fun _ _ _ h => h) (.inl ⟨by rfl, fun w' _ => (by go_simp; rfl)⟩) hS ?_
      go_frame
      refine till_take 9 (some 21) rfl rfl (by kernel_rfl) (by kernel_rfl) (by kernel_rfl) (by kernel_rfl) (by kernel_rfl) (by kernel_rfl) (fun _ _ _ h => h) (.inr ⟨by rfl, rfl⟩) hS ?_
      go_frame
      refine till_take 10 (some 22) rfl rfl (by kernel_rfl) (by kernel_rfl) (by kernel_rfl) (by kernel_rfl) (by kernel_rfl) (by kernel_rfl) (fun _ _ _ h => h) (.inr ⟨by rfl, rfl⟩) hS ?_
      go_frame
      refine till_take 11 (some 23) rfl rfl (by kernel_rfl) (by kernel_rfl) (by kernel_rfl) (by kernel_rfl) (by kernel_rfl) (by kernel_rfl) (fun _ _ _ h => h) (.inr ⟨by rfl, rfl⟩) hS ?_
      go_frame
      refine till_take 12 (some 24) rfl rfl (by kernel_rfl) (by kernel_rfl) (by kernel_rfl) (by kernel_rfl) (by kernel_rfl) (by kernel_rfl) (fun _ _ _ h => h) (.inr ⟨by rfl, rfl⟩) hS ?_
      go_frame
      refine till_take 13 (some 25) rfl rfl (by kernel_rfl) (by kernel_rfl) (by kernel_rfl) (by kernel_rfl) (by kernel_rfl) (by kernel_rfl) (fun _ _ _ h => h) (.inl ⟨by rfl, fun w' _ => (by go_simp; rfl)⟩) hS ?_
      go_frame
      refine till_take 14 (some 26) rfl rfl (by kernel_rfl) (by kernel_rfl) (by kernel_rfl) (by kernel_rfl) (by kernel_rfl) (by kernel_rfl) (fun _ _ _ h => h) (.inl ⟨by rfl, fun w' _ => (by go_simp; rfl)⟩) hS ?_
      go_frame
      refine till_take 15 (some 27) rfl rfl (by kernel_rfl) (by kernel_rfl) (by kernel_rfl) (by kernel_rfl) (by kernel_rfl) (by kernel_rfl) (fun _ _ _ h => h) (.inr ⟨by rfl, rfl⟩) hS ?_
      go_frame
      refine till_take 16 (some 28) rfl rfl (by kernel_rfl) (by kernel_rfl) (by kernel_rfl) (by kernel_rfl) (by kernel_rfl) (by kernel_rfl) (fun _ _ _ h => h) (.inr ⟨by rfl, rfl⟩) hS ?_
      go_frame
      refine till_take 17 (some 29) rfl rfl (by kernel_rfl) (by kernel_rfl) (by kernel_rfl) (by kernel_rfl) (by kernel_rfl) (by kernel_rfl) (fun _ _ _ h => h) (.inr ⟨by rfl, rfl⟩) hS ?_
      go_frame
      refine till_take 18 (some 30) rfl rfl (by kernel_rfl) (by kernel_rfl) (by kernel_rfl) (by kernel_rfl) (by kernel_rfl) (by kernel_rfl) (fun _ _ _ h => h) (.inr ⟨by rfl, rfl⟩) hS ?_
      go_frame
      refine till_take 19 (some 31) rfl rfl (by kernel_rfl) (by kernel_rfl) (by kernel_rfl) (by kernel_rfl) (by kernel_rfl) (by kernel_rfl) (fun _ _ _ h => h) (.inr ⟨by rfl, rfl⟩) hS ?_
      go_frame
      refine till_one 20 rfl (by kernel_rfl) fun K hK => ?_
      simp only [List.getElem_toArray, List.getElem_cons_succ, List.getElem_cons_zero]
      rw [if_neg (Bool.eq_false_iff.1 (by rfl))]
      refine hK _ _ (fun _ _ => hS) ?_
      clear hK
      go_frame
      refine till_take 21 (some 33) rfl rfl (by kernel_rfl) (by kernel_rfl) (by kernel_rfl) (by kernel_rfl) (by kernel_rfl) (by kernel_rfl) (fun _ _ _ h => h) (.inr ⟨by rfl, rfl⟩) hS ?_
      go_frame
      refine till_one 22 rfl (by kernel_rfl) fun K hK => ?_
      simp only [List.getElem_toArray, List.getElem_cons_succ, List.getElem_cons_zero]
      rw [if_pos (by rfl)]
      go_simp
      refine hK _ _ (fun h => absurd rfl h) ?_
      clear hK hS
      refine till_done (by kernel_rfl) ?_ _
      go_wp2_with fail
      refine (lives07_any _).mono ?_
      rintro e w5 ⟨rfl, hb5⟩
      go_wp2_with fail
      go_ret
      exact ⟨rfl, HBD.out.trans (hb5.mono HBD.out.size)⟩
    · have j1 : ((q : Int) == 0) = false := by simp; omega
      by_cases hn5 : 500 < n
      · have j2 : decide ((n : Int) > 500) = true := by simp; omega
        refine till_one 1 rfl (by kernel_rfl) fun K hK => ?_
        simp only [List.getElem_toArray, List.getElem_cons_succ, List.getElem_cons_zero]
        rw [if_pos (by rfl)]
        go_simp
        refine (light07_any _ l _ (H.out.later HBD.out) HZ.out).mono ?_
        rintro e w2 ⟨rfl, rfl⟩
        rw [HL.out]
        refine hK _ _ (fun _ _ => hS) ?_
        clear hK
        refine till_take 2 (some 14) rfl rfl (by kernel_rfl) (by kernel_rfl) (by kernel_rfl) (by kernel_rfl) (by kernel_rfl) (by kernel_rfl) (fun _ _ _ h => h) (.inl ⟨by rfl, fun w' _ => (by go_simp; rfl)⟩) hS ?_
        go_frame
        refine till_take 3 (some 15) rfl rfl (by kernel_rfl) (by kernel_rfl) (by kernel_rfl) (by kernel_rfl) (by kernel_rfl) (by kernel_rfl) (fun _ _ _ h => h) (.inl ⟨by rfl, fun w' _ => (by go_simp; rfl)⟩) hS ?_
        go_frame
        refine till_take 4 (some 16) rfl rfl (by kernel_rfl) (by kernel_rfl) (by kernel_rfl) (by kernel_rfl) (by kernel_rfl) (by kernel_rfl) (fun _ _ _ h => h) (.inl ⟨by rfl, fun w' _ => (by go_simp; rfl)⟩) hS ?_
        go_frame
        refine till_take 5 (some 17) rfl rfl (by kernel_rfl) (by kernel_rfl) (by kernel_rfl) (by kernel_rfl) (by kernel_rfl) (by kernel_rfl) (fun _ _ _ h => h) (.inl ⟨by rfl, fun w' _ => (by go_simp; rfl)⟩) hS ?_
        go_frame
        refine till_take 6 (some 18) rfl rfl (by kernel_rfl) (by kernel_rfl) (by kernel_rfl) (by kernel_rfl) (by kernel_rfl) (by kernel_rfl) (fun _ _ _ h => h) (.inl ⟨by rfl, fun w' _ => (by go_simp; rfl)⟩) hS ?_
        go_frame
        refine till_take 7 (some 19) rfl rfl (by kernel_rfl) (by kernel_rfl) (by kernel_rfl) (by kernel_rfl) (by kernel_rfl) (by kernel_rfl) (fun _ _ _ h => h) (.inl ⟨by rfl, fun w' _ => (by go_simp; rfl)⟩) hS ?_
        go_frame
        refine till_take 8 (some 20) rfl rfl (by kernel_rfl) (by kernel_rfl) (by kernel_rfl) (by kernel_rfl) (by kernel_rfl) (by kernel_rfl) (fun _ _ _ h => h) (.inl ⟨by rfl, fun w' _ => (by go_simp; rfl)⟩) hS ?_
        go_frame
        refine till_take 9 (some 21) rfl rfl (by kernel_rfl) (by kernel_rfl) (by kernel_rfl) (by kernel_rfl) (by kernel_rfl) (by kernel_rfl) (fun _ _ _ h => h) (.inl ⟨by rfl, fun w' _ => (by go_simp; rfl)⟩) hS ?_
        go_frame
        refine till_take 10 (some 22) rfl rfl (by kernel_rfl) (by kernel_rfl) (by kernel_rfl) (by kernel_rfl) (by kernel_rfl) (by kernel_rfl) (fun _ _ _ h => h) (.inl ⟨by rfl, fun w' hS' => (by have hc := C33.out w' hS'; go_simp; rfl)⟩) hS ?_
        go_frame
        refine till_take 11 (some 23) rfl rfl (by kernel_rfl) (by kernel_rfl) (by kernel_rfl) (by kernel_rfl) (by kernel_rfl) (by kernel_rfl) (fun _ _ _ h => h) (.inl ⟨by rfl, fun w' _ => (by go_simp; rfl)⟩) hS ?_
        go_frame
        refine till_take 12 (some 24) rfl rfl (by kernel_rfl) (by kernel_rfl) (by kernel_rfl) (by kernel_rfl) (by kernel_rfl) (by kernel_rfl) (fun _ _ _ h => h) (.inl ⟨by rfl, fun w' _ => (by go_simp; rfl)⟩) hS ?_
        go_frame
        refine till_take 13 (some 25) rfl rfl (by kernel_rfl) (by kernel_rfl) (by kernel_rfl) (by kernel_rfl) (by kernel_rfl) (by kernel_rfl) (fun _ _ _ h => h) (.inl ⟨by rfl, fun w' _ => (by go_simp; rfl)⟩) hS ?_
        go_frame
        refine till_take 14 (some 26) rfl rfl (by kernel_rfl) (by kernel_rfl) (by kernel_rfl) (by kernel_rfl) (by kernel_rfl) (by kernel_rfl) (fun _ _ _ h => h) (.inl ⟨by rfl, fun w' _ => (by go_simp; rfl)⟩) hS ?_
        go_frame
        refine till_take 15 (some 27) rfl rfl (by kernel_rfl) (by kernel_rfl) (by kernel_rfl) (by kernel_rfl) (by kernel_rfl) (by kernel_rfl) (fun _ _ _ h => h) (.inr ⟨by rfl, rfl⟩) hS ?_
        go_frame
        refine till_take 16 (some 28) rfl rfl (by kernel_rfl) (by kernel_rfl) (by kernel_rfl) (by kernel_rfl) (by kernel_rfl) (by kernel_rfl) (fun _ _ _ h => h) (.inr ⟨by rfl, rfl⟩) hS ?_
        go_frame
        refine till_take 17 (some 29) rfl rfl (by kernel_rfl) (by kernel_rfl) (by kernel_rfl) (by kernel_rfl) (by kernel_rfl) (by kernel_rfl) (fun _ _ _ h => h) (.inr ⟨by rfl, rfl⟩) hS ?_
        go_frame
        refine till_take 18 (some 30) rfl rfl (by kernel_rfl) (by kernel_rfl) (by kernel_rfl) (by kernel_rfl) (by kernel_rfl) (by kernel_rfl) (fun _ _ _ h => h) (.inr ⟨by rfl, rfl⟩) hS ?_
        go_frame
        refine till_take 19 (some 31) rfl rfl (by kernel_rfl) (by kernel_rfl) (by kernel_rfl) (by kernel_rfl) (by kernel_rfl) (by kernel_rfl) (fun _ _ _ h => h) (.inr ⟨by rfl, rfl⟩) hS ?_
        go_frame
        refine till_one 20 rfl (by kernel_rfl) fun K hK => ?_
        simp only [List.getElem_toArray, List.getElem_cons_succ, List.getElem_cons_zero]
        rw [if_neg (Bool.eq_false_iff.1 (by rfl))]
        refine hK _ _ (fun _ _ => hS) ?_
        clear hK
        go_frame
        refine till_take 21 (some 33) rfl rfl (by kernel_rfl) (by kernel_rfl) (by kernel_rfl) (by kernel_rfl) (by kernel_rfl) (by kernel_rfl) (fun _ _ _ h => h) (.inr ⟨by rfl, rfl⟩) hS ?_
        go_frame
        refine till_one 22 rfl (by kernel_rfl) fun K hK => ?_
        simp only [List.getElem_toArray, List.getElem_cons_succ, List.getElem_cons_zero]
        rw [if_pos (by rfl)]
        go_simp
        refine hK _ _ (fun h => absurd rfl h) ?_
        clear hK hS
        refine till_done (by kernel_rfl) ?_ _
        go_wp2_with fail
        refine (lives07_any _).mono ?_
        rintro e w5 ⟨rfl, hb5⟩
        go_wp2_with fail
        go_ret
        exact ⟨rfl, HBD.out.trans (hb5.mono HBD.out.size)⟩
      · have j2 : decide ((n : Int) > 500) = false := by simp; omega
        by_cases hmd : m = d
        · have j3 : ((m : Int) != (d : Int)) = false := by simp; omega
          have HMD0 := Lib.hid hmd; clear hmd
          refine till_one 1 rfl (by kernel_rfl) fun K hK => ?_
          simp only [List.getElem_toArray, List.getElem_cons_succ, List.getElem_cons_zero]
          rw [if_pos (by rfl)]
          go_simp
          refine (light07_any _ l _ (H.out.later HBD.out) HZ.out).mono ?_
          rintro e w2 ⟨rfl, rfl⟩
          rw [HL.out]
          refine hK _ _ (fun _ _ => hS) ?_
          clear hK
          refine till_take 2 (some 14) rfl rfl (by kernel_rfl) (by kernel_rfl) (by kernel_rfl) (by kernel_rfl) (by kernel_rfl) (by kernel_rfl) (fun _ _ _ h => h) (.inl ⟨by rfl, fun w' _ => (by go_simp; rfl)⟩) hS ?_
          go_frame
          refine till_take 3 (some 15) rfl rfl (by kernel_rfl) (by kernel_rfl) (by kernel_rfl) (by kernel_rfl) (by kernel_rfl) (by kernel_rfl) (fun _ _ _ h => h) (.inl ⟨by rfl, fun w' _ => (by go_simp; rfl)⟩) hS ?_
          go_frame
          refine till_take 4 (some 16) rfl rfl (by kernel_rfl) (by kernel_rfl) (by kernel_rfl) (by kernel_rfl) (by kernel_rfl) (by kernel_rfl) (fun _ _ _ h => h) (.inl ⟨by rfl, fun w' _ => (by go_simp; rfl)⟩) hS ?_
          go_frame
          refine till_take 5 (some 17) rfl rfl (by kernel_rfl) (by kernel_rfl) (by kernel_rfl) (by kernel_rfl) (by kernel_rfl) (by kernel_rfl) (fun _ _ _ h => h) (.inl ⟨by rfl, fun w' _ => (by go_simp; rfl)⟩) hS ?_
          go_frame
          refine till_take 6 (some 18) rfl rfl (by kernel_rfl) (by kernel_rfl) (by kernel_rfl) (by kernel_rfl) (by kernel_rfl) (by kernel_rfl) (fun _ _ _ h => h) (.inl ⟨by rfl, fun w' _ => (by go_simp; rfl)⟩) hS ?_
          go_frame
          refine till_take 7 (some 19) rfl rfl (by kernel_rfl) (by kernel_rfl) (by kernel_rfl) (by kernel_rfl) (by kernel_rfl) (by kernel_rfl) (fun _ _ _ h => h) (.inl ⟨by rfl, fun w' _ => (by go_simp; rfl)⟩) hS ?_
          go_frame
          refine till_take 8 (some 20) rfl rfl (by kernel_rfl) (by kernel_rfl) (by kernel_rfl) (by kernel_rfl) (by kernel_rfl) (by kernel_rfl) (fun _ _ _ h => h) (.inl ⟨by rfl, fun w' _ => (by go_simp; rfl)⟩) hS ?_
          go_frame
          refine till_take 9 (some 21) rfl rfl (by kernel_rfl) (by kernel_rfl) (by kernel_rfl) (by kernel_rfl) (by kernel_rfl) (by kernel_rfl) (fun _ _ _ h => h) (.inl ⟨by rfl, fun w' _ => (by go_simp; rfl)⟩) hS ?_
          go_frame
          refine till_take 10 (some 22) rfl rfl (by kernel_rfl) (by kernel_rfl) (by kernel_rfl) (by kernel_rfl) (by kernel_rfl) (by kernel_rfl) (fun _ _ _ h => h) (.inl ⟨by rfl, fun w' hS' => (by have hc := C33.out w' hS'; go_simp; rfl)⟩) hS ?_
          go_frame
          refine till_take 11 (some 23) rfl rfl (by kernel_rfl) (by kernel_rfl) (by kernel_rfl) (by kernel_rfl) (by kernel_rfl) (by kernel_rfl) (fun _ _ _ h => h) (.inl ⟨by rfl, fun w' _ => (by go_simp; rfl)⟩) hS ?_
          go_frame
          refine till_take 12 (some 24) rfl rfl (by kernel_rfl) (by kernel_rfl) (by kernel_rfl) (by kernel_rfl) (by kernel_rfl) (by kernel_rfl) (fun _ _ _ h => h) (.inl ⟨by rfl, fun w' _ => (by go_simp; rfl)⟩) hS ?_
          go_frame
          refine till_take 13 (some 25) rfl rfl (by kernel_rfl) (by kernel_rfl) (by kernel_rfl) (by kernel_rfl) (by kernel_rfl) (by kernel_rfl) (fun _ _ _ h => h) (.inl ⟨by rfl, fun w' _ => (by go_simp; rfl)⟩) hS ?_
          go_frame
          refine till_take 14 (some 26) rfl rfl (by kernel_rfl) (by kernel_rfl) (by kernel_rfl) (by kernel_rfl) (by kernel_rfl) (by kernel_rfl) (fun _ _ _ h => h) (.inl ⟨by rfl, fun w' _ => (by go_simp; rfl)⟩) hS ?_
          go_frame
          refine till_take 15 (some 27) rfl rfl (by kernel_rfl) (by kernel_rfl) (by kernel_rfl) (by kernel_rfl) (by kernel_rfl) (by kernel_rfl) (fun _ _ _ h => h) (.inl ⟨by rfl, fun w' _ => (by go_simp; rfl)⟩) hS ?_
          go_frame
          refine till_take 16 (some 28) rfl rfl (by kernel_rfl) (by kernel_rfl) (by kernel_rfl) (by kernel_rfl) (by kernel_rfl) (by kernel_rfl) (fun _ _ _ h => h) (.inl ⟨by rfl, fun w' hS' => (by have hc := C35.out w' hS'; go_simp; rfl)⟩) hS ?_
          go_frame
          refine till_take 17 (some 29) rfl rfl (by kernel_rfl) (by kernel_rfl) (by kernel_rfl) (by kernel_rfl) (by kernel_rfl) (by kernel_rfl) (fun _ _ _ h => h) (.inl ⟨by rfl, fun w' _ => (by go_simp; rfl)⟩) hS ?_
          go_frame
          refine till_take 18 (some 30) rfl rfl (by kernel_rfl) (by kernel_rfl) (by kernel_rfl) (by kernel_rfl) (by kernel_rfl) (by kernel_rfl) (fun _ _ _ h => h) (.inl ⟨by rfl, fun w' _ => (by go_simp; rfl)⟩) hS ?_
          go_frame
          refine till_take 19 (some 31) rfl rfl (by kernel_rfl) (by kernel_rfl) (by kernel_rfl) (by kernel_rfl) (by kernel_rfl) (by kernel_rfl) (fun _ _ _ h => h) (.inl ⟨by rfl, fun w' _ => (by go_simp; rfl)⟩) hS ?_
          go_frame
          refine till_one 20 rfl (by kernel_rfl) fun K hK => ?_
          simp only [List.getElem_toArray, List.getElem_cons_succ, List.getElem_cons_zero]
          rw [if_pos (by rfl)]
          go_simp
          refine (tdepth_any _ (by omega) _).mono ?_
          rintro e w3 ⟨rfl, rfl⟩
          rw [Int.toNat_natCast, ← HD.out]
          refine hK _ _ (fun _ _ => hS) ?_
          clear hK
          refine till_take 21 (some 33) rfl rfl (by kernel_rfl) (by kernel_rfl) (by kernel_rfl) (by kernel_rfl) (by kernel_rfl) (by kernel_rfl) (fun _ _ _ h => h) (.inl ⟨by rfl, fun w' _ => (by go_simp; rfl)⟩) hS ?_
          go_frame
          refine till_one 22 rfl (by kernel_rfl) fun K hK => ?_
          simp only [List.getElem_toArray, List.getElem_cons_succ, List.getElem_cons_zero]
          rw [if_pos (by rfl)]
          go_simp
          refine hK _ _ (fun h => absurd rfl h) ?_
          clear hK hS
          refine till_done (by kernel_rfl) ?_ _
          obtain ⟨k, hk⟩ : ∃ k, k = 1 + c % 2 := ⟨_, rfl⟩
          have hk12 : k = 1 ∨ k = 2 := by omega
          have HK := Lib.hid hk12
          have hn1024 : l.length ≤ 1024 := by have := HQ.out; omega
          have hwa : whyF k l.length = 0 := whyF_ok HK.out (by have := HQ.out; omega) hn1024
          obtain ⟨ga, hra, hga, hga32⟩ : ∃ ga, rootV k l = .tuple #[.agg (c8 ga), .int .i64 0] ∧ ga = rootF k.toNat l ∧ ga.length = 32 := ⟨_, rootV_ok hwa, rfl, rootF_length _ _⟩
          have HKE := Lib.hid hk; have HWA := Lib.hid hwa; have HRA := Lib.hid hra; have HGA := Lib.hid hga; have HG32 := Lib.hid hga32; have HNA := Lib.hid hn1024
          have hmd' : p.length = depthF l.length := by rw [← HM.out, ← HQ.out, ← HD.out]; exact HMD0.out
          have HMD := Lib.hid hmd'
          have hn5' : leaf.length ≤ 500 := by rw [← HN.out]; omega
          have HN5 := Lib.hid hn5'
          have hsq : w1.drew.heap[G]? = some (.cells cs 95 (0, 0)) := HGG.out
          have HSQ := Lib.hid hsq
          clear hk hk12 hwa hra hga hga32 hmd' hn5' hsq j1 j2 j3 hn1024
          obtain ⟨wq, hwq⟩ : ∃ wq, wq = w1.drew := ⟨_, rfl⟩
          rw [← hwq] at HBD HSQ ⊢
          clear hwq
          go_wp2_with fail
          rw [← HKE.out]
          refine (mroot_any k l _ _ (H.out.later HBD.out) HF.out).mono ?_
          rintro e w2 ⟨rfl, hb2⟩
          rw [HRA.out]
          have HB2 := Lib.hid (HBD.out.trans (hb2.mono HBD.out.size))
          have HS2 := Lib.hid ((hb2.block G (heap_lt HSQ.out)).trans HSQ.out)
          clear hb2
          go_wp2_with (refine wpList_alloc_g rfl _ rfl _ _ Try.zeroHash rfl ?_)
          intro R w3 h3
          go_wp2_with (refine wpList_store_row_g (t := 48) (old := cB 32 []) rfl 48 _ _ rfl R (c8 ga) rfl rfl h3.out.cells (Try.sizeHs _ HG32.out) (by rw [c8_size, HG32.out]; rfl) (by rw [← cB_full 32 _ HG32.out]; exact one_b _ _) ?_)
          intro w4 h4 k4 z4
          have hb24 : Below w2.heap.size w2 w4 := h3.out.below.trans (k4.below (B := w2.heap.size) (fun q hq e => by have := h3.out.eq; omega) h3.out.below.size)
          have HB4 := Lib.hid (HB2.out.trans (hb24.mono HB2.out.size)); have HR4 := Lib.hid h4
          have HS4 := Lib.hid ((hb24.block G (heap_lt HS2.out)).trans HS2.out)
          clear hb24 h4 k4 z4 h3 HB2
          have d33 := C33.out w4 HS4.out; have d34 := C34.out w4 HS4.out; have d35 := C35.out w4 HS4.out
          go_wp2_with (refine wpList_load_row rfl _ _ rfl R rfl _ (c8 ga) _ _ HR4.out Try.underlying48 rfl (Try.sizeHs _ HG32.out) ?_)
          refine (pcheck_any k i ga leaf p _ _ _ HG32.out (HBR.out.later HB4.out) (by have := HN5.out; omega) (HP.out.later HB4.out) H32.out HI64.out).mono ?_
          rintro e w5 ⟨rfl, hb5⟩
          obtain ⟨z, hz⟩ : ∃ z, z = checkF k ga leaf i p := ⟨_, rfl⟩
          rw [← hz]
          have HZC := Lib.hid hz
          have HB5 := Lib.hid (HB4.out.trans (hb5.mono HB4.out.size))
          have HR5 := Lib.hid ((hb5.block R (heap_lt HR4.out)).trans HR4.out)
          have HS5 := Lib.hid ((hb5.block G (heap_lt HS4.out)).trans HS4.out)
          clear hz hb5 d33 d34 d35
          by_cases hz0 : z = 0
          · have HZ0 := Lib.hid hz0
            subst hz0
            have hs := sound HK.out l leaf i p H32.out HNA.out HMD.out (by rw [← HGA.out, ← HZC.out])
            obtain ⟨hi0, hs2⟩ := hs
            have hor := Lib.hid hs2
            clear hs2
            obtain ⟨i0, hie⟩ : ∃ i0 : Nat, i = (i0 : Int) := ⟨i.toNat, by omega⟩
            subst hie
            have ht : tAt l (i0 : Int).toNat = tAt l i0 := by rw [Int.toNat_natCast]
            rw [ht] at hor
            clear ht hi0
            have d33 := C33.out w5 HS5.out; have d34 := C34.out w5 HS5.out; have d35 := C35.out w5 HS5.out
            obtain ⟨x, hx⟩ : ∃ x, x = tAt l i0 := ⟨_, rfl⟩
            rw [← hx] at hor
            have HX := Lib.hid hx
            clear hx
            have hcv1 := rd_conv (P := Try.prog) (dst := 9) Try.underlying43 Try.underlying5 Try.underlying9 (HBR.out.later HB5.out)
            have j0 : decide ((i0 : Int) ≥ 0) = true := by simp
            go_upto_region 10 with fail
            by_cases hlt : i0 < q
            · have jlt : decide ((i0 : Int) < (q : Int)) = true := by simp; omega
              obtain ⟨lb, lo, ul, hlad, hlb, hcell, hru⟩ := H.out.at i0 (by rw [← HQ.out]; exact hlt)
              have hlad2 := hlad
              subst hlad2
              rw [← tAt_eq l i0 (by rw [← HQ.out]; exact hlt), ← HX.out] at hru
              obtain ⟨uad, ucap, hul, _⟩ := hru.shape
              subst hul
              have hce : w5.cell? ⟨lb, lo + i0, none⟩ = some (.slice uad x.length ucap) := (HB5.out.cell (p := ⟨lb, lo + i0, none⟩) hlb).trans hcell
              obtain ⟨xn, hxn⟩ : ∃ xn, xn = x.length := ⟨_, rfl⟩
              rw [← hxn] at hce hru
              have hcv2 := rd_conv (P := Try.prog) (dst := 9) Try.underlying43 Try.underlying5 Try.underlying9 (hru.later HB5.out)
              clear hlad hlb hcell hru hxn
              by_cases hxl : x = leaf
              · have je : ((bs x).toList == (bs leaf).toList) = true := str_eq.2 hxl
                clear hxl
                go_wp2_with fail
                refine (lives07_any _).mono ?_
                rintro e w6 ⟨rfl, hb6⟩
                go_wp2_with fail
                go_ret
                exact ⟨rfl, HB5.out.trans (hb6.mono HB5.out.size)⟩
              · have je : ((bs x).toList == (bs leaf).toList) = false := Bool.eq_false_iff.2 fun h => hxl (str_eq.1 h)
                have htw : Twin (notesF k.toNat l ++ checkNt k leaf i0 p) := hor.out.resolve_left fun h => hxl h.symm
                have HTW := Lib.hid htw
                clear htw hxl
                go_wp2_with fail
                clear je
                obtain ⟨g, hg⟩ : ∃ g, g = w5.heap.size := ⟨_, rfl⟩
                rw [← hg]
                obtain ⟨w8, hw8⟩ : ∃ w8, w8 = w5.alloc (.cells #[.slice none 0 0] 70) := ⟨_, rfl⟩
                rw [← hw8]
                have hb8 : Below w.heap.size w w8 := by rw [hw8]; exact HB5.out.alloc HB5.out.size _
                have ht8 : Tr w8 g none [] := tr_new (by rw [hw8, hg]; exact heap_alloc_new _ _)
                have hgw : w.heap.size ≤ g := by rw [hg]; exact HB5.out.size
                have hb58 : Below w5.heap.size w5 w8 := by rw [hw8]; exact (Below.refl _ _).alloc (Nat.le_refl _) _
                have hr8 := (hb58.block R (heap_lt HR5.out)).trans HR5.out
                have hs8 := (hb58.block G (heap_lt HS5.out)).trans HS5.out
                have HB8 := Lib.hid hb8; have HT8 := Lib.hid ht8; have HR8 := Lib.hid hr8; have HS8 := Lib.hid hs8
                have hgr : R < g ∧ G < g := by rw [hg]; exact ⟨heap_lt HR5.out, heap_lt HS5.out⟩
                clear hg hw8 hb8 ht8 hb58 hr8 hs8
                refine (troot_any w8 g none [] k l _ (texts_grew H.out HB8.out hgw (fun _ h => by cases h)) HT8.out HF.out (by simp)).mono ?_
                rintro e w9 ⟨rfl, a9, ht9, hg9⟩
                rw [HRA.out]
                have hfar9 := hg9.far HB8.out.size (fun _ h => by cases h)
                have hr9 := tr_other HT8.out hg9 HR8.out (by decide)
                have hs9 := tr_other HT8.out hg9 HS8.out (by decide)
                rw [List.nil_append, notesV_ok HWA.out] at ht9
                have HB9 := Lib.hid (HB8.out.trans (hg9.below HB8.out.size hgw (fun _ h => by cases h))); have HT9 := Lib.hid ht9; have HF9 := Lib.hid hfar9; have HR9 := Lib.hid hr9; have HS9 := Lib.hid hs9
                clear ht9 hg9 hfar9 hr9 hs9
                have hnl : (notesF k.toNat l).length < 800000000 := by
                  have := notesV_len k l
                  rw [notesV_ok HWA.out] at this
                  have := HNA.out
                  omega
                have hcl := checkNt_le k leaf i0 p
                have hpl : p.length ≤ 10 := by rw [HMD.out]; exact depthF_10 _ HNA.out
                have htl : (notesF k.toNat l ++ checkNt k leaf i0 p).length < 900000000 := by rw [List.length_append]; omega
                have HNL := Lib.hid hnl; have HTL := Lib.hid htl
                have hsm : ∀ t ∈ notesF k.toNat l ++ checkNt k leaf i0 p, t.length < 1099511627776 := by
                  intro t ht
                  rcases List.mem_append.1 ht with h | h
                  · exact notes_small HF.out t h
                  · exact checkNt_small HN5.out i0 H32.out t h
                have HSM := Lib.hid hsm
                clear hnl hcl hpl htl hsm
                have d33 := C33.out w9 HS9.out; have d34 := C34.out w9 HS9.out; have d35 := C35.out w9 HS9.out
                go_wp2_with (refine wpList_load_row rfl _ _ rfl R rfl _ (c8 ga) _ _ HR9.out Try.underlying48 rfl (Try.sizeHs _ HG32.out) ?_)
                refine (tcheck_any w9 g a9 _ k i0 ga leaf p _ _ HG32.out (fun w' a' h => HBR.out.later (HB9.out.trans (h.below HB9.out.size hgw HF9.out))) (by have := HN5.out; omega) (fun w' a' h => HP.out.later (HB9.out.trans (h.below HB9.out.size hgw HF9.out))) HT9.out H32.out HNL.out HI64.out).mono ?_
                rintro e w10 ⟨rfl, a10, ht10, hg10⟩
                have HB10 := Lib.hid (HB9.out.trans (hg10.below HB9.out.size hgw HF9.out)); have HT10 := Lib.hid ht10
                clear ht10 hg10 d33 d34 d35
                go_wp2_with fail
                refine (twins_any w10 g a10 _ HT10.out HTL.out HSM.out).mono ?_
                rintro e w11 ⟨b, rfl, hbt, hb11⟩
                obtain rfl : b = true := hbt.2 HTW.out
                have HB11 := Lib.hid (HB10.out.trans (hb11.mono HB10.out.size))
                clear hbt hb11
                go_wp2_with fail
                refine (lives07_any _).mono ?_
                rintro e w12 ⟨rfl, hb12⟩
                go_wp2_with fail
                go_ret
                exact ⟨rfl, HB11.out.trans (hb12.mono HB11.out.size)⟩
            · have hx0 : x = [] := by rw [HX.out]; exact tAt_out l i0 (by have := HQ.out; omega)
              have jlt : decide ((i0 : Int) < (q : Int)) = false := by simp; omega
              by_cases hxl : leaf = []
              · have je : ((bs leaf).toList.isEmpty) = true := str_none.2 hxl
                clear hxl hx0
                go_wp2_with fail
                refine (lives07_any _).mono ?_
                rintro e w6 ⟨rfl, hb6⟩
                go_wp2_with fail
                go_ret
                exact ⟨rfl, HB5.out.trans (hb6.mono HB5.out.size)⟩
              · have je : ((bs leaf).toList.isEmpty) = false := Bool.eq_false_iff.2 fun h => hxl (str_none.1 h)
                have htw : Twin (notesF k.toNat l ++ checkNt k leaf i0 p) := hor.out.resolve_left fun h => hxl (h.trans hx0)
                have HTW := Lib.hid htw
                clear htw hxl hx0
                go_wp2_with fail
                clear je
                obtain ⟨g, hg⟩ : ∃ g, g = w5.heap.size := ⟨_, rfl⟩
                rw [← hg]
                obtain ⟨w8, hw8⟩ : ∃ w8, w8 = w5.alloc (.cells #[.slice none 0 0] 70) := ⟨_, rfl⟩
                rw [← hw8]
                have hb8 : Below w.heap.size w w8 := by rw [hw8]; exact HB5.out.alloc HB5.out.size _
                have ht8 : Tr w8 g none [] := tr_new (by rw [hw8, hg]; exact heap_alloc_new _ _)
                have hgw : w.heap.size ≤ g := by rw [hg]; exact HB5.out.size
                have hb58 : Below w5.heap.size w5 w8 := by rw [hw8]; exact (Below.refl _ _).alloc (Nat.le_refl _) _
                have hr8 := (hb58.block R (heap_lt HR5.out)).trans HR5.out
                have hs8 := (hb58.block G (heap_lt HS5.out)).trans HS5.out
                have HB8 := Lib.hid hb8; have HT8 := Lib.hid ht8; have HR8 := Lib.hid hr8; have HS8 := Lib.hid hs8
                have hgr : R < g ∧ G < g := by rw [hg]; exact ⟨heap_lt HR5.out, heap_lt HS5.out⟩
                clear hg hw8 hb8 ht8 hb58 hr8 hs8
                refine (troot_any w8 g none [] k l _ (texts_grew H.out HB8.out hgw (fun _ h => by cases h)) HT8.out HF.out (by simp)).mono ?_
                rintro e w9 ⟨rfl, a9, ht9, hg9⟩
                rw [HRA.out]
                have hfar9 := hg9.far HB8.out.size (fun _ h => by cases h)
                have hr9 := tr_other HT8.out hg9 HR8.out (by decide)
                have hs9 := tr_other HT8.out hg9 HS8.out (by decide)
                rw [List.nil_append, notesV_ok HWA.out] at ht9
                have HB9 := Lib.hid (HB8.out.trans (hg9.below HB8.out.size hgw (fun _ h => by cases h))); have HT9 := Lib.hid ht9; have HF9 := Lib.hid hfar9; have HR9 := Lib.hid hr9; have HS9 := Lib.hid hs9
                clear ht9 hg9 hfar9 hr9 hs9
                have hnl : (notesF k.toNat l).length < 800000000 := by
                  have := notesV_len k l
                  rw [notesV_ok HWA.out] at this
                  have := HNA.out
                  omega
                have hcl := checkNt_le k leaf i0 p
                have hpl : p.length ≤ 10 := by rw [HMD.out]; exact depthF_10 _ HNA.out
                have htl : (notesF k.toNat l ++ checkNt k leaf i0 p).length < 900000000 := by rw [List.length_append]; omega
                have HNL := Lib.hid hnl; have HTL := Lib.hid htl
                have hsm : ∀ t ∈ notesF k.toNat l ++ checkNt k leaf i0 p, t.length < 1099511627776 := by
                  intro t ht
                  rcases List.mem_append.1 ht with h | h
                  · exact notes_small HF.out t h
                  · exact checkNt_small HN5.out i0 H32.out t h
                have HSM := Lib.hid hsm
                clear hnl hcl hpl htl hsm
                have d33 := C33.out w9 HS9.out; have d34 := C34.out w9 HS9.out; have d35 := C35.out w9 HS9.out
                go_wp2_with (refine wpList_load_row rfl _ _ rfl R rfl _ (c8 ga) _ _ HR9.out Try.underlying48 rfl (Try.sizeHs _ HG32.out) ?_)
                refine (tcheck_any w9 g a9 _ k i0 ga leaf p _ _ HG32.out (fun w' a' h => HBR.out.later (HB9.out.trans (h.below HB9.out.size hgw HF9.out))) (by have := HN5.out; omega) (fun w' a' h => HP.out.later (HB9.out.trans (h.below HB9.out.size hgw HF9.out))) HT9.out H32.out HNL.out HI64.out).mono ?_
                rintro e w10 ⟨rfl, a10, ht10, hg10⟩
                have HB10 := Lib.hid (HB9.out.trans (hg10.below HB9.out.size hgw HF9.out)); have HT10 := Lib.hid ht10
                clear ht10 hg10 d33 d34 d35
                go_wp2_with fail
                refine (twins_any w10 g a10 _ HT10.out HTL.out HSM.out).mono ?_
                rintro e w11 ⟨b, rfl, hbt, hb11⟩
                obtain rfl : b = true := hbt.2 HTW.out
                have HB11 := Lib.hid (HB10.out.trans (hb11.mono HB10.out.size))
                clear hbt hb11
                go_wp2_with fail
                refine (lives07_any _).mono ?_
                rintro e w12 ⟨rfl, hb12⟩
                go_wp2_with fail
                go_ret
                exact ⟨rfl, HB11.out.trans (hb12.mono HB11.out.size)⟩
          · have jz : (z != 0) = true := by simpa using hz0
            go_wp2_with fail
            refine (lives07_any _).mono ?_
            rintro e w6 ⟨rfl, hb6⟩
            go_wp2_with fail
            go_ret
            exact ⟨rfl, HB5.out.trans (hb6.mono HB5.out.size)⟩
        · have j3 : ((m : Int) != (d : Int)) = true := by simp; omega
          refine till_one 1 rfl (by kernel_rfl) fun K hK => ?_
          simp only [List.getElem_toArray, List.getElem_cons_succ, List.getElem_cons_zero]
          rw [if_pos (by rfl)]
          go_simp
          refine (light07_any _ l _ (H.out.later HBD.out) HZ.out).mono ?_
          rintro e w2 ⟨rfl, rfl⟩
          rw [HL.out]
          refine hK _ _ (fun _ _ => hS) ?_
          clear hK
          refine till_take 2 (some 14) rfl rfl (by kernel_rfl) (by kernel_rfl) (by kernel_rfl) (by kernel_rfl) (by kernel_rfl) (by kernel_rfl) (fun _ _ _ h => h) (.inl ⟨by rfl, fun w' _ => (by go_simp; rfl)⟩) hS ?_
          go_frame
          refine till_take 3 (some 15) rfl rfl (by kernel_rfl) (by kernel_rfl) (by kernel_rfl) (by kernel_rfl) (by kernel_rfl) (by kernel_rfl) (fun _ _ _ h => h) (.inl ⟨by rfl, fun w' _ => (by go_simp; rfl)⟩) hS ?_
          go_frame
          refine till_take 4 (some 16) rfl rfl (by kernel_rfl) (by kernel_rfl) (by kernel_rfl) (by kernel_rfl) (by kernel_rfl) (by kernel_rfl) (fun _ _ _ h => h) (.inl ⟨by rfl, fun w' _ => (by go_simp; rfl)⟩) hS ?_
          go_frame
          refine till_take 5 (some 17) rfl rfl (by kernel_rfl) (by kernel_rfl) (by kernel_rfl) (by kernel_rfl) (by kernel_rfl) (by kernel_rfl) (fun _ _ _ h => h) (.inl ⟨by rfl, fun w' _ => (by go_simp; rfl)⟩) hS ?_
          go_frame
          refine till_take 6 (some 18) rfl rfl (by kernel_rfl) (by kernel_rfl) (by kernel_rfl) (by kernel_rfl) (by kernel_rfl) (by kernel_rfl) (fun _ _ _ h => h) (.inl ⟨by rfl, fun w' _ => (by go_simp; rfl)⟩) hS ?_
          go_frame
          refine till_take 7 (some 19) rfl rfl (by kernel_rfl) (by kernel_rfl) (by kernel_rfl) (by kernel_rfl) (by kernel_rfl) (by kernel_rfl) (fun _ _ _ h => h) (.inl ⟨by rfl, fun w' _ => (by go_simp; rfl)⟩) hS ?_
          go_frame
          refine till_take 8 (some 20) rfl rfl (by kernel_rfl) (by kernel_rfl) (by kernel_rfl) (by kernel_rfl) (by kernel_rfl) (by kernel_rfl) (fun _ _ _ h => h) (.inl ⟨by rfl, fun w' _ => (by go_simp; rfl)⟩) hS ?_
          go_frame
          refine till_take 9 (some 21) rfl rfl (by kernel_rfl) (by kernel_rfl) (by kernel_rfl) (by kernel_rfl) (by kernel_rfl) (by kernel_rfl) (fun _ _ _ h => h) (.inl ⟨by rfl, fun w' _ => (by go_simp; rfl)⟩) hS ?_
          go_frame
          refine till_take 10 (some 22) rfl rfl (by kernel_rfl) (by kernel_rfl) (by kernel_rfl) (by kernel_rfl) (by kernel_rfl) (by kernel_rfl) (fun _ _ _ h => h) (.inl ⟨by rfl, fun w' hS' => (by have hc := C33.out w' hS'; go_simp; rfl)⟩) hS ?_
          go_frame
          refine till_take 11 (some 23) rfl rfl (by kernel_rfl) (by kernel_rfl) (by kernel_rfl) (by kernel_rfl) (by kernel_rfl) (by kernel_rfl) (fun _ _ _ h => h) (.inl ⟨by rfl, fun w' _ => (by go_simp; rfl)⟩) hS ?_
          go_frame
          refine till_take 12 (some 24) rfl rfl (by kernel_rfl) (by kernel_rfl) (by kernel_rfl) (by kernel_rfl) (by kernel_rfl) (by kernel_rfl) (fun _ _ _ h => h) (.inl ⟨by rfl, fun w' _ => (by go_simp; rfl)⟩) hS ?_
          go_frame
          refine till_take 13 (some 25) rfl rfl (by kernel_rfl) (by kernel_rfl) (by kernel_rfl) (by kernel_rfl) (by kernel_rfl) (by kernel_rfl) (fun _ _ _ h => h) (.inl ⟨by rfl, fun w' _ => (by go_simp; rfl)⟩) hS ?_
          go_frame
          refine till_take 14 (some 26) rfl rfl (by kernel_rfl) (by kernel_rfl) (by kernel_rfl) (by kernel_rfl) (by kernel_rfl) (by kernel_rfl) (fun _ _ _ h => h) (.inl ⟨by rfl, fun w' _ => (by go_simp; rfl)⟩) hS ?_
          go_frame
          refine till_take 15 (some 27) rfl rfl (by kernel_rfl) (by kernel_rfl) (by kernel_rfl) (by kernel_rfl) (by kernel_rfl) (by kernel_rfl) (fun _ _ _ h => h) (.inl ⟨by rfl, fun w' _ => (by go_simp; rfl)⟩) hS ?_
          go_frame
          refine till_take 16 (some 28) rfl rfl (by kernel_rfl) (by kernel_rfl) (by kernel_rfl) (by kernel_rfl) (by kernel_rfl) (by kernel_rfl) (fun _ _ _ h => h) (.inl ⟨by rfl, fun w' hS' => (by have hc := C35.out w' hS'; go_simp; rfl)⟩) hS ?_
          go_frame
          refine till_take 17 (some 29) rfl rfl (by kernel_rfl) (by kernel_rfl) (by kernel_rfl) (by kernel_rfl) (by kernel_rfl) (by kernel_rfl) (fun _ _ _ h => h) (.inl ⟨by rfl, fun w' _ => (by go_simp; rfl)⟩) hS ?_
          go_frame
          refine till_take 18 (some 30) rfl rfl (by kernel_rfl) (by kernel_rfl) (by kernel_rfl) (by kernel_rfl) (by kernel_rfl) (by kernel_rfl) (fun _ _ _ h => h) (.inl ⟨by rfl, fun w' _ => (by go_simp; rfl)⟩) hS ?_
          go_frame
          refine till_take 19 (some 31) rfl rfl (by kernel_rfl) (by kernel_rfl) (by kernel_rfl) (by kernel_rfl) (by kernel_rfl) (by kernel_rfl) (fun _ _ _ h => h) (.inl ⟨by rfl, fun w' _ => (by go_simp; rfl)⟩) hS ?_
          go_frame
          refine till_one 20 rfl (by kernel_rfl) fun K hK => ?_
          simp only [List.getElem_toArray, List.getElem_cons_succ, List.getElem_cons_zero]
          rw [if_pos (by rfl)]
          go_simp
          refine (tdepth_any _ (by omega) _).mono ?_
          rintro e w3 ⟨rfl, rfl⟩
          rw [Int.toNat_natCast, ← HD.out]
          refine hK _ _ (fun _ _ => hS) ?_
          clear hK
          refine till_take 21 (some 33) rfl rfl (by kernel_rfl) (by kernel_rfl) (by kernel_rfl) (by kernel_rfl) (by kernel_rfl) (by kernel_rfl) (fun _ _ _ h => h) (.inl ⟨by rfl, fun w' _ => (by go_simp; rfl)⟩) hS ?_
          go_frame
          refine till_one 22 rfl (by kernel_rfl) fun K hK => ?_
          simp only [List.getElem_toArray, List.getElem_cons_succ, List.getElem_cons_zero]
          rw [if_pos (by rfl)]
          go_simp
          refine hK _ _ (fun h => absurd rfl h) ?_
          clear hK hS
          refine till_done (by kernel_rfl) ?_ _
          go_wp2_with fail
          refine (lives07_any _).mono ?_
          rintro e w5 ⟨rfl, hb5⟩
          go_wp2_with fail
          go_ret
          exact ⟨rfl, HBD.out.trans (hb5.mono HBD.out.size)⟩
end Go.Proofs.Ytbfdjjaonjepnaa
