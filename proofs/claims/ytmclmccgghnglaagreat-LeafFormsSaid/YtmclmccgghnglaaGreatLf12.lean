/- octet.Source: Hash. No condition. tallageref04.Source: wrong, take, Byte, End, Hash. No condition. tallageref04.Source: Var. No condition. -/
import Derived.Test.YtmclmccgghnglaaGreatLf11
import Derived.Test.YtmclmccgghnglaaGreatLfLeaA
import Derived.Deep.Cut
import Derived.Laws.CopyRow
import Derived.Laws.IdiomCopy
namespace Go.Proofs.YtmclmccgghnglaaGreat
section
open Go.RowKit

theorem wp_copy_run2 {P : Program} {o : Oper} {a : Act} {K : Act → World → Prop} {Q : Exit → Act → World → Prop} {w : World} (d x : Operand) (dT sT : TypeId) (hop : o.op = .call { callee := .builtin .copy, args := #[d, x], argTypes := #[dT, sT] })
    (v u : Value) (hd : a.eval d = v) (hx : a.eval x = u) {v' : Value} {w' : World} (hr : (Builtin.copy_ #[dT, sT] o.type #[v, u]).run P w = .ok v' w') (hK : K (a.put o.dst v') w') : o.wp P a w K Q := by
  unfold Oper.wp
  simp [execOp, hop, resolve, invoke, builtin, hd, hx, hr, Result.andThen]
  exact hK
/-- copy of bytes into a block of the call's own, within a drawn region. -/
theorem wp_copy_b {P : Program} {o : Oper} {a : Act} {K : Act → World → Prop} {Q : Exit → Act → World → Prop} {w : World} (d x : Operand) (dT sT : TypeId) (hop : o.op = .call { callee := .builtin .copy, args := #[d, x], argTypes := #[dT, sT] })
    (elem : TypeId) (hu : P.underlying dT = some (.slice elem)) (hsz : (P.info? elem).map (·.size) = some 1) (g off dLen dCap : Nat) (ad : Option Addr) (n cap : Nat) (l : List UInt8) (hd : a.eval d = .slice (some ⟨g, off, none⟩) dLen dCap) (hx : a.eval x = .slice ad n cap)
    (hr : Rd w u8E 1 (.slice ad n cap) l) (cur : Array Value) (t : TypeId) (hg : w.heap[g]? = some (.cells cur t (0, 0))) (hn : n ≤ dLen) (hfit : off + n ≤ cur.size) (new : Array Value) (hnew : (cur.toList.take off ++ (l.map byteV ++ cur.toList.drop (off + l.length))).toArray = new)
    (h : ∀ w', w'.heap[g]? = some (.cells new t (0, 0)) → Keep (· = g) w w' → w'.heap.size = w.heap.size → K (a.put o.dst (goInt n)) w') : o.wp P a w K Q := by
  have hl : n = l.length := hr.size
  by_cases h0 : l = []
  · subst h0
    have hn0 : n = 0 := hl
    subst hn0
    refine wp_copy_run2 d x dT sT hop _ _ hd hx (run_copy_none (P := P) w dT sT o.type elem _ _ dLen dCap 0 cap hu hsz (Nat.min_eq_left (Nat.zero_le _))) (h w ?_ (Keep.refl _ _) rfl)
    rw [hg, ← hnew]
    simp
  · have hlp : 0 < l.length := List.length_pos_iff.2 h0
    obtain ⟨b, of', rfl, _, _⟩ := hr.at 0 hlp
    have hnl : (l.map byteV).length = n := by rw [List.length_map, hl]
    have hrun := run_copy_row (P := P) w dT sT o.type elem g off dLen dCap ⟨b, of', none⟩ n cap cur t (l.map byteV) hu hsz hg (by rw [hnl]; exact (Nat.min_eq_left hn).symm) (fun j v hj => by
      have hjl : j < l.length := by
        have := (List.getElem?_eq_some_iff.1 hj).1; simpa using this
      obtain ⟨b', o', e1, _, c⟩ := hr.at j hjl
      cases e1
      rw [List.getElem?_map, List.getElem?_eq_getElem hjl] at hj
      cases hj
      have ha : (⟨b, of', none⟩ : Addr).add j = ⟨b, of' + j, none⟩ := by unfold Addr.add; split <;> simp_all
      rw [ha]
      exact c.trans rfl) (by rw [hnl]; exact hfit) (fun v hv => by
      obtain ⟨y, _, rfl⟩ := List.mem_map.1 hv
      rfl)
    rw [hnl] at hrun
    refine wp_copy_run2 d x dT sT hop _ _ hd hx hrun (h _ ?_ (Keep.setRow (S := (· = g)) (Keep.refl _ _) (.inl rfl) _) (setRow_size _ _ _))
    rw [setRow_heap _ _ _ _ _ _ hg, ← hnew, ← hl, List.append_assoc]
/-- A source, when a later block has turned. -/
theorem Src.keep {w w' : World} {g R : Nat} {l : List UInt8} {e : Int} (h : Src w g l e) (k : Keep (· = R) w w') (hR : g < R) : Src w' g l e := by
  obtain ⟨ad, n, cap, h1, h2, h3⟩ := h
  exact ⟨ad, n, cap, k.at h1 (fun x => Nat.ne_of_lt hR x), h2.keep k (fun q hq _ e => by have := h3 q hq; omega), h3⟩
/-- What Hash tells and leaves. -/
def hashO : Option (List UInt8) → List UInt8 × Option (List UInt8)
  | none => (zero32, none)
  | some l => match hashR l with
    | some (h, r) => (h, some r)
    | none => (zero32, none)
theorem hashO_short {l : List UInt8} (h : l.length < 32) : hashO (some l) = (zero32, none) := by simp only [hashO, hashR, if_pos h]
theorem hashO_long {l : List UInt8} (h : ¬ l.length < 32) : hashO (some l) = (l.take 32, some (l.drop 32)) := by simp only [hashO, hashR, if_neg h]
theorem hashO_of {w : World} {g : Nat} {o : Option (List UInt8)} (h : SrcO w g o) : ∃ l e, Src w g l e ∧ (∀ w', Src w' g (takeS l e 32).1 (takeS l e 32).2 → SrcO w' g (hashO o).2) ∧ ((takeV l e 32).length ≤ 32 ∧ ((cB 32 []).toList.take 0 ++ ((takeV l e 32).map byteV ++ (cB 32 []).toList.drop (0 + (takeV l e 32).length))).toArray = c8 (hashO o).1) := by
  have hz : ∀ x : List UInt8, x = [] → x.length ≤ 32 ∧ ((cB 32 []).toList.take 0 ++ (x.map byteV ++ (cB 32 []).toList.drop (0 + x.length))).toArray = c8 zero32 := fun x hx => by
    subst hx
    refine ⟨by simp, ?_⟩
    rw [List.length_nil, List.drop_zero, List.map_nil, List.nil_append, List.take_zero, List.nil_append, ← cB_full 32 zero32 zero32_length]
    rfl
  cases o with
  | none =>
    obtain ⟨l, e, he, hs⟩ := h
    refine ⟨l, e, hs, fun w' k => ?_, ?_⟩
    · unfold takeS at k; rw [if_pos he] at k; exact ⟨l, e, he, k⟩
    · exact hz _ (by unfold takeV; rw [if_pos he])
  | some l =>
    refine ⟨l, 0, h, fun w' k => ?_, ?_⟩
    · unfold takeS at k; rw [if_neg (by decide)] at k
      by_cases hl : l.length < 32
      · rw [if_pos hl] at k; rw [hashO_short hl]; exact ⟨[], 3, by decide, k⟩
      · rw [if_neg hl] at k; rw [hashO_long hl]; exact k
    · by_cases hl : l.length < 32
      · rw [hashO_short hl]; exact hz _ (by unfold takeV; rw [if_neg (by decide), if_pos hl])
      · rw [hashO_long hl]
        have e1 : takeV l 0 32 = l.take 32 := by unfold takeV; rw [if_neg (by decide), if_neg hl]
        have e2 : (l.take 32).length = 32 := by rw [List.length_take]; omega
        rw [e1]
        refine ⟨by omega, ?_⟩
        rw [e2, List.take_zero, List.nil_append, List.drop_eq_nil_of_le (by simp [cB]), List.append_nil]
        rfl
theorem hashO_32 (o : Option (List UInt8)) : (hashO o).1.length = 32 := by
  cases o with
  | none => rfl
  | some l =>
    by_cases hl : l.length < 32
    · rw [hashO_short hl]; rfl
    · rw [hashO_long hl]; show (l.take 32).length = 32; rw [List.length_take]; omega
set_option maxHeartbeats 4000000 in
set_option maxRecDepth 100000 in
theorem shash_any (w : World) (g : Nat) (o : Option (List UInt8)) (h : SrcO w g o) : Calls Tryz.prog 150 #[.pointer (some ⟨g, 0, none⟩)] w (SrcORet w g (hashO o).2 (.agg (c8 (hashO o).1))) := by
  obtain ⟨l, e, hs, hpost, hv1, hv2⟩ := hashO_of h
  have h32 := hashO_32 o
  obtain ⟨hh, hhh⟩ : ∃ x, x = (hashO o).1 := ⟨_, rfl⟩
  obtain ⟨oo, hoo⟩ : ∃ x, x = (hashO o).2 := ⟨_, rfl⟩
  rw [← hhh] at hv2 h32 ⊢
  rw [← hoo] at hpost ⊢
  have HS := Lib.hid hs; have HP := Lib.hid hpost; have HV1 := Lib.hid hv1; have HV2 := Lib.hid hv2; have H32 := Lib.hid h32
  clear h hs hpost hv1 hv2 h32 hhh hoo
  go_enter Tryz.func150, Tryz.ntmps150
  go_wp2_with (refine wpList_alloc_g rfl _ rfl _ _ Tryz.zeroHash rfl ?_)
  intro R w1 hR
  go_wp2_with (refine wpList_alloc_g rfl _ rfl _ _ Tryz.zeroHash rfl ?_)
  intro H w2 hH
  have HSlt : Hid (g < w.heap.size) := Lib.hid (by obtain ⟨_, _, _, h1, _⟩ := HS.out; exact heap_lt h1)
  have HNR : Hid (g < R) := Lib.hid (by have := hR.out.eq; have := HSlt.out; omega)
  have HNH : Hid (g < H) := Lib.hid (by have := hH.out.eq; have := hR.out.below.size; have := HSlt.out; omega)
  have HRH : Hid (R ≠ H) := Lib.hid (by have := hH.out.eq; have := heap_lt hR.out.cells; omega)
  have hRw : Hid (w.heap.size ≤ R ∧ w.heap.size ≤ H) := Lib.hid ⟨by have := hR.out.eq; omega, by have := hH.out.eq; have := hR.out.below.size; omega⟩
  have HR2 := Lib.hid (below_at2 hH.out.below hR.out.cells)
  have HH2 := Lib.hid hH.out.cells
  have hb2 : Below w.heap.size w w2 := hR.out.below.trans (hH.out.below.mono hR.out.below.size)
  have HB2 := Lib.hid hb2
  clear hR hH hb2
  go_upto_region 2 with fail
  obtain ⟨wz, hwz⟩ : ∃ wz, wz = w2.drew := ⟨_, rfl⟩
  have hbz : Below w2.heap.size w2 wz := by rw [hwz]; exact (Below.refl _ _).drew
  have hS : wz.heap[H]? = some (.cells (cB 32 []) 36 (0, 0)) := below_at2 hbz HH2.out
  have HRz := Lib.hid (below_at2 hbz HR2.out)
  have HBz := Lib.hid (HB2.out.trans (hbz.mono HB2.out.size))
  clear hbz HH2 HR2 HB2
  refine wp_region_till (fun w' => w'.heap[H]? = some (.cells (cB 32 []) 36 (0, 0))) 3 4 (by kernel_rfl) rfl ?_
  rw [← hwz]
  clear hwz
  refine till_take 0 (some 4) rfl rfl (by kernel_rfl) (by kernel_rfl) (by kernel_rfl) (by kernel_rfl) (by kernel_rfl) (by kernel_rfl) (fun _ _ _ h => h) (.inl ⟨by rfl, fun w' _ => (by go_simp; rfl)⟩) hS ?_
  go_frame
  refine till_take 1 (some 5) rfl rfl (by kernel_rfl) (by kernel_rfl) (by kernel_rfl) (by kernel_rfl) (by kernel_rfl) (by kernel_rfl) (fun _ _ _ h => h) (.inl ⟨by rfl, fun w' _ => (by go_simp; rfl)⟩) hS ?_
  go_frame
  refine till_one 2 rfl (by kernel_rfl) fun K hK => ?_
  simp only [List.getElem_toArray, List.getElem_cons_succ, List.getElem_cons_zero]
  rw [if_pos (by rfl)]
  go_simp
  refine (stake2_any _ g l e 32 (HS.out.later HBz.out)).mono ?_
  rintro r w4 ⟨v4, rfl, hk4, hs4, hr4, _⟩
  obtain ⟨ad4, cap4, rfl, _, _⟩ := hr4.shape
  obtain ⟨n4, hn4⟩ : ∃ n, n = (takeV l e 32).length := ⟨_, rfl⟩
  rw [← hn4] at hr4 ⊢
  have hS4 := hk4.at hS (Nat.ne_of_gt HNH.out)
  have HR4 := Lib.hid (hk4.at HRz.out (Nat.ne_of_gt HNR.out))
  have HK4 := Lib.hid ((Keep.of_below HBz.out).then hk4 fun x hx => .inl hx)
  have HS4 := Lib.hid hs4; have HRD4 := Lib.hid hr4; have HN4 := Lib.hid hn4
  refine hK _ _ (fun _ _ => hS4) ?_
  clear hK hS hk4 hs4 hr4 hn4 HRz HBz
  have hS := hS4
  clear hS4
  refine till_one 3 rfl (by kernel_rfl) fun K hK => ?_
  simp only [List.getElem_toArray, List.getElem_cons_succ, List.getElem_cons_zero]
  rw [if_pos (by rfl)]
  refine wp_copy_b _ _ 100 100 rfl 5 Tryz.underlying100 Tryz.sizeU8 H 0 32 32 ad4 n4 cap4 (takeV l e 32) rfl rfl HRD4.out (cB 32 []) 36 hS (by rw [HN4.out]; exact HV1.out) (by rw [cB_size 32 [] (by simp), HN4.out, Nat.zero_add]; exact HV1.out) (c8 hh) HV2.out ?_
  intro w5 h5 k5 z5
  have HH5 := Lib.hid h5
  have HR5 := Lib.hid (k5.at HR4.out HRH.out)
  have HK5 := Lib.hid (HK4.out.then k5 fun x hx => .inr (by have := hRw.out.2; omega))
  have HS5 := Lib.hid (HS4.out.keep k5 HNH.out)
  refine hK _ _ (fun h => absurd rfl h) ?_
  clear hK hS h5 k5 z5 HR4 HK4 HS4 HRD4
  refine till_done (by kernel_rfl) ?_ _
  go_wp2_with (first
    | (refine wpList_load_row rfl 36 _ rfl H rfl 36 _ _ _ HH5.out Tryz.underlying36 rfl (Tryz.sizeHc hh H32.out) ?_)
    | (refine wpList_store_row_g (t := 36) (old := cB 32 []) rfl 36 _ _ rfl R (c8 hh) rfl rfl HR5.out (Tryz.sizeHc hh H32.out) (by rw [c8_size, H32.out]; rfl) (by rw [← cB_full 32 _ H32.out]; exact one_b _ _) ?_))
  intro w6 h6 k6 z6
  have H6 := Lib.hid h6
  have HK6 := Lib.hid (HK5.out.then k6 fun x hx => .inr (by have := hRw.out.1; omega))
  have HS6 := Lib.hid (HS5.out.keep k6 HNR.out)
  clear h6 k6 z6
  go_wp2_with fail
  exact bodyPost_ret (results_cell_row rfl _ _ R _ (c8 hh) _ _ rfl H6.out Tryz.underlying36 rfl (Tryz.sizeHc hh H32.out)) rfl ⟨rfl, HK6.out, HP.out _ HS6.out⟩
end
section
open Go.RowKit

/-- The document's source: what is left, and what went wrong. -/
def RSrc (w : World) (g : Nat) (l : List UInt8) (e : Int) : Prop := ∃ (ad : Option Addr) (n cap : Nat), w.heap[g]? = some (.cells #[.slice ad n cap, .int .i64 e] 218 (0, 0)) ∧ Rd w u8E 1 (.slice ad n cap) l ∧ ∀ k, (Value.slice ad n cap).ownBlock = some k → l ≠ [] → k < g
theorem RSrc.later {w w' : World} {g : Nat} {l : List UInt8} {e : Int} (h : RSrc w g l e) (hb : Below w.heap.size w w') : RSrc w' g l e := by
  obtain ⟨ad, n, cap, h1, h2, h3⟩ := h
  exact ⟨ad, n, cap, below_at2 hb h1, h2.later hb, h3⟩
theorem RSrc.keep {w w' : World} {g R : Nat} {l : List UInt8} {e : Int} (h : RSrc w g l e) (k : Keep (· = R) w w') (hR : g < R) : RSrc w' g l e := by
  obtain ⟨ad, n, cap, h1, h2, h3⟩ := h
  exact ⟨ad, n, cap, k.at h1 (fun x => Nat.ne_of_lt hR x), h2.keep k (fun q hq hne e => by have := h3 q hq hne; omega), h3⟩
theorem RSrc.lt {w : World} {g : Nat} {l : List UInt8} {e : Int} (h : RSrc w g l e) : g < w.heap.size := by
  obtain ⟨_, _, _, h1, _⟩ := h
  exact heap_lt h1
def RSrcRet (w : World) (g : Nat) (l : List UInt8) (k : Int) (v : Value) (e : Ending) (w' : World) : Prop := e = .returned v ∧ Keep (· = g) w w' ∧ RSrc w' g l k
theorem Tryz.sizeI : (Tryz.prog.info? 3).map (·.size) = some 1 := by kernel_rfl
set_option maxHeartbeats 1000000 in
theorem rwrong_any (w : World) (g : Nat) (l : List UInt8) (e k : Int) (h : RSrc w g l e) : Calls Tryz.prog 251 #[.pointer (some ⟨g, 0, none⟩), .int .i64 k] w (RSrcRet w g [] k (.tuple #[])) := by
  obtain ⟨ad, n, cap, h1, _, _⟩ := h
  have HC := Lib.hid h1
  clear h1
  go_enter Tryz.func251, Tryz.ntmps251
  go_wp2_with (refine wpList_store1_g rfl 100 _ _ rfl g 0 (.slice none 0 0) rfl rfl rfl rfl 218 _ HC.out Tryz.sizeSl8 (by simp) #[.slice none 0 0, .int .i64 e] rfl ?_)
  intro w2 h2 k2 z2
  have HC2 := Lib.hid h2; have HK2 := Lib.hid k2
  clear h2 k2 z2
  go_wp2_with (refine wpList_store1_g rfl 3 _ _ rfl g 1 (.int .i64 k) rfl rfl rfl rfl 218 _ HC2.out Tryz.sizeI (by simp) #[.slice none 0 0, .int .i64 k] rfl ?_)
  intro w3 h3 k3 z3
  have HC3 := Lib.hid h3; have HK3 := Lib.hid (HK2.out.then k3 fun x hx => .inl hx)
  clear h3 k3 z3
  go_wp2_with fail
  go_end0
  exact ⟨rfl, HK3.out, none, 0, 0, HC3.out, Rd.nil _ _ _, by simp [Value.ownBlock]⟩
set_option maxHeartbeats 4000000 in
set_option maxRecDepth 100000 in
theorem rtake_any (w : World) (g : Nat) (l : List UInt8) (e : Int) (n : Nat) (h : RSrc w g l e) (hlen : l.length < 1000000000) : Calls Tryz.prog 252 #[.pointer (some ⟨g, 0, none⟩), .int .i64 n] w fun r w' => ∃ v', r = .returned v' ∧ Keep (· = g) w w' ∧ RSrc w' g (takeS l e n).1 (takeS l e n).2 ∧ Rd w' u8E 1 v' (takeV l e n) ∧ ∀ k, v'.ownBlock = some k → w.heap.size ≤ k := by
  have H := Lib.hid h
  by_cases he : e = 0
  · subst he
    obtain ⟨ad, m, cap, h1, h2, h3⟩ := h
    have hm : m = l.length := h2.size
    have HC := Lib.hid h1; have HR := Lib.hid h2; have HO := Lib.hid h3; have HM := Lib.hid hm; have HL := Lib.hid hlen
    have c0 : w.cell? ⟨g, 0, none⟩ = some (.slice ad m cap) := Lib.cell_of_heap h1 0
    have c1 : w.cell? ⟨g, 1, none⟩ = some (.int .i64 0) := Lib.cell_of_heap h1 1
    clear h1 h2 h3 hm hlen
    by_cases hl : m < n
    · have e1 : takeS l 0 n = ([], 3) := by unfold takeS; rw [if_neg (by decide), if_pos (by rw [← HM.out]; exact hl)]
      have e2 : takeV l 0 n = [] := by unfold takeV; rw [if_neg (by decide), if_pos (by rw [← HM.out]; exact hl)]
      rw [e1, e2]
      clear e1 e2
      go_enter Tryz.func252, Tryz.ntmps252
      go_wp2_with fail
      refine (rwrong_any w g l 0 3 H.out).mono ?_
      rintro r w2 ⟨rfl, hk, hs⟩
      have HK := Lib.hid hk; have HS := Lib.hid hs
      clear hk hs c0 c1
      go_wp2_with fail
      go_ret
      exact ⟨_, rfl, HK.out, HS.out, Rd.nil _ _ _, by simp [Value.ownBlock]⟩
    · have e1 : takeS l 0 n = (l.drop n, 0) := by unfold takeS; rw [if_neg (by decide), if_neg (by rw [← HM.out]; exact hl)]
      have e2 : takeV l 0 n = l.take n := by unfold takeV; rw [if_neg (by decide), if_neg (by rw [← HM.out]; exact hl)]
      rw [e1, e2]
      clear e1 e2
      have hnm : n ≤ m := by omega
      obtain ⟨vu, hu1, hu2, hu3⟩ := HR.out.upto Tryz.underlying100 (sz := 1) Tryz.sizeU8 n (by have := HM.out; omega)
      obtain ⟨vd, hvd1, hvd2, hvd3⟩ := HR.out.from Tryz.underlying100 (sz := 1) Tryz.sizeU8 n (by have := HM.out; omega)
      obtain ⟨adv, capv, rfl, _, _⟩ := hvd2.shape
      obtain ⟨D, hD⟩ : ∃ D, D = (l.drop n).length := ⟨_, rfl⟩
      rw [← hD] at hvd1 hvd2 hvd3
      have HU := Lib.hid hu2; have HV2 := Lib.hid hvd2; have HVO := Lib.hid (show ∀ k, (Value.slice adv D capv).ownBlock = some k → l.drop n ≠ [] → k < g from fun k h hne => HO.out k (hvd3 k h) (fun e => hne (by rw [e]; simp)))
      have HTL := Lib.hid (show (l.take n).length ≤ 1000000000 by rw [List.length_take]; have := HL.out; omega)
      have hbA : Below w.heap.size w (w.alloc (.cells #[] 5)) := (Below.refl _ _).alloc (Nat.le_refl _) _
      have c0A : (w.alloc (.cells #[] 5)).cell? ⟨g, 0, none⟩ = some (.slice ad m cap) := Lib.cell_of_heap (below_at2 hbA HC.out) 0
      clear hu2 hu3 hvd2 hvd3 hD hl hbA
      go_enter Tryz.func252, Tryz.ntmps252
      go_wp2_with (at_builtin; refine own_apps (l2 := l.take n) (enc := u8E) (B := w.heap.size) (w0 := w) rfl _ _ 100 rfl Tryz.underlying100 Tryz.infoU8 rfl (by decide) u8_len u8_one (own_mt w _ (Nat.le_refl _)) rfl _ rfl (HU.out.alloc _) (by have := HTL.out; simp only [List.length_nil]; unfold maxLen; omega) (by have := HTL.out; simp only [List.length_nil]; omega) ((Below.refl _ _).alloc (Nat.le_refl _) _) (Nat.le_refl _) (by simp) ?_)
      intro v1 w1 ho hb _
      have HOW := Lib.hid ho; have HB := Lib.hid hb
      have HC1 := Lib.hid (below_at2 hb HC.out)
      have HV1 := Lib.hid (HV2.out.later hb)
      clear ho hb c0 c1 c0A
      have c0 : w1.cell? ⟨g, 0, none⟩ = some (.slice ad m cap) := Lib.cell_of_heap HC1.out 0
      have HG := Lib.hid (show g < w.heap.size from H.out.lt)
      go_wp2_with (refine wpList_store1_g rfl 100 _ _ rfl g 0 (.slice adv D capv) rfl rfl rfl rfl 218 _ HC1.out Tryz.sizeSl8 (by simp) #[.slice adv D capv, .int .i64 0] rfl ?_)
      intro w2 h2 k2 z2
      have HC2 := Lib.hid h2; have HK2 := Lib.hid k2
      have HK := Lib.hid ((Keep.of_below HB.out).then k2 fun x hx => .inl hx)
      have HOL := Lib.hid (fun q hq => (HOW.out.lt q hq).1 : ∀ q, v1.ownBlock = some q → w.heap.size ≤ q)
      clear h2 k2 z2 c0
      go_wp2_with fail
      go_ret
      exact ⟨_, rfl, HK.out, ⟨adv, D, capv, HC2.out, HV1.out.keep HK2.out (fun k h hne he => Nat.ne_of_lt (HVO.out k h hne) he), HVO.out⟩, (HOW.out.rd u8_len).keep HK2.out (fun k h _ he => by have h1 := HOL.out k h; have h2 := HG.out; have h3 : k = g := he; omega), HOL.out⟩
  · have e1 : takeS l e n = (l, e) := by unfold takeS; rw [if_pos he]
    have e2 : takeV l e n = [] := by unfold takeV; rw [if_pos he]
    rw [e1, e2]
    obtain ⟨ad, m, cap, h1, _, _⟩ := h
    have c1 : w.cell? ⟨g, 1, none⟩ = some (.int .i64 e) := Lib.cell_of_heap h1 1
    have hne : (e != 0) = true := by simpa using he
    clear h1 e1 e2 he hlen
    go_enter Tryz.func252, Tryz.ntmps252
    go_wp2_with fail
    go_ret
    exact ⟨_, rfl, Keep.refl _ _, H.out, Rd.nil _ _ _, by simp [Value.ownBlock]⟩
set_option maxHeartbeats 4000000 in
theorem rbyte_any (w : World) (g : Nat) (l : List UInt8) (e : Int) (h : RSrc w g l e) (hlen : l.length < 1000000000) : Calls Tryz.prog 255 #[.pointer (some ⟨g, 0, none⟩)] w (RSrcRet w g (takeS l e 1).1 (takeS l e 1).2 (.int .u8 (((takeV l e 1).headD 0).toNat : Int))) := by
  have H := Lib.hid h; have HL := Lib.hid hlen
  clear h hlen
  rcases takeV_one l e with hv | ⟨c, hv⟩
  · have HV := Lib.hid hv
    rw [hv]
    clear hv
    go_enter Tryz.func255, Tryz.ntmps255
    go_wp2_with fail
    refine (rtake_any w g l e 1 H.out HL.out).mono ?_
    rw [HV.out]
    rintro r w1 ⟨v', rfl, hk, hs, hr, _⟩
    obtain ⟨ad, cap, rfl, _, _⟩ := hr.shape
    have HK := Lib.hid hk; have HS := Lib.hid hs
    clear hk hs hr
    simp only [List.length_nil]
    go_wp2_with fail
    go_ret
    exact ⟨rfl, HK.out, HS.out⟩
  · have HV := Lib.hid hv
    rw [hv]
    clear hv
    go_enter Tryz.func255, Tryz.ntmps255
    go_wp2_with fail
    refine (rtake_any w g l e 1 H.out HL.out).mono ?_
    rw [HV.out]
    rintro r w1 ⟨v', rfl, hk, hs, hr, _⟩
    obtain ⟨ad, cap, rfl, _, _⟩ := hr.shape
    obtain ⟨b, off, rfl, _, hc⟩ := hr.at 0 (by simp)
    have q : w1.cell? ⟨b, off, none⟩ = some (.int .u8 (c.toNat : Int)) := by simpa [byteV, u8E] using hc
    have HK := Lib.hid hk; have HS := Lib.hid hs
    clear hk hs hr hc
    simp only [List.length_singleton]
    go_wp2_with fail
    go_ret
    exact ⟨rfl, HK.out, HS.out⟩
set_option maxHeartbeats 4000000 in
theorem rend_any (w : World) (g : Nat) (l : List UInt8) (e : Int) (h : RSrc w g l e) : Calls Tryz.prog 154 #[.pointer (some ⟨g, 0, none⟩)] w (RSrcRet w g (endS l e).1 (endS l e).2 (.int .i64 (endS l e).2)) := by
  have H := Lib.hid h
  obtain ⟨ad, m, cap, h1, h2, _⟩ := h
  have hm : m = l.length := h2.size
  have HM := Lib.hid hm
  have c0 : w.cell? ⟨g, 0, none⟩ = some (.slice ad m cap) := Lib.cell_of_heap h1 0
  have c1 : w.cell? ⟨g, 1, none⟩ = some (.int .i64 e) := Lib.cell_of_heap h1 1
  clear h1 h2 hm
  by_cases he : e = 0
  · subst he
    by_cases hl : 0 < m
    · have e1 : endS l 0 = ([], 4) := by unfold endS; rw [if_pos ⟨rfl, by rw [← HM.out]; exact hl⟩]
      rw [e1]
      clear e1
      go_enter Tryz.func154, Tryz.ntmps154
      go_wp2_with fail
      refine (rwrong_any w g l 0 4 H.out).mono ?_
      rintro r w2 ⟨rfl, hk, hs⟩
      have HK := Lib.hid hk; have HS := Lib.hid hs
      clear c0 c1
      have c1 : w2.cell? ⟨g, 1, none⟩ = some (.int .i64 4) := by obtain ⟨_, _, _, h1, _⟩ := hs; exact Lib.cell_of_heap h1 1
      clear hk hs
      go_wp2_with fail
      go_ret
      exact ⟨rfl, HK.out, HS.out⟩
    · have e1 : endS l 0 = (l, 0) := by unfold endS; rw [if_neg (fun k => hl (by rw [HM.out]; exact k.2))]
      rw [e1]
      clear e1
      go_enter Tryz.func154, Tryz.ntmps154
      go_wp2_with fail
      go_ret
      exact ⟨rfl, Keep.refl _ _, H.out⟩
  · have e1 : endS l e = (l, e) := by unfold endS; rw [if_neg (fun k => he k.1)]
    have hne : (e == 0) = false := by simpa using he
    rw [e1]
    clear e1 he
    go_enter Tryz.func154, Tryz.ntmps154
    go_wp2_with fail
    go_ret
    exact ⟨rfl, Keep.refl _ _, H.out⟩
/-- The document's source, as what is left. -/
def RSrcO (w : World) (g : Nat) : Option (List UInt8) → Prop
  | some l => RSrc w g l 0
  | none => ∃ l e, e ≠ 0 ∧ RSrc w g l e ∧ l.length < 1000000000
def RSrcORet (w : World) (g : Nat) (o : Option (List UInt8)) (v : Value) (e : Ending) (w' : World) : Prop := e = .returned v ∧ Keep (· = g) w w' ∧ RSrcO w' g o
theorem rhashO_of {w : World} {g : Nat} {o : Option (List UInt8)} (h : RSrcO w g o) (hlen : ∀ l, o = some l → l.length < 1000000000) : ∃ l e, RSrc w g l e ∧ l.length < 1000000000 ∧ (∀ w', RSrc w' g (takeS l e 32).1 (takeS l e 32).2 → RSrcO w' g (hashO o).2) ∧ ((takeV l e 32 = [] ∧ (hashO o).1 = zero32) ∨ ((takeV l e 32).length = 32 ∧ (hashO o).1 = takeV l e 32)) := by
  cases o with
  | none =>
    obtain ⟨l, e, he, hs, hl⟩ := h
    refine ⟨l, e, hs, hl, fun w' k => ?_, .inl ⟨?_, rfl⟩⟩
    · unfold takeS at k; rw [if_pos he] at k; exact ⟨l, e, he, k, hl⟩
    · unfold takeV; rw [if_pos he]
  | some l =>
    refine ⟨l, 0, h, hlen l rfl, fun w' k => ?_, ?_⟩
    · unfold takeS at k; rw [if_neg (by decide)] at k
      by_cases hl : l.length < 32
      · rw [if_pos hl] at k; rw [hashO_short hl]; exact ⟨[], 3, by decide, k, by simp⟩
      · rw [if_neg hl] at k; rw [hashO_long hl]; exact k
    · by_cases hl : l.length < 32
      · rw [hashO_short hl]; exact .inl ⟨by unfold takeV; rw [if_neg (by decide), if_pos hl], rfl⟩
      · rw [hashO_long hl]
        have e1 : takeV l 0 32 = l.take 32 := by unfold takeV; rw [if_neg (by decide), if_neg hl]
        refine .inr ⟨by rw [e1, List.length_take]; omega, by rw [e1]⟩
theorem cB_put {V : List UInt8} {i : Nat} (h : i < V.length) (h32 : V.length ≤ 32) : (cB 32 (V.take i)).setIfInBounds i (.int .u8 (V[i].toNat : Int)) = cB 32 (V.take (i + 1)) := by
  have hl : (V.take i).length = i := by rw [List.length_take]; omega
  have := cB_set 32 (V.take i) V[i] (by omega)
  rw [hl] at this
  rw [this, List.take_succ_eq_append_getElem h]
set_option maxHeartbeats 4000000 in
set_option maxRecDepth 100000 in
theorem rshash_any (w : World) (g : Nat) (o : Option (List UInt8)) (h : RSrcO w g o) (hlen : ∀ l, o = some l → l.length < 1000000000) : Calls Tryz.prog 153 #[.pointer (some ⟨g, 0, none⟩)] w (RSrcORet w g (hashO o).2 (.agg (c8 (hashO o).1))) := by
  obtain ⟨l, e, hs, hll, hpost, hv⟩ := rhashO_of h hlen
  have h32 := hashO_32 o
  obtain ⟨hh, hhh⟩ : ∃ x, x = (hashO o).1 := ⟨_, rfl⟩
  obtain ⟨oo, hoo⟩ : ∃ x, x = (hashO o).2 := ⟨_, rfl⟩
  rw [← hhh] at hv h32 ⊢
  rw [← hoo] at hpost ⊢
  obtain ⟨V, hV⟩ : ∃ V, V = takeV l e 32 := ⟨_, rfl⟩
  rw [← hV] at hv
  have HS := Lib.hid hs; have HP := Lib.hid hpost; have H32 := Lib.hid h32; have HLL := Lib.hid hll; have HVV := Lib.hid hV
  have HV : Hid (V.length ≤ 32 ∧ cB 32 V = c8 hh) := Lib.hid (by
    rcases hv with ⟨rfl, h2⟩ | ⟨h1, h2⟩
    · rw [h2]; exact ⟨by simp, by rw [← cB_full 32 zero32 zero32_length]; rfl⟩
    · rw [h2]; exact ⟨by omega, cB_full 32 V h1⟩)
  clear h hs hll hpost hv h32 hhh hoo hV hlen
  go_enter Tryz.func153, Tryz.ntmps153
  go_wp2_with (refine wpList_alloc_g rfl _ rfl _ _ Tryz.zeroHash rfl ?_)
  intro R w1 hR
  go_wp2_with (refine wpList_alloc_g rfl _ rfl _ _ Tryz.zeroHash rfl ?_)
  intro H w2 hH
  have HSlt : Hid (g < w.heap.size) := Lib.hid HS.out.lt
  have HNR : Hid (g < R) := Lib.hid (by have := hR.out.eq; have := HSlt.out; omega)
  have HNH : Hid (g < H) := Lib.hid (by have := hH.out.eq; have := hR.out.below.size; have := HSlt.out; omega)
  have HRH : Hid (R ≠ H) := Lib.hid (by have := hH.out.eq; have := heap_lt hR.out.cells; omega)
  have hRw : Hid (w.heap.size ≤ R ∧ w.heap.size ≤ H) := Lib.hid ⟨by have := hR.out.eq; omega, by have := hH.out.eq; have := hR.out.below.size; omega⟩
  have HR2 := Lib.hid (below_at2 hH.out.below hR.out.cells)
  have HH2 := Lib.hid hH.out.cells
  have hb2 : Below w.heap.size w w2 := hR.out.below.trans (hH.out.below.mono hR.out.below.size)
  have HB2 := Lib.hid hb2
  have HHL := Lib.hid (show H < w2.heap.size from heap_lt hH.out.cells)
  clear hR hH hb2
  go_wp2_with fail
  refine (rtake_any _ g l e 32 (HS.out.later HB2.out) HLL.out).mono ?_
  rintro r w4 ⟨v4, rfl, hk4, hs4, hr4, hn4⟩
  rw [← HVV.out] at hr4
  obtain ⟨ad4, cap4, rfl, _, _⟩ := hr4.shape
  obtain ⟨n4, hn⟩ : ∃ n, n = V.length := ⟨_, rfl⟩
  rw [← hn] at hr4 hn4 ⊢
  have HH4 := Lib.hid (hk4.at HH2.out (Nat.ne_of_gt HNH.out))
  have HR4 := Lib.hid (hk4.at HR2.out (Nat.ne_of_gt HNR.out))
  have HK4 := Lib.hid ((Keep.of_below HB2.out).then hk4 fun x hx => .inl hx)
  have HS4 := Lib.hid hs4; have HRD4 := Lib.hid hr4; have HN4 := Lib.hid hn
  have HON : Hid (∀ k, (Value.slice ad4 n4 cap4).ownBlock = some k → k ≠ H) := Lib.hid fun k hk => by have := hn4 k hk; have := HHL.out; omega
  clear hk4 hs4 hr4 hn4 hn HH2 HR2 HB2
  go_wp2_with fail
  go_loopw [9] (fun y wr => ∃ i : Nat, y = .int .i64 i ∧ i ≤ n4 ∧ Hid (wr.heap[H]? = some (.cells (cB 32 (V.take i)) 36 (0, 0))) ∧ Hid (wr.heap[R]? = some (.cells (cB 32 []) 36 (0, 0))) ∧ Hid (Keep (· = g) w wr) ∧ Hid (RSrc wr g (takeS l e 32).1 (takeS l e 32).2) ∧ Hid (Rd wr u8E 1 (.slice ad4 n4 cap4) V)) (fun y _ => n4 - (intOf y).toNat)
  case atStart => exact ⟨0, rfl, by omega, HH4, HR4, HK4, HS4, HRD4⟩
  case round =>
    clear HH4 HR4 HK4 HS4 HRD4
    obtain ⟨i, rfl, hin, HH4, HR4, HK4, HS4, HRD4⟩ := hrel
    by_cases hlt : i < n4
    · have hi : i < V.length := by rw [← HN4.out]; exact hlt
      have hi32 : i < 32 := by have := HV.out.1; omega
      obtain ⟨b, off, rfl, _, hc⟩ := HRD4.out.at i hi
      obtain ⟨X, hX⟩ : ∃ X, X = V[i] := ⟨_, rfl⟩
      have hput := cB_put hi HV.out.1
      rw [← hX] at hc hput
      have q : wr.cell? ⟨b, off + i, none⟩ = some (.int .u8 (X.toNat : Int)) := by simpa [byteV, u8E] using hc
      have HPUT := Lib.hid hput
      have HCS := Lib.hid (show i < (cB 32 (V.take i)).size by rw [cB_size 32 _ (by rw [List.length_take]; omega)]; exact hi32)
      clear hput hc hX hi
      go_wp2_with (refine wpList_store1_g rfl 5 _ _ rfl H i (.int .u8 (X.toNat : Int)) rfl rfl rfl rfl 36 _ HH4.out Tryz.sizeU8 HCS.out (cB 32 (V.take (i + 1))) HPUT.out ?_)
      intro w6 h6 k6 z6
      have HH6 := Lib.hid h6; have HR6 := Lib.hid (k6.at HR4.out HRH.out)
      have HK6 := Lib.hid (HK4.out.then k6 fun x hx => .inr (by have := hRw.out.2; omega))
      have HS6 := Lib.hid (HS4.out.keep k6 HNH.out)
      have HRD6 := Lib.hid (HRD4.out.keep k6 fun k hk _ => HON.out k hk)
      clear h6 k6 z6 q HCS HPUT HH4 HR4 HK4 HS4 HRD4
      go_wp2_with fail
      go_roundw
      case rel => exact ⟨i + 1, by go_num, hlt, HH6, HR6, HK6, HS6, HRD6⟩
      case measure => simp [intOf]; omega
    · have hiv : i = V.length := by have := HN4.out; omega
      have HH5 := Lib.hid (show wr.heap[H]? = some (.cells (c8 hh) 36 (0, 0)) by rw [← HV.out.2, ← List.take_length (l := V), ← hiv]; exact HH4.out)
      obtain rfl : i = n4 := by omega
      clear hiv HH4 hlt
      go_wp2_with (first
        | (refine wpList_load_row rfl 36 _ rfl H rfl 36 _ _ _ HH5.out Tryz.underlying36 rfl (Tryz.sizeHc hh H32.out) ?_)
        | (refine wpList_store_row_g (t := 36) (old := cB 32 []) rfl 36 _ _ rfl R (c8 hh) rfl rfl HR4.out (Tryz.sizeHc hh H32.out) (by rw [c8_size, H32.out]; rfl) (by rw [← cB_full 32 _ H32.out]; exact one_b _ _) ?_))
      intro w6 h6 k6 z6
      have H6 := Lib.hid h6
      have HK6 := Lib.hid (HK4.out.then k6 fun x hx => .inr (by have := hRw.out.1; omega))
      have HS6 := Lib.hid (HS4.out.keep k6 HNR.out)
      clear h6 k6 z6
      go_wp2_with fail
      exact bodyPost_ret (results_cell_row rfl _ _ R _ (c8 hh) _ _ rfl H6.out Tryz.underlying36 rfl (Tryz.sizeHc hh H32.out)) rfl ⟨rfl, HK6.out, HP.out _ HS6.out⟩
end
section
open Go.RowKit

theorem grp_none_end {l : List UInt8} {k : Nat} (h : grp 0 l = grp k (l.drop k)) (hk : l.length ≤ k) : varO (some l) = (0, none) := by
  rw [grp_end l k hk] at h
  unfold varO varR; simp only [h, Option.map_none]
theorem grp_none_nine {l : List UInt8} {k : Nat} (h : grp 0 l = grp k (l.drop k)) (hk : k < l.length) (h9 : k = 9) : varO (some l) = (0, none) := by
  rw [grp_at l k hk, if_pos h9] at h
  unfold varO varR; simp only [h, Option.map_none]
theorem grp_none_zero {l : List UInt8} {k : Nat} (h : grp 0 l = grp k (l.drop k)) (hk : k < l.length) (h9 : k ≠ 9) (hc : l[k].toNat < 128) (h0 : l[k] = 0 ∧ 0 < k) : varO (some l) = (0, none) := by
  rw [grp_at l k hk, if_neg h9, if_neg (by omega), if_pos h0] at h
  unfold varO varR; simp only [h, Option.map_none]
theorem grp_some_at {l : List UInt8} {k : Nat} (h : grp 0 l = grp k (l.drop k)) (hk : k < l.length) (h9 : k ≠ 9) (hc : l[k].toNat < 128) (h0 : ¬ (l[k] = 0 ∧ 0 < k)) : varO (some l) = (gval (l.take (k + 1)), some (l.drop (k + 1))) := by
  rw [grp_at l k hk, if_neg h9, if_neg (by omega), if_neg h0] at h
  unfold varO varR; simp only [h, Option.map_some]
theorem grp_next {l : List UInt8} {k : Nat} (h : grp 0 l = grp k (l.drop k)) (hk : k < l.length) (h9 : k ≠ 9) (hc : 128 ≤ l[k].toNat) : grp 0 l = grp (k + 1) (l.drop (k + 1)) := by
  rw [grp_at l k hk, if_neg h9, if_pos hc] at h
  exact h
theorem mul128 {N i k : Nat} (hN : N < 128) (hi : i < k) (hk : k ≤ 8) : IntKind.i64.wrap (((N * 128 ^ i : Nat) : Int) * 128) = ((N * 128 ^ (i + 1) : Nat) : Int) := by
  have h1 : 128 ^ i ≤ 128 ^ 7 := Nat.pow_le_pow_right (by omega) (by omega)
  have h2 : N * 128 ^ i ≤ 127 * 128 ^ 7 := Nat.mul_le_mul (by omega) h1
  have h3 : (127 : Nat) * 128 ^ 7 = 71494644084506624 := by decide
  have h4 : N * 128 ^ (i + 1) = N * 128 ^ i * 128 := by rw [Nat.pow_succ, Nat.mul_assoc]
  rw [h4]
  exact (IntWalk.i64_in _ (by omega)).trans (by omega)
set_option maxHeartbeats 16000000 in
set_option maxRecDepth 100000 in
theorem rsvar_any (w : World) (g : Nat) (o : Option (List UInt8)) (mo : Int) (hmo : 9223372036854775807 ≤ mo) (h : RSrcO w g o) (hlen : ∀ l, o = some l → l.length < 1000000000) : Calls Tryz.prog 152 #[.pointer (some ⟨g, 0, none⟩), .int .i64 mo] w (RSrcORet w g (varO o).2 (.int .i64 ((varO o).1 : Int))) := by
  have HMO := Lib.hid hmo
  clear hmo
  cases o with
  | none =>
    obtain ⟨l, e, he, hs, hl⟩ := h
    have HS := Lib.hid hs; have HE := Lib.hid he; have HL := Lib.hid hl
    obtain ⟨ad, m, cap, h1, _, _⟩ := hs
    have c1 : w.cell? ⟨g, 1, none⟩ = some (.int .i64 e) := Lib.cell_of_heap h1 1
    have hne : (e != 0) = true := by simpa using he
    clear h1 he hlen hl
    show Calls _ _ _ _ (RSrcORet w g none (.int .i64 0))
    go_enter Tryz.func152, Tryz.ntmps152
    go_wp2_with fail
    go_ret
    exact ⟨rfl, Keep.refl _ _, l, e, HE.out, HS.out, HL.out⟩
  | some l =>
    have HS := Lib.hid (show RSrc w g l 0 from h)
    have HL := Lib.hid (hlen l rfl)
    clear h hlen
    obtain ⟨R, hR⟩ : ∃ R, R = varO (some l) := ⟨_, rfl⟩
    rw [← hR]
    have HV := Lib.hid hR
    clear hR
    obtain ⟨ad, m, cap, h1, h2, h3⟩ := HS.out
    have hm : m = l.length := h2.size
    have HC := Lib.hid h1; have HRD := Lib.hid h2; have HO := Lib.hid h3; have HM := Lib.hid hm
    have c0 : w.cell? ⟨g, 0, none⟩ = some (.slice ad m cap) := Lib.cell_of_heap h1 0
    have c1 : w.cell? ⟨g, 1, none⟩ = some (.int .i64 0) := Lib.cell_of_heap h1 1
    clear h1 h2 h3 hm
    go_enter Tryz.func152, Tryz.ntmps152
    go_wp2_with fail
    clear c0 c1
    go_loopw [5, 6] (fun x y wr => ∃ k : Nat, x = .int .i64 (gval (l.take k) : Int) ∧ y = .int .i64 k ∧ k ≤ 9 ∧ k ≤ m ∧ Hid (grp 0 l = grp k (l.drop k)) ∧ w = wr) (fun _ y _ => 10 - (intOf y).toNat)
    case atStart => exact ⟨0, rfl, rfl, by omega, by omega, Lib.hid rfl, rfl⟩
    case round =>
      obtain ⟨k, rfl, rfl, hk9, hkm, HG, rfl⟩ := hrel
      have c0 : w.cell? ⟨g, 0, none⟩ = some (.slice ad m cap) := Lib.cell_of_heap HC.out 0
      by_cases hlt : k < m
      · have hkl : k < l.length := by have := HM.out; omega
        by_cases h9 : k = 9
        · have HVV := Lib.hid (show R = (0, none) by rw [HV.out]; exact grp_none_nine HG.out hkl h9)
          have e9 : ((k : Int) == 9) = true := by rw [h9]; rfl
          have hge : ¬ m ≤ k := by omega
          clear h9
          go_wp2_with fail
          refine (rwrong_any w g l 0 4 HS.out).mono ?_
          rintro r w2 ⟨rfl, hk, hs⟩
          have HK := Lib.hid hk; have HS2 := Lib.hid hs
          clear hk hs c0
          go_wp2_with fail
          go_ret
          exact ⟨by rw [HVV.out]; rfl, HK.out, by rw [HVV.out]; exact ⟨[], 4, by decide, HS2.out, by simp⟩⟩
        · have e9 : ((k : Int) == 9) = false := by simp; omega
          have hge : ¬ m ≤ k := by omega
          obtain ⟨b, off, rfl, _, hc⟩ := HRD.out.at k hkl
          have hgt := gval_take l k hkl
          have hlt2 := gval_take_lt l k
          have hlt3 := gval_take_lt l (k + 1)
          obtain ⟨N, hN⟩ : ∃ N, N = l[k].toNat := ⟨_, rfl⟩
          have hN2 : N < 256 := by rw [hN]; exact l[k].toNat_lt
          have q : w.cell? ⟨b, off + k, none⟩ = some (.int .u8 (N : Int)) := by rw [hN]; simpa [byteV, u8E] using hc
          rw [← hN] at hgt
          obtain ⟨G, hG⟩ : ∃ G, G = gval (l.take k) := ⟨_, rfl⟩
          rw [← hG] at hgt hlt2 ⊢
          obtain ⟨D, hD⟩ : ∃ D : Nat, D = N % 128 := ⟨_, rfl⟩
          have hmd : (N : Int).tmod 128 = (D : Int) := by rw [Int.tmod_eq_emod_of_nonneg (by omega)]; omega
          have hmd2 : (N : Int) % 128 = (D : Int) := by omega
          have hw8 : IntKind.u8.wrap (D : Int) = (D : Int) := by rw [IntKind.wrap_u8]; omega
          have HH9 := Lib.hid h9; have HNN := Lib.hid hN; have HGT := Lib.hid hgt; have HD2 := Lib.hid (show D < 128 by omega); have HDN := Lib.hid hD; have HKL := Lib.hid hkl
          have HPW := Lib.hid (show G + D * 128 ^ k < 9223372036854775808 by
            have hp : (128 : Nat) ^ (k + 1) ≤ 128 ^ 9 := Nat.pow_le_pow_right (by omega) (by omega)
            have h99 : (128 : Nat) ^ 9 = 9223372036854775808 := by decide
            rw [hgt, ← hD] at hlt3; omega)
          clear hc hN hG hgt hlt2 hlt3 hD h9
          go_wp2_with fail
          clear hmd hmd2 hw8
          go_loopw [7, 8] (fun x y wr2 => ∃ i : Nat, x = .int .i64 ((D * 128 ^ i : Nat) : Int) ∧ y = .int .i64 i ∧ i ≤ k ∧ w = wr2) (fun _ y _ => k - (intOf y).toNat)
          case atStart => exact ⟨0, by simp, rfl, by omega, rfl⟩
          case round =>
            obtain ⟨i, rfl, rfl, hik, rfl⟩ := hrel
            by_cases hi : i < k
            · have hml := mul128 HD2.out hi (by have := HH9.out; omega)
              obtain ⟨E, hE⟩ : ∃ E : Nat, E = D * 128 ^ i := ⟨_, rfl⟩
              obtain ⟨E2, hE2⟩ : ∃ E : Nat, E = D * 128 ^ (i + 1) := ⟨_, rfl⟩
              rw [← hE, ← hE2] at hml
              rw [← hE]
              have HE2 := Lib.hid hE2
              clear hE hE2
              go_wp2_with fail
              go_roundw
              case rel => exact ⟨i + 1, by rw [← HE2.out], by go_num, hi, by first | rfl | trivial⟩
              case measure => simp [intOf]; omega
            · obtain rfl : i = k := by omega
              obtain ⟨E, hE⟩ : ∃ E : Nat, E = D * 128 ^ i := ⟨_, rfl⟩
              rw [← hE]
              have hsum : IntKind.i64.wrap ((G : Int) + (E : Int)) = ((G + E : Nat) : Int) := (IntWalk.i64_in _ (by have := HPW.out; omega)).trans (by omega)
              have HGE := Lib.hid (show gval (l.take (i + 1)) = G + E by rw [HGT.out, ← HDN.out, hE])
              have HB := Lib.hid (show G + E < 9223372036854775808 by rw [hE]; exact HPW.out)
              obtain ⟨Q, hQ⟩ : ∃ Q : Nat, Q = G + E := ⟨_, rfl⟩
              rw [← hQ] at hsum HGE HB
              clear hE hQ
              by_cases hc : N < 128
              · by_cases hz : N = 0 ∧ 0 < i
                · have HVV := Lib.hid (show R = (0, none) by
                    rw [HV.out]
                    refine grp_none_zero HG.out HKL.out HH9.out (by rw [← HNN.out]; exact hc) ⟨?_, hz.2⟩
                    have := HNN.out; rw [hz.1] at this
                    exact UInt8.toNat_inj.1 this.symm)
                  obtain ⟨hz1, hz2⟩ := hz
                  have hzb : ((N : Int) == 0) = true := by simpa using hz1
                  have hz2' : decide (0 < (i : Int)) = true := decide_eq_true (by omega)
                  clear hz1
                  go_wp2_with fail
                  refine (rwrong_any w g l 0 4 HS.out).mono ?_
                  rintro r w2 ⟨rfl, hk, hs⟩
                  have HK := Lib.hid hk; have HS2 := Lib.hid hs
                  clear hk hs c0 q
                  go_wp2_with fail
                  go_ret
                  exact ⟨by rw [HVV.out]; rfl, HK.out, by rw [HVV.out]; exact ⟨[], 4, by decide, HS2.out, by simp⟩⟩
                · have HVV := Lib.hid (show R = (Q, some (l.drop (i + 1))) by
                    rw [HV.out, ← HGE.out]
                    refine grp_some_at HG.out HKL.out HH9.out (by rw [← HNN.out]; exact hc) fun hz3 => hz ⟨?_, hz3.2⟩
                    rw [HNN.out, hz3.1]; rfl)
                  have hmq : (mo < (Q : Int)) = False := eq_false (by have := HMO.out; have := HB.out; omega)
                  obtain ⟨vd, hd1, hd2, hd3⟩ := HRD.out.from Tryz.underlying100 (sz := 1) Tryz.sizeU8 (i + 1) HKL.out
                  obtain ⟨adv, capv, rfl, _, _⟩ := hd2.shape
                  obtain ⟨DL, hDL⟩ : ∃ x, x = (l.drop (i + 1)).length := ⟨_, rfl⟩
                  rw [← hDL] at hd1 hd2 hd3
                  replace hd1 : ∀ (w : World) (kl : IntKind), (Instr.slice 100 (.slice (some ⟨b, off, none⟩) m cap) (some (.int kl ((i : Int) + 1))) none none).run Tryz.prog w = .ok (.slice adv DL capv) w := fun w kl => by
                    have := hd1 w kl
                    rwa [show ((i + 1 : Nat) : Int) = (i : Int) + 1 by omega] at this
                  have HD2b := Lib.hid hd2; have HDO := Lib.hid (show ∀ k, (Value.slice adv DL capv).ownBlock = some k → l.drop (i + 1) ≠ [] → k < g from fun k h hne => HO.out k (hd3 k h) (fun e => hne (by rw [e]; simp)))
                  clear hd2 hd3 hDL
                  rcases (show i = 0 ∨ (N ≠ 0 ∧ 0 < i) by omega) with z2 | ⟨z1, z2⟩
                  · have zz : decide (0 < (i : Int)) = false := decide_eq_false (by omega)
                    have zp : ¬ 0 < i := by omega
                    clear z2 hz
                    go_wp2_with (refine wpList_store1_g rfl 100 _ _ rfl g 0 (.slice adv DL capv) rfl rfl rfl rfl 218 _ HC.out Tryz.sizeSl8 (by simp) #[.slice adv DL capv, .int .i64 0] rfl ?_)
                    intro w2 h2 k2 z2
                    have HC2 := Lib.hid h2; have HK2 := Lib.hid k2
                    clear h2 k2 z2 c0 q
                    go_wp2_with fail
                    go_ret
                    exact ⟨by rw [HVV.out]; rfl, HK2.out, by rw [HVV.out]; exact ⟨adv, DL, capv, HC2.out, HD2b.out.keep HK2.out (fun k h hne he => Nat.ne_of_lt (HDO.out k h hne) he), HDO.out⟩⟩
                  · have zb : ((N : Int) == 0) = false := by simpa using z1
                    have zz : decide (0 < (i : Int)) = true := decide_eq_true (by omega)
                    clear z1 hz
                    go_wp2_with (refine wpList_store1_g rfl 100 _ _ rfl g 0 (.slice adv DL capv) rfl rfl rfl rfl 218 _ HC.out Tryz.sizeSl8 (by simp) #[.slice adv DL capv, .int .i64 0] rfl ?_)
                    intro w2 h2 k2 z2
                    have HC2 := Lib.hid h2; have HK2 := Lib.hid k2
                    clear h2 k2 z2 c0 q
                    go_wp2_with fail
                    go_ret
                    exact ⟨by rw [HVV.out]; rfl, HK2.out, by rw [HVV.out]; exact ⟨adv, DL, capv, HC2.out, HD2b.out.keep HK2.out (fun k h hne he => Nat.ne_of_lt (HDO.out k h hne) he), HDO.out⟩⟩
              · have HGN := Lib.hid (grp_next HG.out HKL.out HH9.out (by rw [← HNN.out]; omega))
                have hc2 : ¬ N < 128 := hc
                go_wp2_with fail
                go_roundw
                case rel => exact ⟨i + 1, by rw [HGE.out], by go_num, by have := HH9.out; omega, by have := HM.out; have := HKL.out; omega, HGN, by first | rfl | trivial⟩
                case measure => simp [intOf]; omega
      · obtain rfl : k = m := by omega
        have HVV := Lib.hid (show R = (0, none) by rw [HV.out]; exact grp_none_end HG.out (by rw [← HM.out]; exact Nat.le_refl _))
        go_wp2_with fail
        refine (rwrong_any w g l 0 3 HS.out).mono ?_
        rintro r w2 ⟨rfl, hk, hs⟩
        have HK := Lib.hid hk; have HS2 := Lib.hid hs
        clear hk hs c0
        go_wp2_with fail
        go_ret
        exact ⟨by rw [HVV.out]; rfl, HK.out, by rw [HVV.out]; exact ⟨[], 3, by decide, HS2.out, by simp⟩⟩
end
end Go.Proofs.YtmclmccgghnglaaGreat
