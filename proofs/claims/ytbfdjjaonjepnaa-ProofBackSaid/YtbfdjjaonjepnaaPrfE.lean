/- proof.Check, tallageref07.Check. -/
import Derived.Test.YtbfdjjaonjepnaaPrfD
import Derived.Deep.Cut
namespace Go.Proofs.Ytbfdjjaonjepnaa
open Go.RowKit

/-- Check's answer. -/
def checkF (k : Int) (root leaf : List UInt8) (i : Int) (p : List (List UInt8)) : Int :=
  if k = 1 ∨ k = 2 then (if 10 < p.length then 19 else if i < 0 ∨ ((2 ^ p.length : Nat) : Int) ≤ i then 5 else if foldK k (leafK k leaf) i p = root then 0 else 15) else 2
theorem foldK_length (k : Int) (x : List UInt8) (hx : x.length = 32) (i : Int) (p : List (List UInt8)) : (foldK k x i p).length = 32 := foldAt_length k x hx _ p _

set_option maxRecDepth 100000 in
set_option maxHeartbeats 4000000 in
theorem pcheck_any (k i : Int) (root leaf : List UInt8) (p : List (List UInt8)) (vb vp : Value) (w : World) (hr : root.length = 32) (hb : Rd w u8E 1 vb leaf) (hl : leaf.length < 288230376151711744) (hp : Rd w hE 32 vp p) (h32 : All32 p) (hi64 : i < 9223372036854775808) :
    Calls Try.prog 67 #[.int .i64 k, .agg (c8 root), vb, .int .i64 i, vp] w (Ret w (.int .i64 (checkF k root leaf i p))) := by
  obtain ⟨ad, cap, rfl, hc1, hc2⟩ := hp.shape
  obtain ⟨bad, bcap, rfl, hd1, hd2⟩ := hb.shape
  obtain ⟨m, hm⟩ : ∃ m, m = p.length := ⟨_, rfl⟩
  obtain ⟨n, hn⟩ : ∃ n, n = leaf.length := ⟨_, rfl⟩
  rw [← hm] at hc1 hp ⊢
  rw [← hn] at hd1 hb hl ⊢
  have HP := Lib.hid hp; have HBR := Lib.hid hb; have H32 := Lib.hid h32; have HM := Lib.hid hm; have HN := Lib.hid hn; have HR := Lib.hid hr; have HI64 := Lib.hid hi64
  clear hp hb h32 hn hr hi64
  have hb1 : Below w.heap.size w (w.alloc (.cells (c8 root) 48)) := (Below.refl _ _).alloc (Nat.le_refl _) _
  have HB1 := Lib.hid hb1; clear hb1
  obtain ⟨z, hz⟩ : ∃ z, z = foldK k (leafK k leaf) i p := ⟨_, rfl⟩
  have hz32 : z.length = 32 := by rw [hz]; exact foldK_length _ _ (leafK_length _ _) _ _
  have HZ := Lib.hid hz; have HZ32 := Lib.hid hz32
  clear hz hz32
  obtain ⟨res, hres⟩ : ∃ res, res = checkF k root leaf i p := ⟨_, rfl⟩
  have HRES := Lib.hid hres; clear hres
  rcases kind_cases k with hk | hk | ⟨h1, h2⟩
  case inr.inr =>
    have he : checkF k root leaf i p = 2 := by unfold checkF; rw [if_neg (by omega)]
    rw [he]
    have b1 : (k != 1) = true := by simpa using h1
    have b2 : (k != 2) = true := by simpa using h2
    clear he hm
    go_enter Try.func67, Try.ntmps67
    go_wp2_with fail
    go_ret
    exact ⟨rfl, HB1.out⟩
  all_goals
    subst hk
    rcases Nat.lt_or_ge 10 m with h10 | h10
    · have he : ∀ k, (k = 1 ∨ k = 2) → checkF k root leaf i p = 19 := fun k hk => by unfold checkF; rw [if_pos hk, if_pos (by rw [← hm]; exact h10)]
      rw [he _ (by decide)]
      clear he hm
      have j1 : (m : Int) > 10 := by omega
      go_enter Try.func67, Try.ntmps67
      go_wp2_with fail
      go_ret
      exact ⟨rfl, HB1.out⟩
    · have j1 : ¬ (m : Int) > 10 := by omega
      obtain ⟨N, hN⟩ : ∃ N, N = 2 ^ m := ⟨_, rfl⟩
      have hN2 : N ≤ 1024 := by rw [hN]; exact Nat.le_trans (Nat.pow_le_pow_right (by omega) h10) (by decide)
      have hN3 : (2 : Int) ^ m = (N : Int) := by rw [hN]; simp
      have hw1 : IntKind.i64.wrap (N : Int) = (N : Int) := IntWalk.i64_in _ (by omega)
      by_cases hi : i < 0 ∨ (N : Int) ≤ i
      · have he : ∀ k, (k = 1 ∨ k = 2) → checkF k root leaf i p = 5 := fun k hk => by unfold checkF; rw [if_pos hk, if_neg (by rw [← hm]; omega), if_pos (by rw [← hm, ← hN]; exact hi)]
        rw [he _ (by decide)]
        clear he hm hN
        have hi2 : i < 0 ∨ (¬ i < 0 ∧ (N : Int) ≤ i) := by omega
        clear hi
        rcases hi2 with hi | ⟨hi, hi2⟩
        all_goals
          go_enter Try.func67, Try.ntmps67
          go_wp2_with fail
          go_ret
          exact ⟨rfl, HB1.out⟩
      · obtain ⟨i0, rfl⟩ : ∃ i0 : Nat, i = (i0 : Int) := ⟨i.toNat, by omega⟩
        have hi1 : ((i0 : Int) < 0) = False := eq_false (by omega)
        have hi2 : ¬ N ≤ i0 := by omega
        have hi3 : ¬ (N : Int) ≤ (i0 : Int) := by omega
        have he : ∀ k, (k = 1 ∨ k = 2) → checkF k root leaf i0 p = if foldK k (leafK k leaf) i0 p = root then 0 else 15 := fun k hk => by unfold checkF; rw [if_pos hk, if_neg (by rw [← hm]; omega), if_neg (by rw [← hm, ← hN]; exact hi)]
        rw [← HRES.out]
        have HE : Hid (res = if z = root then 0 else 15) := Lib.hid (by rw [HRES.out, HZ.out]; exact he _ (by decide))
        clear he hm hN hi
        go_enter Try.func67, Try.ntmps67
        go_upto_region 7 with fail
        have hg1 : (w.alloc (.cells (c8 root) 48)).heap[w.heap.size]? = some (.cells (c8 root) 48 (0, 0)) := heap_alloc_new _ _
        obtain ⟨w1, hw1'⟩ : ∃ w1, w1 = w.alloc (.cells (c8 root) 48) := ⟨_, rfl⟩
        rw [← hw1'] at hg1 HB1 ⊢
        clear hw1'
        have L : Hid (∀ w', Below w1.heap.size w1 w' → (Instr.loadAt 48 (.pointer (some ⟨w.heap.size, 0, none⟩))).run Try.prog w' = .ok (.agg (c8 root)) w') := Lib.hid fun w' e => by exact load_hash ((e.block _ (heap_lt hg1)).trans hg1) HR.out
        clear hg1
        have hS : Below w1.heap.size w1 w1.drew := (Below.refl _ _).drew
        refine wp_region_till (fun w' => Below w1.heap.size w1 w') 9 10 (by kernel_rfl) rfl ?_
        refine till_take 0 (some 33) rfl rfl (by kernel_rfl) (by kernel_rfl) (by kernel_rfl) (by kernel_rfl) (by kernel_rfl) (by kernel_rfl) (fun _ _ _ h => h) (.inl ⟨by rfl, fun w' _ => (by go_simp; rfl)⟩) hS ?_
        go_frame
        refine till_take 1 (some 34) rfl rfl (by kernel_rfl) (by kernel_rfl) (by kernel_rfl) (by kernel_rfl) (by kernel_rfl) (by kernel_rfl) (fun _ _ _ h => h) (.inl ⟨by rfl, fun w' _ => (by go_simp; rfl)⟩) hS ?_
        go_frame
        refine till_take 2 (some 35) rfl rfl (by kernel_rfl) (by kernel_rfl) (by kernel_rfl) (by kernel_rfl) (by kernel_rfl) (by kernel_rfl) (fun _ _ _ h => h) (.inl ⟨by rfl, fun w' _ => (by go_simp; rfl)⟩) hS ?_
        go_frame
        refine till_take 4 (some 37) rfl rfl (by kernel_rfl) (by kernel_rfl) (by kernel_rfl) (by kernel_rfl) (by kernel_rfl) (by kernel_rfl) (fun _ _ _ h => h) (.inl ⟨by rfl, fun w' _ => (by go_simp; rfl)⟩) hS ?_
        go_frame
        refine till_take 5 (some 38) rfl rfl (by kernel_rfl) (by kernel_rfl) (by kernel_rfl) (by kernel_rfl) (by kernel_rfl) (by kernel_rfl) (fun _ _ _ h => h) (.inl ⟨by rfl, fun w' _ => (by go_simp; rfl)⟩) hS ?_
        go_frame
        refine till_take 7 (some 40) rfl rfl (by kernel_rfl) (by kernel_rfl) (by kernel_rfl) (by kernel_rfl) (by kernel_rfl) (by kernel_rfl) (fun _ _ _ h => h) (yields_load (by rfl) 48 (.tmp 6) rfl (.pointer (some ⟨w.heap.size, 0, none⟩)) rfl _ L.out) hS ?_
        go_frame
        refine till_one 3 rfl (by kernel_rfl) fun K hK => ?_
        simp only [List.getElem_toArray, List.getElem_cons_succ, List.getElem_cons_zero]
        rw [if_pos (by rfl)]
        go_simp
        refine (mleaf_any _ leaf _ _ ((HBR.out.later HB1.out).later (Below.refl _ _).drew) (by rw [← HN.out]; exact hl)).mono ?_
        rintro e w2 ⟨rfl, hb2⟩
        have hS2 : Below w1.heap.size w1 w2 := hS.trans (hb2.mono hS.size)
        refine hK _ _ (fun _ _ => hS2) ?_
        clear hK hb2 hS
        refine till_one 6 rfl (by kernel_rfl) fun K hK => ?_
        simp only [List.getElem_toArray, List.getElem_cons_succ, List.getElem_cons_zero]
        rw [if_pos (by rfl)]
        go_simp
        refine (pfold_any _ i0 _ p _ _ (leafK_length _ _) ((HP.out.later HB1.out).later hS2) H32.out (by rw [← HM.out]; omega) HI64.out).mono ?_
        rintro e w3 ⟨rfl, hb3⟩
        have hS3 : Below w1.heap.size w1 w3 := hS2.trans (hb3.mono hS2.size)
        refine hK _ _ (fun _ _ => hS3) ?_
        clear hK hb3 hS2
        rw [← HZ.out]
        have heq := Try.eqH z root HZ32.out HR.out
        by_cases hzr : z = root
        · rw [decide_eq_true hzr] at heq
          have HZR := Lib.hid hzr; clear hzr
          refine till_take 8 (some 41) rfl rfl (by kernel_rfl) (by kernel_rfl) (by kernel_rfl) (by kernel_rfl) (by kernel_rfl) (by kernel_rfl) (fun _ _ _ h => h) (.inl ⟨by rfl, fun w' _ => (by go_simp; rfl)⟩) hS3 ?_
          go_frame
          refine till_one 9 rfl (by kernel_rfl) fun K hK => ?_
          simp only [List.getElem_toArray, List.getElem_cons_succ, List.getElem_cons_zero]
          rw [if_pos (by rfl)]
          go_simp
          refine hK _ _ (fun h => absurd rfl h) ?_
          clear hK heq
          refine till_done (by kernel_rfl) ?_ _
          have HS3 := Lib.hid hS3; clear hS3
          go_wp2_with fail
          go_ret
          exact ⟨by rw [HE.out, if_pos HZR.out]; rfl, HB1.out.trans (HS3.out.mono HB1.out.size)⟩
        · rw [decide_eq_false hzr] at heq
          have HZR := Lib.hid hzr; clear hzr
          refine till_take 8 (some 41) rfl rfl (by kernel_rfl) (by kernel_rfl) (by kernel_rfl) (by kernel_rfl) (by kernel_rfl) (by kernel_rfl) (fun _ _ _ h => h) (.inl ⟨by rfl, fun w' _ => (by go_simp; rfl)⟩) hS3 ?_
          go_frame
          refine till_one 9 rfl (by kernel_rfl) fun K hK => ?_
          simp only [List.getElem_toArray, List.getElem_cons_succ, List.getElem_cons_zero]
          rw [if_pos (by rfl)]
          go_simp
          refine hK _ _ (fun h => absurd rfl h) ?_
          clear hK heq
          refine till_done (by kernel_rfl) ?_ _
          have HS3 := Lib.hid hS3; clear hS3
          go_wp2_with fail
          go_ret
          exact ⟨by rw [HE.out, if_neg HZR.out]; rfl, HB1.out.trans (HS3.out.mono HB1.out.size)⟩
end Go.Proofs.Ytbfdjjaonjepnaa
