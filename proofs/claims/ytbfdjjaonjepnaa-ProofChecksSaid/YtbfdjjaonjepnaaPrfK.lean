/- tallagelaw07.ProofChecks: its walk. -/
import Derived.Test.YtbfdjjaonjepnaaOpenA
import Derived.Test.YtbfdjjaonjepnaaPrfC
namespace Go.Proofs.Ytbfdjjaonjepnaa
open Go.RowKit

/-- The cells of what is asked. -/
def askL (k : Int) (root : List UInt8) (vb : Value) (i : Int) (vp : Value) : List Value := .int .i64 k :: (root.map byteV ++ [vb, .int .i64 i, vp])
theorem ask_at {root : List UInt8} (h : root.length = 32) (k : Int) (vb : Value) (i : Int) (vp : Value) : (askL k root vb i vp)[0]? = some (.int .i64 k) ∧ (askL k root vb i vp)[33]? = some vb ∧ (askL k root vb i vp)[34]? = some (.int .i64 i) ∧ (askL k root vb i vp)[35]? = some vp := by
  have hl : (root.map byteV).length = 32 := by simpa using h
  unfold askL
  refine ⟨rfl, ?_, ?_, ?_⟩ <;>
  · rw [List.getElem?_cons_succ, List.getElem?_append_right (by omega), hl]; rfl
theorem ask_mid {root : List UInt8} (k : Int) (vb : Value) (i : Int) (vp : Value) (j : Nat) (u : Value) (h : (root.map byteV)[j]? = some u) : (askL k root vb i vp)[1 + j]? = some u := by
  unfold askL
  rw [Nat.add_comm, List.getElem?_cons_succ, List.getElem?_append_left (List.getElem?_eq_some_iff.1 h).1]; exact h
theorem rd_grew {α : Type} {en : α → List Value} {sz : Nat} {w w1 : World} {v : Value} {l : List α} {g : Nat} (hT : Rd w en sz v l) (hb : Below w.heap.size w w1) (hg : w.heap.size ≤ g) : ∀ w' a', Grew w1 g none w' a' → Rd w' en sz v l :=
  fun _ _ h => hT.later (hb.trans (h.below hb.size hg (fun _ h => by cases h)))
theorem checkNt_le (k : Int) (leaf : List UInt8) (i : Int) (p : List (List UInt8)) : (checkNt k leaf i p).length ≤ 1 + p.length := by
  unfold checkNt
  split
  · rw [List.length_append]
    have := leafN_le k leaf
    have := foldNt_le k (leafK k leaf) i.toNat p p.length
    omega
  · simp

set_option maxRecDepth 100000 in
set_option maxHeartbeats 8000000 in
theorem law_checks (k i : Int) (root leaf : List UInt8) (p : List (List UInt8)) (vb vp : Value) (w : World) (hr : root.length = 32) (hi64 : i < 9223372036854775808) (hb : Rd w u8E 1 vb leaf) (hp : Rd w hE 32 vp p) (h32 : All32 p) :
    Calls Try.prog 15 #[.agg (askL k root vb i vp).toArray] w (Ret w (.bool true)) := by
  obtain ⟨ad, cap, rfl, hc1, hc2⟩ := hp.shape
  obtain ⟨bad, bcap, rfl, hd1, hd2⟩ := hb.shape
  obtain ⟨m, hm⟩ : ∃ m, m = p.length := ⟨_, rfl⟩
  obtain ⟨n, hn⟩ : ∃ n, n = leaf.length := ⟨_, rfl⟩
  rw [← hm] at hc1 hp ⊢
  rw [← hn] at hd1 hb ⊢
  obtain ⟨cs, hcs⟩ : ∃ cs, cs = (askL k root (.slice bad n bcap) i (.slice ad m cap)).toArray := ⟨_, rfl⟩
  obtain ⟨q0, q33, q34, q35⟩ := ask_at hr k (.slice bad n bcap) i (.slice ad m cap)
  have qm := ask_mid (root := root) k (.slice bad n bcap) i (.slice ad m cap)
  have hcz : cs.size = 36 := by rw [hcs]; simp [askL, hr]
  have c0 : cs[0]? = some (.int .i64 k) := by rw [hcs]; simpa using q0
  have c33 : cs[33]? = some (.slice bad n bcap) := by rw [hcs]; simpa using q33
  have c34 : cs[34]? = some (.int .i64 i) := by rw [hcs]; simpa using q34
  have c35 : cs[35]? = some (.slice ad m cap) := by rw [hcs]; simpa using q35
  have cm : ∀ j u, (root.map byteV)[j]? = some u → cs[1 + j]? = some u := fun j u h => by rw [hcs]; simpa using qm j u h
  rw [← hcs]
  have HC0 := Lib.hid c0; have HC33 := Lib.hid c33; have HC34 := Lib.hid c34; have HC35 := Lib.hid c35; have HCM := Lib.hid cm
  have HBR := Lib.hid hb; have HP := Lib.hid hp; have H32 := Lib.hid h32; have HR := Lib.hid hr; have HI64 := Lib.hid hi64; have HM := Lib.hid hm; have HN := Lib.hid hn
  clear hcs q0 q33 q34 q35 qm hcz c0 c33 c34 c35 cm hb hp h32 hr hi64 hm hn
  obtain ⟨G, hG⟩ : ∃ G, G = w.heap.size := ⟨_, rfl⟩
  have hgg : (w.alloc (.cells cs 95)).heap[G]? = some (.cells cs 95 (0, 0)) := by rw [hG]; exact heap_alloc_new _ _
  have hb1 : Below w.heap.size w (w.alloc (.cells cs 95)) := (Below.refl _ _).alloc (Nat.le_refl _) _
  have HGG := Lib.hid hgg; have HB1 := Lib.hid hb1; have HG := Lib.hid hG
  clear hgg hb1
  go_enter Try.func15, Try.ntmps15
  go_upto_region 1 with fail
  rw [← hG]
  clear hG
  obtain ⟨w1, hw1⟩ : ∃ w1, w1 = w.alloc (.cells cs 95) := ⟨_, rfl⟩
  rw [← hw1] at HGG HB1 ⊢
  clear hw1
  have cell : ∀ (w' : World), w'.heap[G]? = some (.cells cs 95 (0, 0)) → w'.cell? ⟨G, 0, none⟩ = some (.int .i64 k) ∧ w'.cell? ⟨G, 33, none⟩ = some (.slice bad n bcap) ∧ w'.cell? ⟨G, 34, none⟩ = some (.int .i64 i) ∧ w'.cell? ⟨G, 35, none⟩ = some (.slice ad m cap) := fun w' h =>
    ⟨(Lib.cell_of_heap h 0).trans HC0.out, (Lib.cell_of_heap h 33).trans HC33.out, (Lib.cell_of_heap h 34).trans HC34.out, (Lib.cell_of_heap h 35).trans HC35.out⟩
  have HCELL := Lib.hid cell
  obtain ⟨d0, d33, d34, d35⟩ := cell w1 HGG.out
  clear cell
  by_cases hn5 : 500 < n
  · have j1 : (n : Int) > 500 := by omega
    go_wp2_with fail
    refine (lives07_any _).mono ?_
    rintro e w2 ⟨rfl, hb2⟩
    go_wp2_with fail
    go_ret
    exact ⟨rfl, HB1.out.trans (hb2.mono HB1.out.size)⟩
  · have j1 : ¬ (n : Int) > 500 := by omega
    by_cases hm20 : 20 < m
    · have j2 : (m : Int) > 20 := by omega
      go_wp2_with fail
      refine (lives07_any _).mono ?_
      rintro e w2 ⟨rfl, hb2⟩
      go_wp2_with fail
      go_ret
      exact ⟨rfl, HB1.out.trans (hb2.mono HB1.out.size)⟩
    · have j2 : ¬ (m : Int) > 20 := by omega
      go_upto_region 4 with fail
      clear d0 d33 d34 d35
      obtain ⟨g, hg⟩ : ∃ g, g = w1.heap.size := ⟨_, rfl⟩
      rw [← hg]
      have hgw : w.heap.size ≤ g := by rw [hg]; exact HB1.out.size
      have hb12 : Below w1.heap.size w1 (w1.alloc (.cells #[.slice none 0 0] 70)) := (Below.refl _ _).alloc (Nat.le_refl _) _
      have ht2 : Tr (w1.alloc (.cells #[.slice none 0 0] 70)) g none [] := tr_new (by rw [hg]; exact heap_alloc_new _ _)
      have hgg2 := (hb12.block G (heap_lt HGG.out)).trans HGG.out
      obtain ⟨w2, hw2⟩ : ∃ w2, w2 = w1.alloc (.cells #[.slice none 0 0] 70) := ⟨_, rfl⟩
      rw [← hw2] at hb12 ht2 hgg2 ⊢
      clear hw2 hg
      have hbd : Below w.heap.size w w2.drew := (HB1.out.trans (hb12.mono HB1.out.size)).drew
      have HBD := Lib.hid hbd; have HTD := Lib.hid (ht2.later (Below.refl _ _).drew)
      have hS : w2.drew.heap[G]? = some (.cells cs 95 (0, 0)) := hgg2
      clear hb12 ht2 hgg2 hbd
      have C0 : Hid (∀ w' : World, w'.heap[G]? = some (.cells cs 95 (0, 0)) → w'.cell? ⟨G, 0, none⟩ = _) := Lib.hid fun w' h => (HCELL.out w' h).1
      have C33 : Hid (∀ w' : World, w'.heap[G]? = some (.cells cs 95 (0, 0)) → w'.cell? ⟨G, 33, none⟩ = _) := Lib.hid fun w' h => (HCELL.out w' h).2.1
      have C34 : Hid (∀ w' : World, w'.heap[G]? = some (.cells cs 95 (0, 0)) → w'.cell? ⟨G, 34, none⟩ = _) := Lib.hid fun w' h => (HCELL.out w' h).2.2.1
      have C35 : Hid (∀ w' : World, w'.heap[G]? = some (.cells cs 95 (0, 0)) → w'.cell? ⟨G, 35, none⟩ = _) := Lib.hid fun w' h => (HCELL.out w' h).2.2.2
      have LR : Hid (∀ w' : World, w'.heap[G]? = some (.cells cs 95 (0, 0)) → (Instr.loadAt 48 (.pointer (some ⟨G, 1, none⟩))).run Try.prog w' = .ok (.agg (c8 root)) w') := Lib.hid fun w' h =>
        run_loadAt_mid w' G 1 48 _ _ (fun j u hj => (Lib.cell_of_heap h (1 + j)).trans (HCM.out j u hj)) Try.underlying48 rfl (Try.sizeHm _ HR.out)
      have hBg := rd_grew HBR.out HBD.out hgw
      have hPg := rd_grew HP.out HBD.out hgw
      have HBG := Lib.hid hBg; have HPG := Lib.hid hPg
      clear hBg hPg
      refine wp_region_till (fun w' => w'.heap[G]? = some (.cells cs 95 (0, 0))) 49 50 (by kernel_rfl) rfl ?_
      refine till_take 0 (some 17) rfl rfl (by kernel_rfl) (by kernel_rfl) (by kernel_rfl) (by kernel_rfl) (by kernel_rfl) (by kernel_rfl) (fun _ _ _ h => h) (.inl ⟨by rfl, fun w' _ => (by go_simp; rfl)⟩) hS ?_
      go_frame
      refine till_take 1 (some 18) rfl rfl (by kernel_rfl) (by kernel_rfl) (by kernel_rfl) (by kernel_rfl) (by kernel_rfl) (by kernel_rfl) (fun _ _ _ h => h) (.inl ⟨by rfl, fun w' hS' => (by have hc := C0.out w' hS'; go_simp; rfl)⟩) hS ?_
      go_frame
      refine till_take 2 (some 19) rfl rfl (by kernel_rfl) (by kernel_rfl) (by kernel_rfl) (by kernel_rfl) (by kernel_rfl) (by kernel_rfl) (fun _ _ _ h => h) (.inl ⟨by rfl, fun w' _ => (by go_simp; rfl)⟩) hS ?_
      go_frame
      refine till_take 3 (some 20) rfl rfl (by kernel_rfl) (by kernel_rfl) (by kernel_rfl) (by kernel_rfl) (by kernel_rfl) (by kernel_rfl) (fun _ _ _ h => h) (yields_load (by rfl) 48 (.tmp 19) rfl (.pointer (some ⟨G, 1, none⟩)) rfl _ LR.out) hS ?_
      go_frame
      refine till_take 4 (some 21) rfl rfl (by kernel_rfl) (by kernel_rfl) (by kernel_rfl) (by kernel_rfl) (by kernel_rfl) (by kernel_rfl) (fun _ _ _ h => h) (.inl ⟨by rfl, fun w' _ => (by go_simp; rfl)⟩) hS ?_
      go_frame
      refine till_take 5 (some 22) rfl rfl (by kernel_rfl) (by kernel_rfl) (by kernel_rfl) (by kernel_rfl) (by kernel_rfl) (by kernel_rfl) (fun _ _ _ h => h) (.inl ⟨by rfl, fun w' hS' => (by have hc := C33.out w' hS'; go_simp; rfl)⟩) hS ?_
      go_frame
      refine till_take 6 (some 23) rfl rfl (by kernel_rfl) (by kernel_rfl) (by kernel_rfl) (by kernel_rfl) (by kernel_rfl) (by kernel_rfl) (fun _ _ _ h => h) (.inl ⟨by rfl, fun w' _ => (by go_simp; rfl)⟩) hS ?_
      go_frame
      refine till_take 7 (some 24) rfl rfl (by kernel_rfl) (by kernel_rfl) (by kernel_rfl) (by kernel_rfl) (by kernel_rfl) (by kernel_rfl) (fun _ _ _ h => h) (.inl ⟨by rfl, fun w' hS' => (by have hc := C34.out w' hS'; go_simp; rfl)⟩) hS ?_
      go_frame
      refine till_take 8 (some 25) rfl rfl (by kernel_rfl) (by kernel_rfl) (by kernel_rfl) (by kernel_rfl) (by kernel_rfl) (by kernel_rfl) (fun _ _ _ h => h) (.inl ⟨by rfl, fun w' _ => (by go_simp; rfl)⟩) hS ?_
      go_frame
      refine till_take 9 (some 26) rfl rfl (by kernel_rfl) (by kernel_rfl) (by kernel_rfl) (by kernel_rfl) (by kernel_rfl) (by kernel_rfl) (fun _ _ _ h => h) (.inl ⟨by rfl, fun w' hS' => (by have hc := C35.out w' hS'; go_simp; rfl)⟩) hS ?_
      go_frame
      refine till_take 11 (some 28) rfl rfl (by kernel_rfl) (by kernel_rfl) (by kernel_rfl) (by kernel_rfl) (by kernel_rfl) (by kernel_rfl) (fun _ _ _ h => h) (.inl ⟨by rfl, fun w' _ => (by go_simp; rfl)⟩) hS ?_
      go_frame
      refine till_take 12 (some 29) rfl rfl (by kernel_rfl) (by kernel_rfl) (by kernel_rfl) (by kernel_rfl) (by kernel_rfl) (by kernel_rfl) (fun _ _ _ h => h) (.inl ⟨by rfl, fun w' _ => (by go_simp; rfl)⟩) hS ?_
      go_frame
      refine till_take 13 (some 30) rfl rfl (by kernel_rfl) (by kernel_rfl) (by kernel_rfl) (by kernel_rfl) (by kernel_rfl) (by kernel_rfl) (fun _ _ _ h => h) (.inl ⟨by rfl, fun w' hS' => (by have hc := C0.out w' hS'; go_simp; rfl)⟩) hS ?_
      go_frame
      refine till_take 14 (some 31) rfl rfl (by kernel_rfl) (by kernel_rfl) (by kernel_rfl) (by kernel_rfl) (by kernel_rfl) (by kernel_rfl) (fun _ _ _ h => h) (.inl ⟨by rfl, fun w' _ => (by go_simp; rfl)⟩) hS ?_
      go_frame
      refine till_take 15 (some 32) rfl rfl (by kernel_rfl) (by kernel_rfl) (by kernel_rfl) (by kernel_rfl) (by kernel_rfl) (by kernel_rfl) (fun _ _ _ h => h) (yields_load (by rfl) 48 (.tmp 31) rfl (.pointer (some ⟨G, 1, none⟩)) rfl _ LR.out) hS ?_
      go_frame
      refine till_take 16 (some 33) rfl rfl (by kernel_rfl) (by kernel_rfl) (by kernel_rfl) (by kernel_rfl) (by kernel_rfl) (by kernel_rfl) (fun _ _ _ h => h) (.inl ⟨by rfl, fun w' _ => (by go_simp; rfl)⟩) hS ?_
      go_frame
      refine till_take 17 (some 34) rfl rfl (by kernel_rfl) (by kernel_rfl) (by kernel_rfl) (by kernel_rfl) (by kernel_rfl) (by kernel_rfl) (fun _ _ _ h => h) (.inl ⟨by rfl, fun w' hS' => (by have hc := C33.out w' hS'; go_simp; rfl)⟩) hS ?_
      go_frame
      refine till_take 18 (some 35) rfl rfl (by kernel_rfl) (by kernel_rfl) (by kernel_rfl) (by kernel_rfl) (by kernel_rfl) (by kernel_rfl) (fun _ _ _ h => h) (.inl ⟨by rfl, fun w' _ => (by go_simp; rfl)⟩) hS ?_
      go_frame
      refine till_take 19 (some 36) rfl rfl (by kernel_rfl) (by kernel_rfl) (by kernel_rfl) (by kernel_rfl) (by kernel_rfl) (by kernel_rfl) (fun _ _ _ h => h) (.inl ⟨by rfl, fun w' hS' => (by have hc := C34.out w' hS'; go_simp; rfl)⟩) hS ?_
      go_frame
      refine till_take 20 (some 37) rfl rfl (by kernel_rfl) (by kernel_rfl) (by kernel_rfl) (by kernel_rfl) (by kernel_rfl) (by kernel_rfl) (fun _ _ _ h => h) (.inl ⟨by rfl, fun w' _ => (by go_simp; rfl)⟩) hS ?_
      go_frame
      refine till_take 21 (some 38) rfl rfl (by kernel_rfl) (by kernel_rfl) (by kernel_rfl) (by kernel_rfl) (by kernel_rfl) (by kernel_rfl) (fun _ _ _ h => h) (.inl ⟨by rfl, fun w' hS' => (by have hc := C35.out w' hS'; go_simp; rfl)⟩) hS ?_
      go_frame
      refine till_one 10 rfl (by kernel_rfl) fun K hK => ?_
      simp only [List.getElem_toArray, List.getElem_cons_succ, List.getElem_cons_zero]
      rw [if_pos (by rfl)]
      go_simp
      refine (pcheck_any k i root leaf p _ _ _ HR.out (HBG.out _ none (Grew.of_below g none (Below.refl _ _))) (by rw [← HN.out]; omega) (HPG.out _ none (Grew.of_below g none (Below.refl _ _))) H32.out HI64.out).mono ?_
      rintro e w3 ⟨rfl, hb3⟩
      have hS3 := (hb3.block G (heap_lt hS)).trans hS
      refine hK _ _ (fun _ _ => hS3) ?_
      have HT3 := Lib.hid (HTD.out.later hb3); have HG3 := Lib.hid (Grew.of_below g none hb3)
      obtain ⟨res, hres⟩ : ∃ res, res = checkF k root leaf i p := ⟨_, rfl⟩
      rw [← hres]
      have HRES := Lib.hid hres
      clear hK hS hb3 hres
      refine till_one 22 rfl (by kernel_rfl) fun K hK => ?_
      simp only [List.getElem_toArray, List.getElem_cons_succ, List.getElem_cons_zero]
      rw [if_pos (by rfl)]
      go_simp
      refine (tcheck_any w3 g none [] k i root leaf p _ _ HR.out (fun w' a' h => HBG.out w' a' (HG3.out.trans h)) (by rw [← HN.out]; omega) (fun w' a' h => HPG.out w' a' (HG3.out.trans h)) HT3.out H32.out (by simp) HI64.out).mono ?_
      rintro e w4 ⟨rfl, a4, ht4, hg4⟩
      rw [← HRES.out]
      have hS := tr_other HT3.out hg4 hS3 (by decide)
      refine hK _ _ (fun _ _ => hS) ?_
      have HT4 := Lib.hid ht4; have HG4 := Lib.hid (HG3.out.trans hg4)
      clear hK hS3 ht4 hg4
      refine till_take 23 (some 40) rfl rfl (by kernel_rfl) (by kernel_rfl) (by kernel_rfl) (by kernel_rfl) (by kernel_rfl) (by kernel_rfl) (fun _ _ _ h => h) (.inl ⟨by rfl, fun w' _ => (by go_simp; rfl)⟩) hS ?_
      go_frame
      refine till_take 24 (some 41) rfl rfl (by kernel_rfl) (by kernel_rfl) (by kernel_rfl) (by kernel_rfl) (by kernel_rfl) (by kernel_rfl) (fun _ _ _ h => h) (.inl ⟨by rfl, fun w' _ => (by go_simp; rfl)⟩) hS ?_
      go_frame
      refine till_take 25 (some 42) rfl rfl (by kernel_rfl) (by kernel_rfl) (by kernel_rfl) (by kernel_rfl) (by kernel_rfl) (by kernel_rfl) (fun _ _ _ h => h) (.inl ⟨by rfl, fun w' _ => (by go_simp; rfl)⟩) hS ?_
      go_frame
      refine till_take 26 (some 43) rfl rfl (by kernel_rfl) (by kernel_rfl) (by kernel_rfl) (by kernel_rfl) (by kernel_rfl) (by kernel_rfl) (fun _ _ _ h => h) (.inl ⟨by rfl, fun w' hS' => (by have hc := C0.out w' hS'; go_simp; rfl)⟩) hS ?_
      go_frame
      refine till_take 27 (some 44) rfl rfl (by kernel_rfl) (by kernel_rfl) (by kernel_rfl) (by kernel_rfl) (by kernel_rfl) (by kernel_rfl) (fun _ _ _ h => h) (.inl ⟨by rfl, fun w' _ => (by go_simp; rfl)⟩) hS ?_
      go_frame
      refine till_take 28 (some 45) rfl rfl (by kernel_rfl) (by kernel_rfl) (by kernel_rfl) (by kernel_rfl) (by kernel_rfl) (by kernel_rfl) (fun _ _ _ h => h) (yields_load (by rfl) 48 (.tmp 44) rfl (.pointer (some ⟨G, 1, none⟩)) rfl _ LR.out) hS ?_
      go_frame
      refine till_take 29 (some 46) rfl rfl (by kernel_rfl) (by kernel_rfl) (by kernel_rfl) (by kernel_rfl) (by kernel_rfl) (by kernel_rfl) (fun _ _ _ h => h) (.inl ⟨by rfl, fun w' _ => (by go_simp; rfl)⟩) hS ?_
      go_frame
      refine till_take 30 (some 47) rfl rfl (by kernel_rfl) (by kernel_rfl) (by kernel_rfl) (by kernel_rfl) (by kernel_rfl) (by kernel_rfl) (fun _ _ _ h => h) (.inl ⟨by rfl, fun w' hS' => (by have hc := C34.out w' hS'; go_simp; rfl)⟩) hS ?_
      go_frame
      refine till_take 31 (some 48) rfl rfl (by kernel_rfl) (by kernel_rfl) (by kernel_rfl) (by kernel_rfl) (by kernel_rfl) (by kernel_rfl) (fun _ _ _ h => h) (.inl ⟨by rfl, fun w' _ => (by go_simp; rfl)⟩) hS ?_
      go_frame
      refine till_take 32 (some 49) rfl rfl (by kernel_rfl) (by kernel_rfl) (by kernel_rfl) (by kernel_rfl) (by kernel_rfl) (by kernel_rfl) (fun _ _ _ h => h) (.inl ⟨by rfl, fun w' hS' => (by have hc := C35.out w' hS'; go_simp; rfl)⟩) hS ?_
      go_frame
      refine till_take 34 (some 51) rfl rfl (by kernel_rfl) (by kernel_rfl) (by kernel_rfl) (by kernel_rfl) (by kernel_rfl) (by kernel_rfl) (fun _ _ _ h => h) (.inl ⟨by rfl, fun w' _ => (by go_simp; rfl)⟩) hS ?_
      go_frame
      refine till_take 35 (some 52) rfl rfl (by kernel_rfl) (by kernel_rfl) (by kernel_rfl) (by kernel_rfl) (by kernel_rfl) (by kernel_rfl) (fun _ _ _ h => h) (.inl ⟨by rfl, fun w' _ => (by go_simp; rfl)⟩) hS ?_
      go_frame
      refine till_take 36 (some 53) rfl rfl (by kernel_rfl) (by kernel_rfl) (by kernel_rfl) (by kernel_rfl) (by kernel_rfl) (by kernel_rfl) (fun _ _ _ h => h) (.inl ⟨by rfl, fun w' hS' => (by have hc := C0.out w' hS'; go_simp; rfl)⟩) hS ?_
      go_frame
      refine till_take 37 (some 54) rfl rfl (by kernel_rfl) (by kernel_rfl) (by kernel_rfl) (by kernel_rfl) (by kernel_rfl) (by kernel_rfl) (fun _ _ _ h => h) (.inl ⟨by rfl, fun w' _ => (by go_simp; rfl)⟩) hS ?_
      go_frame
      refine till_take 38 (some 55) rfl rfl (by kernel_rfl) (by kernel_rfl) (by kernel_rfl) (by kernel_rfl) (by kernel_rfl) (by kernel_rfl) (fun _ _ _ h => h) (yields_load (by rfl) 48 (.tmp 54) rfl (.pointer (some ⟨G, 1, none⟩)) rfl _ LR.out) hS ?_
      go_frame
      refine till_take 39 (some 56) rfl rfl (by kernel_rfl) (by kernel_rfl) (by kernel_rfl) (by kernel_rfl) (by kernel_rfl) (by kernel_rfl) (fun _ _ _ h => h) (.inl ⟨by rfl, fun w' _ => (by go_simp; rfl)⟩) hS ?_
      go_frame
      refine till_take 40 (some 57) rfl rfl (by kernel_rfl) (by kernel_rfl) (by kernel_rfl) (by kernel_rfl) (by kernel_rfl) (by kernel_rfl) (fun _ _ _ h => h) (.inl ⟨by rfl, fun w' hS' => (by have hc := C34.out w' hS'; go_simp; rfl)⟩) hS ?_
      go_frame
      refine till_take 41 (some 58) rfl rfl (by kernel_rfl) (by kernel_rfl) (by kernel_rfl) (by kernel_rfl) (by kernel_rfl) (by kernel_rfl) (fun _ _ _ h => h) (.inl ⟨by rfl, fun w' _ => (by go_simp; rfl)⟩) hS ?_
      go_frame
      refine till_take 42 (some 59) rfl rfl (by kernel_rfl) (by kernel_rfl) (by kernel_rfl) (by kernel_rfl) (by kernel_rfl) (by kernel_rfl) (fun _ _ _ h => h) (.inl ⟨by rfl, fun w' hS' => (by have hc := C35.out w' hS'; go_simp; rfl)⟩) hS ?_
      go_frame
      refine till_one 33 rfl (by kernel_rfl) fun K hK => ?_
      simp only [List.getElem_toArray, List.getElem_cons_succ, List.getElem_cons_zero]
      rw [if_pos (by rfl)]
      go_simp
      refine (pfold_any k i root p _ _ HR.out (HPG.out _ _ HG4.out) H32.out (by rw [← HM.out]; omega) HI64.out).mono ?_
      rintro e w5 ⟨rfl, hb5⟩
      have hS5 := (hb5.block G (heap_lt hS)).trans hS
      refine hK _ _ (fun _ _ => hS5) ?_
      have HT5 := Lib.hid (HT4.out.later hb5); have HG5 := Lib.hid (HG4.out.trans (Grew.of_below g a4 hb5))
      obtain ⟨z, hz⟩ : ∃ z, z = foldK k root i p := ⟨_, rfl⟩
      have hz32 : z.length = 32 := by rw [hz]; exact foldK_length _ _ HR.out _ _
      rw [← hz]
      have HZ := Lib.hid hz; have HZ32 := Lib.hid hz32
      clear hK hS hb5 hz hz32
      refine till_one 43 rfl (by kernel_rfl) fun K hK => ?_
      simp only [List.getElem_toArray, List.getElem_cons_succ, List.getElem_cons_zero]
      rw [if_pos (by rfl)]
      go_simp
      refine (tfold_any w5 g a4 _ k i root p _ HR.out (fun w' a' h => HPG.out w' a' (HG5.out.trans h)) HT5.out H32.out (by rw [← HM.out]; omega) (by rw [List.nil_append]; have := checkNt_le k leaf i p; have := HM.out; omega) HI64.out).mono ?_
      rintro e w6 ⟨rfl, a6, ht6, hg6⟩
      rw [← HZ.out]
      have hS := tr_other HT5.out hg6 hS5 (by decide)
      refine hK _ _ (fun _ _ => hS) ?_
      have HG6 := Lib.hid (HG5.out.trans hg6)
      clear hK hS5 ht6 hg6
      have heq := Try.eqH z z HZ32.out HZ32.out
      rw [decide_eq_true (rfl : z = z)] at heq
      refine till_take 44 (some 61) rfl rfl (by kernel_rfl) (by kernel_rfl) (by kernel_rfl) (by kernel_rfl) (by kernel_rfl) (by kernel_rfl) (fun _ _ _ h => h) (.inl ⟨by rfl, fun w' _ => (by go_simp; rfl)⟩) hS ?_
      go_frame
      clear heq
      refine till_take 45 (some 62) rfl rfl (by kernel_rfl) (by kernel_rfl) (by kernel_rfl) (by kernel_rfl) (by kernel_rfl) (by kernel_rfl) (fun _ _ _ h => h) (.inl ⟨by rfl, fun w' _ => (by go_simp; rfl)⟩) hS ?_
      go_frame
      refine till_take 46 (some 63) rfl rfl (by kernel_rfl) (by kernel_rfl) (by kernel_rfl) (by kernel_rfl) (by kernel_rfl) (by kernel_rfl) (fun _ _ _ h => h) (.inl ⟨by rfl, fun w' _ => (by go_simp; rfl)⟩) hS ?_
      go_frame
      refine till_one 47 rfl (by kernel_rfl) fun K hK => ?_
      simp only [List.getElem_toArray, List.getElem_cons_succ, List.getElem_cons_zero]
      rw [if_pos (by rfl)]
      go_simp
      refine (lives07_any _).mono ?_
      rintro e w7 ⟨rfl, hb7⟩
      have hS7 := (hb7.block G (heap_lt hS)).trans hS
      refine hK _ _ (fun _ _ => hS7) ?_
      have hbe6 := HBD.out.trans (HG6.out.below HBD.out.size hgw (fun _ h => by cases h))
      have HBE := Lib.hid (hbe6.trans (hb7.mono hbe6.size))
      clear hK hb7 hS hbe6
      have hS := hS7
      clear hS7
      refine till_take 48 (some 65) rfl rfl (by kernel_rfl) (by kernel_rfl) (by kernel_rfl) (by kernel_rfl) (by kernel_rfl) (by kernel_rfl) (fun _ _ _ h => h) (.inl ⟨by rfl, fun w' _ => (by go_simp; rfl)⟩) hS ?_
      go_frame
      refine till_one 49 rfl (by kernel_rfl) fun K hK => ?_
      simp only [List.getElem_toArray, List.getElem_cons_succ, List.getElem_cons_zero]
      rw [if_pos (by rfl)]
      go_simp
      refine hK _ _ (fun h => absurd rfl h) ?_
      clear hK hS
      refine till_done (by kernel_rfl) ?_ _
      go_wp2_with fail
      go_ret
      exact ⟨rfl, HBE.out⟩
end Go.Proofs.Ytbfdjjaonjepnaa
