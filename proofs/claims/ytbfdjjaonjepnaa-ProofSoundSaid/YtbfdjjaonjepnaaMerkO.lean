/- tallagelaw06.same. -/
import Derived.Test.YtbfdjjaonjepnaaMerkN
namespace Go.Proofs.Ytbfdjjaonjepnaa
open Go.RowKit

theorem RowsAt.at {w : World} {ad : Option Addr} {n cap : Nat} {rows : List (List (List UInt8))} (h : RowsAt w (.slice ad n cap) rows) (i : Nat) (hi : i < rows.length) :
    ∃ b off u, ad = some ⟨b, off, none⟩ ∧ b < w.heap.size ∧ w.cell? ⟨b, off + i, none⟩ = some u ∧ Rd w hE 32 u rows[i] := by
  obtain ⟨vs, h1, h2, h3⟩ := h
  obtain ⟨b, off, h4, h5, h6⟩ := h1.at i (by omega)
  exact ⟨b, off, vs[i], h4, h5, h6, h3 i _ _ (List.getElem?_eq_getElem (by omega)) (List.getElem?_eq_getElem hi)⟩
theorem RowsAt.shape {w : World} {v : Value} {rows : List (List (List UInt8))} (h : RowsAt w v rows) : ∃ ad cap, v = .slice ad rows.length cap ∧ rows.length ≤ cap ∧ cap ≤ 9223372036854775807 := by
  obtain ⟨vs, h1, h2, _⟩ := h
  rw [← h2]; exact h1.shape
theorem RowsAt.nil (w : World) : RowsAt w (.slice none 0 0) [] := ⟨[], Rd.nil _ _ _, rfl, fun i u r p _ => by simp at p⟩
set_option maxRecDepth 100000 in
set_option maxHeartbeats 1000000 in
theorem same_any (v1 v2 : Value) (rows : List (List (List UInt8))) (w : World) (h1 : RowsAt w v1 rows) (h2 : RowsAt w v2 rows) (h32 : ∀ r ∈ rows, All32 r) (hlen : ∀ r ∈ rows, r.length < 1099511627776) :
    Calls Try.prog 51 #[v1, v2] w (Ret w (.bool true)) := by
  obtain ⟨ad1, cap1, rfl, hc1, hc2⟩ := h1.shape
  obtain ⟨ad2, cap2, rfl, hd1, hd2⟩ := h2.shape
  have H1 := Lib.hid h1; have H2 := Lib.hid h2; have H32 := Lib.hid h32; have HLEN := Lib.hid hlen
  clear h1 h2 h32 hlen
  obtain ⟨n, hn⟩ : ∃ n, n = rows.length := ⟨_, rfl⟩
  rw [← hn] at hc1 hd1 ⊢
  have HN := Lib.hid hn; clear hn
  go_enter Try.func51, Try.ntmps51
  go_wp2_with fail
  go_loopw [14] (fun x wr => ∃ i : Nat, i ≤ n ∧ x = .int .i64 i ∧ Below w.heap.size w wr) (fun x _ => n - (intOf x).toNat)
  case atStart => exact ⟨0, Nat.zero_le _, rfl, Below.refl _ _⟩
  case round =>
    obtain ⟨i, hi, rfl, hb⟩ := hrel
    have HB := Lib.hid hb; clear hb
    by_cases hlt : i < n
    · obtain ⟨b1, o1, u1, rfl, hb1, hcell1, hr1⟩ := H1.out.at i (by have := HN.out; omega)
      obtain ⟨b2, o2, u2, rfl, hb2, hcell2, hr2⟩ := H2.out.at i (by have := HN.out; omega)
      obtain ⟨row, hrow⟩ : ∃ row, row = rows[i]'(by have := HN.out; omega) := ⟨_, rfl⟩
      rw [← hrow] at hr1 hr2
      have hr32 : All32 row := by rw [hrow]; exact H32.out _ (List.getElem_mem _)
      have hrlen : row.length < 1099511627776 := by rw [hrow]; exact HLEN.out _ (List.getElem_mem _)
      obtain ⟨m, hm⟩ : ∃ m, m = row.length := ⟨_, rfl⟩
      obtain ⟨ra1, rc1, hu1, _, _⟩ := hr1.shape
      obtain ⟨ra2, rc2, hu2, _, _⟩ := hr2.shape
      subst hu1; subst hu2
      rw [← hm] at hcell1 hcell2 hr1 hr2 hrlen
      have C1 : Hid (∀ w', Below w.heap.size w w' → w'.cell? ⟨b1, o1 + i, none⟩ = _) := Lib.hid fun w' h => (h.cell (p := ⟨b1, o1 + i, none⟩) hb1).trans hcell1
      have C2 : Hid (∀ w', Below w.heap.size w w' → w'.cell? ⟨b2, o2 + i, none⟩ = _) := Lib.hid fun w' h => (h.cell (p := ⟨b2, o2 + i, none⟩) hb2).trans hcell2
      have R1 := Lib.hid hr1; have R2 := Lib.hid hr2; have HR32 := Lib.hid hr32; have HM := Lib.hid hm
      clear hcell1 hcell2 hr1 hr2 hr32 hm hrow
      have hS : Below w.heap.size w wr.drew := HB.out.drew
      go_wp2_with fail
      refine wp_region_till (fun w' => Below w.heap.size w w') 10 11 (by kernel_rfl) rfl ?_
      refine till_take 0 (some 17) rfl rfl (by kernel_rfl) (by kernel_rfl) (by kernel_rfl) (by kernel_rfl) (by kernel_rfl) (by kernel_rfl) (fun _ _ _ h => h) (.inl ⟨by rfl, fun w' _ => (by go_simp; rfl)⟩) hS ?_
      go_frame
      refine till_take 1 (some 18) rfl rfl (by kernel_rfl) (by kernel_rfl) (by kernel_rfl) (by kernel_rfl) (by kernel_rfl) (by kernel_rfl) (fun _ _ _ h => h) (.inl ⟨by rfl, fun w' _ => (by go_simp; rfl)⟩) hS ?_
      go_frame
      refine till_take 2 (some 19) rfl rfl (by kernel_rfl) (by kernel_rfl) (by kernel_rfl) (by kernel_rfl) (by kernel_rfl) (by kernel_rfl) (fun _ _ _ h => h) (.inl ⟨by rfl, fun w' _ => (by go_simp; rfl)⟩) hS ?_
      go_frame
      refine till_take 3 (some 20) rfl rfl (by kernel_rfl) (by kernel_rfl) (by kernel_rfl) (by kernel_rfl) (by kernel_rfl) (by kernel_rfl) (fun _ _ _ h => h) (.inl ⟨by rfl, fun w' hS' => (by have hc := C1.out w' hS'; go_simp; rfl)⟩) hS ?_
      go_frame
      refine till_take 4 (some 21) rfl rfl (by kernel_rfl) (by kernel_rfl) (by kernel_rfl) (by kernel_rfl) (by kernel_rfl) (by kernel_rfl) (fun _ _ _ h => h) (.inl ⟨by rfl, fun w' _ => (by go_simp; rfl)⟩) hS ?_
      go_frame
      refine till_take 5 (some 22) rfl rfl (by kernel_rfl) (by kernel_rfl) (by kernel_rfl) (by kernel_rfl) (by kernel_rfl) (by kernel_rfl) (fun _ _ _ h => h) (.inl ⟨by rfl, fun w' _ => (by go_simp; rfl)⟩) hS ?_
      go_frame
      refine till_take 6 (some 23) rfl rfl (by kernel_rfl) (by kernel_rfl) (by kernel_rfl) (by kernel_rfl) (by kernel_rfl) (by kernel_rfl) (fun _ _ _ h => h) (.inl ⟨by rfl, fun w' _ => (by go_simp; rfl)⟩) hS ?_
      go_frame
      refine till_take 7 (some 24) rfl rfl (by kernel_rfl) (by kernel_rfl) (by kernel_rfl) (by kernel_rfl) (by kernel_rfl) (by kernel_rfl) (fun _ _ _ h => h) (.inl ⟨by rfl, fun w' _ => (by go_simp; rfl)⟩) hS ?_
      go_frame
      refine till_take 8 (some 25) rfl rfl (by kernel_rfl) (by kernel_rfl) (by kernel_rfl) (by kernel_rfl) (by kernel_rfl) (by kernel_rfl) (fun _ _ _ h => h) (.inl ⟨by rfl, fun w' hS' => (by have hc := C2.out w' hS'; go_simp; rfl)⟩) hS ?_
      go_frame
      refine till_take 9 (some 26) rfl rfl (by kernel_rfl) (by kernel_rfl) (by kernel_rfl) (by kernel_rfl) (by kernel_rfl) (by kernel_rfl) (fun _ _ _ h => h) (.inl ⟨by rfl, fun w' _ => (by go_simp; rfl)⟩) hS ?_
      go_frame
      refine till_one 10 rfl (by kernel_rfl) fun K hK => ?_
      simp only [List.getElem_toArray, List.getElem_cons_succ, List.getElem_cons_zero]
      rw [if_pos (by rfl)]
      go_simp
      refine hK _ _ (fun h => absurd rfl h) ?_
      clear hK
      refine till_done (by kernel_rfl) ?_ _
      have c1 := C1.out _ hS
      have HS := Lib.hid hS; clear hS
      obtain ⟨wq, hwq⟩ : ∃ wq, wq = wr.drew := ⟨_, rfl⟩
      rw [← hwq] at c1 HS ⊢
      clear hwq HB
      go_wp2_with fail
      clear c1
      go_loopw [33] (fun x wr => ∃ j : Nat, j ≤ m ∧ x = .int .i64 j ∧ Below w.heap.size w wr) (fun x _ => m - (intOf x).toNat)
      case atStart => exact ⟨0, Nat.zero_le _, rfl, HS.out⟩
      case round =>
        obtain ⟨j, hj, rfl, hb⟩ := hrel
        have HB := Lib.hid hb; clear hb HS
        by_cases hjm : j < m
        · obtain ⟨p1, q1, hp1, hpb1⟩ := R1.out.ptr (by rw [← HM.out]; omega)
          obtain ⟨p2, q2, hp2, hpb2⟩ := R2.out.ptr (by rw [← HM.out]; omega)
          subst hp1; subst hp2
          have l1 : ∀ w', Below w.heap.size w w' → _ := fun w' h => load_hash_at (S := fun x => w.heap.size ≤ x) R1.out HR32.out j (by rw [← HM.out]; exact hjm) ⟨h.os, h.tape, h.output, h.size, fun k hk _ => h.block k hk⟩ (by omega)
          have l2 : ∀ w', Below w.heap.size w w' → _ := fun w' h => load_hash_at (S := fun x => w.heap.size ≤ x) R2.out HR32.out j (by rw [← HM.out]; exact hjm) ⟨h.os, h.tape, h.output, h.size, fun k hk _ => h.block k hk⟩ (by omega)
          have L1 := Lib.hid l1; have L2 := Lib.hid l2
          clear l1 l2
          have heq := Try.eqH (hAt row j) (hAt row j) (hAt_length HR32.out _) (hAt_length HR32.out _)
          rw [decide_eq_true (rfl : hAt row j = hAt row j)] at heq
          have hS : Below w.heap.size w wr.drew := HB.out.drew
          go_wp2_with fail
          refine wp_region_till (fun w' => Below w.heap.size w w') 14 15 (by kernel_rfl) rfl ?_
          refine till_take 0 (some 36) rfl rfl (by kernel_rfl) (by kernel_rfl) (by kernel_rfl) (by kernel_rfl) (by kernel_rfl) (by kernel_rfl) (fun _ _ _ h => h) (.inl ⟨by rfl, fun w' _ => (by go_simp; rfl)⟩) hS ?_
          go_frame
          refine till_take 1 (some 37) rfl rfl (by kernel_rfl) (by kernel_rfl) (by kernel_rfl) (by kernel_rfl) (by kernel_rfl) (by kernel_rfl) (fun _ _ _ h => h) (.inl ⟨by rfl, fun w' _ => (by go_simp; rfl)⟩) hS ?_
          go_frame
          refine till_take 2 (some 38) rfl rfl (by kernel_rfl) (by kernel_rfl) (by kernel_rfl) (by kernel_rfl) (by kernel_rfl) (by kernel_rfl) (fun _ _ _ h => h) (.inl ⟨by rfl, fun w' _ => (by go_simp; rfl)⟩) hS ?_
          go_frame
          refine till_take 3 (some 39) rfl rfl (by kernel_rfl) (by kernel_rfl) (by kernel_rfl) (by kernel_rfl) (by kernel_rfl) (by kernel_rfl) (fun _ _ _ h => h) (.inl ⟨by rfl, fun w' hS' => (by have hc := C1.out w' hS'; go_simp; rfl)⟩) hS ?_
          go_frame
          refine till_take 4 (some 40) rfl rfl (by kernel_rfl) (by kernel_rfl) (by kernel_rfl) (by kernel_rfl) (by kernel_rfl) (by kernel_rfl) (fun _ _ _ h => h) (.inl ⟨by rfl, fun w' _ => (by go_simp; rfl)⟩) hS ?_
          go_frame
          refine till_take 5 (some 41) rfl rfl (by kernel_rfl) (by kernel_rfl) (by kernel_rfl) (by kernel_rfl) (by kernel_rfl) (by kernel_rfl) (fun _ _ _ h => h) (.inl ⟨by rfl, fun w' _ => (by go_simp; rfl)⟩) hS ?_
          go_frame
          refine till_take 6 (some 42) rfl rfl (by kernel_rfl) (by kernel_rfl) (by kernel_rfl) (by kernel_rfl) (by kernel_rfl) (by kernel_rfl) (fun _ _ _ h => h) (yields_load (by rfl) 48 (.tmp 41) rfl (.pointer (some ⟨p1, q1 + j * 32, none⟩)) rfl _ L1.out) hS ?_
          go_frame
          refine till_take 7 (some 43) rfl rfl (by kernel_rfl) (by kernel_rfl) (by kernel_rfl) (by kernel_rfl) (by kernel_rfl) (by kernel_rfl) (fun _ _ _ h => h) (.inl ⟨by rfl, fun w' _ => (by go_simp; rfl)⟩) hS ?_
          go_frame
          refine till_take 8 (some 44) rfl rfl (by kernel_rfl) (by kernel_rfl) (by kernel_rfl) (by kernel_rfl) (by kernel_rfl) (by kernel_rfl) (fun _ _ _ h => h) (.inl ⟨by rfl, fun w' _ => (by go_simp; rfl)⟩) hS ?_
          go_frame
          refine till_take 9 (some 45) rfl rfl (by kernel_rfl) (by kernel_rfl) (by kernel_rfl) (by kernel_rfl) (by kernel_rfl) (by kernel_rfl) (fun _ _ _ h => h) (.inl ⟨by rfl, fun w' _ => (by go_simp; rfl)⟩) hS ?_
          go_frame
          refine till_take 10 (some 46) rfl rfl (by kernel_rfl) (by kernel_rfl) (by kernel_rfl) (by kernel_rfl) (by kernel_rfl) (by kernel_rfl) (fun _ _ _ h => h) (.inl ⟨by rfl, fun w' hS' => (by have hc := C2.out w' hS'; go_simp; rfl)⟩) hS ?_
          go_frame
          refine till_take 11 (some 47) rfl rfl (by kernel_rfl) (by kernel_rfl) (by kernel_rfl) (by kernel_rfl) (by kernel_rfl) (by kernel_rfl) (fun _ _ _ h => h) (.inl ⟨by rfl, fun w' _ => (by go_simp; rfl)⟩) hS ?_
          go_frame
          refine till_take 12 (some 48) rfl rfl (by kernel_rfl) (by kernel_rfl) (by kernel_rfl) (by kernel_rfl) (by kernel_rfl) (by kernel_rfl) (fun _ _ _ h => h) (.inl ⟨by rfl, fun w' _ => (by go_simp; rfl)⟩) hS ?_
          go_frame
          refine till_take 13 (some 49) rfl rfl (by kernel_rfl) (by kernel_rfl) (by kernel_rfl) (by kernel_rfl) (by kernel_rfl) (by kernel_rfl) (fun _ _ _ h => h) (yields_load (by rfl) 48 (.tmp 48) rfl (.pointer (some ⟨p2, q2 + j * 32, none⟩)) rfl _ L2.out) hS ?_
          go_frame
          refine till_one 14 rfl (by kernel_rfl) fun K hK => ?_
          simp only [List.getElem_toArray, List.getElem_cons_succ, List.getElem_cons_zero]
          rw [if_pos (by rfl)]
          go_simp
          refine hK _ _ (fun h => absurd rfl h) ?_
          clear hK heq
          refine till_done (by kernel_rfl) ?_ _
          have HS := Lib.hid hS; clear hS
          go_wp2_with fail
          go_roundw
          case rel => exact ⟨j + 1, by omega, by go_num, HS.out⟩
          case measure => simp [intOf]; omega
        · obtain rfl : j = m := by omega
          go_wp2_with fail
          go_roundw
          case rel => exact ⟨i + 1, by omega, by go_num, HB.out⟩
          case measure => simp [intOf]; omega
    · obtain rfl : i = n := by omega
      go_wp2_with fail
      go_ret
      exact ⟨rfl, HB.out⟩
end Go.Proofs.Ytbfdjjaonjepnaa
