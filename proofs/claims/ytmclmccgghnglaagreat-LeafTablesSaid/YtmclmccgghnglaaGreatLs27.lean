/- tallageref16.Same, tallageref15.hashes: the very same rows, hashes. No condition. tallageref15.SameClaim: the very same claims. No condition. tallageref07.Build, with the tree kept; a claim while a tree grows. No condition. leaf.Claim, with what it hands back its own. No condition. tallageref16.Claim. No condition. -/
import Derived.Test.YtmclmccgghnglaaGreatLs26
import Derived.Test.YtmclmccgghnglaaGreatLs20
import Derived.Test.YtmclmccgghnglaaGreatLsLeaO
import Derived.Test.YtmclmccgghnglaaGreatLsLeaN
namespace Go.Proofs.YtmclmccgghnglaaGreat
section
open Go.RowKit

set_option maxRecDepth 100000 in
set_option maxHeartbeats 4000000 in
theorem rhashes_any (v1 v2 : Value) (row : List (List UInt8)) (w : World) (h1 : Rd w hE 32 v1 row) (h2 : Rd w hE 32 v2 row) (h32 : All32 row) :
    Calls Tryz.prog 95 #[v1, v2] w (Ret w (.bool true)) := by
  obtain ⟨ad1, cap1, rfl, hc1, hc2⟩ := h1.shape
  obtain ⟨ad2, cap2, rfl, hd1, hd2⟩ := h2.shape
  have R1 := Lib.hid h1; have R2 := Lib.hid h2; have H32 := Lib.hid h32
  clear h1 h2 h32
  obtain ⟨m, hm⟩ : ∃ m, m = row.length := ⟨_, rfl⟩
  rw [← hm] at hc1 hd1 R1 R2 ⊢
  have HM := Lib.hid hm; clear hm
  go_enter Tryz.func95, Tryz.ntmps95
  go_wp2_with fail
  go_loopw [13] (fun x wr => ∃ j : Nat, j ≤ m ∧ x = .int .i64 j ∧ Below w.heap.size w wr) (fun x _ => m - (intOf x).toNat)
  case atStart => exact ⟨0, Nat.zero_le _, rfl, Below.refl _ _⟩
  case round =>
    obtain ⟨j, hj, rfl, hb⟩ := hrel
    have HB := Lib.hid hb; clear hb
    by_cases hjm : j < m
    · obtain ⟨p1, q1, hp1, hpb1⟩ := R1.out.ptr (by rw [← HM.out]; omega)
      obtain ⟨p2, q2, hp2, hpb2⟩ := R2.out.ptr (by rw [← HM.out]; omega)
      subst hp1; subst hp2
      have l1 : ∀ w', Below w.heap.size w w' → _ := fun w' h => load_hash_at (S := fun x => w.heap.size ≤ x) R1.out H32.out j (by rw [← HM.out]; exact hjm) ⟨h.os, h.tape, h.output, h.size, fun k hk _ => h.block k hk⟩ (by omega)
      have l2 : ∀ w', Below w.heap.size w w' → _ := fun w' h => load_hash_at (S := fun x => w.heap.size ≤ x) R2.out H32.out j (by rw [← HM.out]; exact hjm) ⟨h.os, h.tape, h.output, h.size, fun k hk _ => h.block k hk⟩ (by omega)
      have L1 := Lib.hid l1; have L2 := Lib.hid l2
      clear l1 l2
      have heq := Tryz.eqH (hAt row j) (hAt row j) (hAt_length H32.out _) (hAt_length H32.out _)
      rw [decide_eq_true (rfl : hAt row j = hAt row j)] at heq
      have hS : Below w.heap.size w wr.drew := HB.out.drew
      go_wp2_with fail
      refine wp_region_till (fun w' => Below w.heap.size w w') 8 9 (by kernel_rfl) rfl ?_
      refine till_take 0 (some 16) rfl rfl (by kernel_rfl) (by kernel_rfl) (by kernel_rfl) (by kernel_rfl) (by kernel_rfl) (by kernel_rfl) (fun _ _ _ h => h) (.inl ⟨by rfl, fun w' _ => (by go_simp; rfl)⟩) hS ?_
      go_frame
      refine till_take 1 (some 17) rfl rfl (by kernel_rfl) (by kernel_rfl) (by kernel_rfl) (by kernel_rfl) (by kernel_rfl) (by kernel_rfl) (fun _ _ _ h => h) (.inl ⟨by rfl, fun w' _ => (by go_simp; rfl)⟩) hS ?_
      go_frame
      refine till_take 2 (some 18) rfl rfl (by kernel_rfl) (by kernel_rfl) (by kernel_rfl) (by kernel_rfl) (by kernel_rfl) (by kernel_rfl) (fun _ _ _ h => h) (.inl ⟨by rfl, fun w' _ => (by go_simp; rfl)⟩) hS ?_
      go_frame
      refine till_take 3 (some 19) rfl rfl (by kernel_rfl) (by kernel_rfl) (by kernel_rfl) (by kernel_rfl) (by kernel_rfl) (by kernel_rfl) (fun _ _ _ h => h) (yields_load (by rfl) 36 (.tmp 18) rfl (.pointer (some ⟨p1, q1 + j * 32, none⟩)) rfl _ L1.out) hS ?_
      go_frame
      refine till_take 4 (some 20) rfl rfl (by kernel_rfl) (by kernel_rfl) (by kernel_rfl) (by kernel_rfl) (by kernel_rfl) (by kernel_rfl) (fun _ _ _ h => h) (.inl ⟨by rfl, fun w' _ => (by go_simp; rfl)⟩) hS ?_
      go_frame
      refine till_take 5 (some 21) rfl rfl (by kernel_rfl) (by kernel_rfl) (by kernel_rfl) (by kernel_rfl) (by kernel_rfl) (by kernel_rfl) (fun _ _ _ h => h) (.inl ⟨by rfl, fun w' _ => (by go_simp; rfl)⟩) hS ?_
      go_frame
      refine till_take 6 (some 22) rfl rfl (by kernel_rfl) (by kernel_rfl) (by kernel_rfl) (by kernel_rfl) (by kernel_rfl) (by kernel_rfl) (fun _ _ _ h => h) (.inl ⟨by rfl, fun w' _ => (by go_simp; rfl)⟩) hS ?_
      go_frame
      refine till_take 7 (some 23) rfl rfl (by kernel_rfl) (by kernel_rfl) (by kernel_rfl) (by kernel_rfl) (by kernel_rfl) (by kernel_rfl) (fun _ _ _ h => h) (yields_load (by rfl) 36 (.tmp 22) rfl (.pointer (some ⟨p2, q2 + j * 32, none⟩)) rfl _ L2.out) hS ?_
      go_frame
      refine till_one 8 rfl (by kernel_rfl) fun K hK => ?_
      simp only [List.getElem_toArray, List.getElem_cons_succ, List.getElem_cons_zero]
      rw [if_pos (by rfl)]
      go_simp
      refine hK _ _ (fun h => absurd rfl h) ?_
      clear hK heq
      refine till_done (by kernel_rfl) ?_ _
      have HS := Lib.hid hS; clear hS
      go_wp2_with fail
      go_roundw
      case rel => exact ⟨j + 1, by omega, by go_num, HS.out⟩
      case measure => simp [intOf]; omega
    · obtain rfl : j = m := by omega
      go_wp2_with fail
      go_ret
      exact ⟨rfl, HB.out⟩
theorem Tryz.eqGuardRw : Tryz.prog.eqGuardType Tryz.prog.depth 57 = false := by kernel_rfl
@[go_sem] theorem Tryz.guardRw (op : BinOp) (x y : Operand) (xs ys : Array Value) (w : World) : (eqGuard op 57 x y (.agg xs) (.agg ys)).run Tryz.prog w = .ok () w := run_eqGuard_agg w op _ x y xs ys Tryz.eqGuardRw
theorem Tryz.infoU64T : (Tryz.prog.info? 53).map (fun i => (i.zero, i.size, i.bytes)) = some (some (.int .u64 0), 1, 8) := by kernel_rfl
theorem Tryz.eqRw (e t a b c d : Int) (w : World) : (Op.equalIn 10000 57 (.agg #[.int .i64 e, .int .i64 t, .int .u64 a, .int .u64 b, .int .u64 c, .int .u64 d]) (.agg #[.int .i64 e, .int .i64 t, .int .u64 a, .int .u64 b, .int .u64 c, .int .u64 d])).run Tryz.prog w = .ok true w := by
  obtain ⟨i, hi, _, hs, _⟩ := info_parts Tryz.infoU64T
  have hu := run_equalIn_arr (P := Tryz.prog) w 9997 55 53 .u64 4 Tryz.underlying55 Tryz.underlying53 i hi hs [a, b, c, d] [a, b, c, d] rfl rfl
  rw [show (10000 : Nat) = 9999 + 1 from rfl, run_equalIn_struct (P := Tryz.prog) w 9999 57 _ _ (by kernel_rfl) (by kernel_rfl)]
  have hf : (Tryz.prog.fieldsOf 57).toList = [{ name := "Earner", type := 3, offset := 0, embedded := false, tag := "", pkgPath := "", byteOffset := 0 }, { name := "Token", type := 3, offset := 1, embedded := false, tag := "", pkgPath := "", byteOffset := 8 }, { name := "Amount", type := 55, offset := 2, embedded := false, tag := "", pkgPath := "", byteOffset := 16 }] := by kernel_rfl
  rw [hf]
  have p0 : ∀ w, (Go.part 3 #[.int .i64 e, .int .i64 t, .int .u64 a, .int .u64 b, .int .u64 c, .int .u64 d] 0).run Tryz.prog w = .ok (.int .i64 e) w := fun w => by kernel_rfl
  have p1 : ∀ w, (Go.part 3 #[.int .i64 e, .int .i64 t, .int .u64 a, .int .u64 b, .int .u64 c, .int .u64 d] 1).run Tryz.prog w = .ok (.int .i64 t) w := fun w => by kernel_rfl
  have p2 : ∀ w, (Go.part 55 #[.int .i64 e, .int .i64 t, .int .u64 a, .int .u64 b, .int .u64 c, .int .u64 d] 2).run Tryz.prog w = .ok (.agg #[.int .u64 a, .int .u64 b, .int .u64 c, .int .u64 d]) w := fun w => by kernel_rfl
  have hu2 : (Op.equalIn 9999 55 (.agg #[.int .u64 a, .int .u64 b, .int .u64 c, .int .u64 d]) (.agg #[.int .u64 a, .int .u64 b, .int .u64 c, .int .u64 d])).run Tryz.prog w = .ok true w := hu.trans (by rw [decide_eq_true rfl])
  have hb2 : ∀ x : Int, (Op.equalIn 9999 3 (.int .i64 x) (.int .i64 x)).run Tryz.prog w = .ok true w := fun x => (run_equalIn_int w 9998 3 .i64 .i64 x x Tryz.underlying3).trans (by simp)
  simp only [Op.eqFields, ne_eq, String.reduceEq, not_false_eq_true, if_true, Sem.run_bind, p0, p1, p2, Result.andThen_ok, hu2, hb2, Bool.not_true, Bool.false_eq_true, if_false, Sem.run_pure]
set_option maxRecDepth 100000 in
set_option maxHeartbeats 4000000 in
theorem rsame_any (v1 v2 : Value) (l : List LRow) (w : World) (h1 : Rd w rowE 6 v1 l) (h2 : Rd w rowE 6 v2 l) :
    Calls Tryz.prog 21 #[v1, v2] w (Ret w (.bool true)) := by
  obtain ⟨ad1, cap1, rfl, hc1, hc2⟩ := h1.shape
  obtain ⟨ad2, cap2, rfl, hd1, hd2⟩ := h2.shape
  have R1 := Lib.hid h1; have R2 := Lib.hid h2
  clear h1 h2
  obtain ⟨m, hm⟩ : ∃ m, m = l.length := ⟨_, rfl⟩
  rw [← hm] at hc1 hd1 R1 R2 ⊢
  have HM := Lib.hid hm; clear hm
  go_enter Tryz.func21, Tryz.ntmps21
  go_wp2_with fail
  go_loopw [13] (fun x wr => ∃ j : Nat, j ≤ m ∧ x = .int .i64 j ∧ Below w.heap.size w wr) (fun x _ => m - (intOf x).toNat)
  case atStart => exact ⟨0, Nat.zero_le _, rfl, Below.refl _ _⟩
  case round =>
    obtain ⟨j, hj, rfl, hb⟩ := hrel
    have HB := Lib.hid hb; clear hb
    by_cases hjm : j < m
    · have hi : j < l.length := by have := HM.out; omega
      obtain ⟨p1, q1, hp1, _, c0, c1, c2, c3, c4, c5⟩ := (R1.out.later HB.out).six j hi
      obtain ⟨p2, q2, hp2, _, d0, d1, d2, d3, d4, d5⟩ := (R2.out.later HB.out).six j hi
      subst hp1; subst hp2
      obtain ⟨r, hrr⟩ : ∃ r, r = l[j] := ⟨_, rfl⟩
      rw [← hrr] at c0 c1 c2 c3 c4 c5 d0 d1 d2 d3 d4 d5
      clear hrr hi
      have heq := Tryz.eqRw r.e r.t (uw0 r.m) (uw1 r.m) (uw2 r.m) (uw3 r.m)
      go_wp2_with fail
      go_quiet (fail)
      go_wp2_with fail
      obtain ⟨w3, hwq⟩ : ∃ q, q = World.drewN wr nq := ⟨_, rfl⟩
      have hbq : Below (World.heap wr).size wr w3 := by rw [hwq]; exact below_drewN (Below.refl _ _) _
      rw [← hwq]
      have HB3 := Lib.hid (HB.out.trans (hbq.mono HB.out.size))
      clear hbq hwq HB c0 c1 c2 c3 c4 c5 d0 d1 d2 d3 d4 d5
      go_wp2_with fail
      go_roundw
      case rel => exact ⟨j + 1, by omega, by go_num, HB3.out⟩
      case measure => simp [intOf]; omega
    · obtain rfl : j = m := by omega
      go_wp2_with fail
      go_ret
      exact ⟨rfl, HB.out⟩
end
section
open Go.RowKit

theorem wpList_load_mid_yT {P : Program} {ops : Array Oper} {rest : List Oper} {op : Oper} {a : Act} {w : World} {Q : Exit → Act → World → Prop} (hw : Region.wanted op (yielded ops a.tmps) = true) (ty : TypeId) (x : Operand) (ho : op.op = .load ty x)
    (b o : Nat) (hx : a.eval x = .pointer (some ⟨b, o, none⟩)) (cs : List Value) (d : TypeDesc) (hc : w.rangeAt b o cs)
    (hu : P.underlying ty = some d) (hd : d.isRow = true) (hi : (P.info? ty).map (·.size) = some cs.length)
    (h : wpList P ops Q rest (a.put op.dst (.agg cs.toArray)) w) : wpList P ops Q (op :: rest) a w :=
  wpList_wanted hw fun _ hK => wp_load_mid ty x ho b o hx cs d hc hu hd hi (hK _ _ h)
theorem Tryz.eqUT (m : Nat) (w : World) : (Op.equalIn 10000 55 (.agg #[.int .u64 (uw0 m), .int .u64 (uw1 m), .int .u64 (uw2 m), .int .u64 (uw3 m)]) (.agg #[.int .u64 (uw0 m), .int .u64 (uw1 m), .int .u64 (uw2 m), .int .u64 (uw3 m)])).run Tryz.prog w = .ok true w := by
  obtain ⟨i, hi, _, hs, _⟩ := info_parts Tryz.infoU64T
  exact (run_equalIn_arr w 9998 _ _ .u64 4 Tryz.underlying55 Tryz.underlying53 i hi hs [uw0 m, uw1 m, uw2 m, uw3 m] [uw0 m, uw1 m, uw2 m, uw3 m] rfl rfl).trans (by rw [decide_eq_true rfl])
theorem Tryz.eqGuardUT : Tryz.prog.eqGuardType Tryz.prog.depth 55 = false := by kernel_rfl
@[go_sem] theorem Tryz.guardUT (op : BinOp) (x y : Operand) (xs ys : Array Value) (w : World) : (eqGuard op 55 x y (.agg xs) (.agg ys)).run Tryz.prog w = .ok () w := run_eqGuard_agg w op _ x y xs ys Tryz.eqGuardUT
theorem Rd.leafs {w : World} {s : SlV} {xs : List (CLf × SlV)} (h : Rd w lfE 7 (slV s) xs) {l : List CLf} (hm : xs.map (·.1) = l) {i : Nat} (hi : i < l.length) : ∃ t : SlV, (⟨l[i], t⟩ : CLf × SlV) ∈ xs ∧ ∃ b off, s.1 = some ⟨b, off, none⟩ ∧ w.cell? ⟨b, off + i * 7, none⟩ = some (.int .i64 l[i].i) ∧ w.cell? ⟨b, off + i * 7 + 1, none⟩ = some (.int .i64 l[i].t) ∧ w.cell? ⟨b, off + i * 7 + 2, none⟩ = some (.int .u64 (uw0 l[i].m)) ∧
      w.cell? ⟨b, off + i * 7 + 3, none⟩ = some (.int .u64 (uw1 l[i].m)) ∧ w.cell? ⟨b, off + i * 7 + 4, none⟩ = some (.int .u64 (uw2 l[i].m)) ∧ w.cell? ⟨b, off + i * 7 + 5, none⟩ = some (.int .u64 (uw3 l[i].m)) ∧ w.cell? ⟨b, off + i * 7 + 6, none⟩ = some (slV t) := by
  subst hm
  have hi2 : i < xs.length := by rw [List.length_map] at hi; exact hi
  have hg : (xs.map (·.1))[i] = xs[i].1 := List.getElem_map _
  rw [hg]
  obtain ⟨a, n, c⟩ := s
  exact ⟨xs[i].2, List.getElem_mem hi2, Rd.leaf (show Rd w lfE 7 (.slice a n c) xs from h) i hi2⟩
set_option maxRecDepth 100000 in
set_option maxHeartbeats 16000000 in
theorem sameclaim_any (v1 v2 : Value) (c : CCl) (w : World) (h1 : ClAt w v1 c) (h2 : ClAt w v2 c) (hh : c.h.length = 32) (hp : All32 c.p) (hl : ∀ x ∈ c.lv, All32 x.p) (hn : c.lv.length < 1000000) :
    Calls Tryz.prog 22 #[v1, v2] w (Ret w (.bool true)) := by
  obtain ⟨⟨pa, pn, pc⟩, ⟨la, ln, lc⟩, rfl, hp1, xs, hx1, hlv1, hpr1⟩ := h1
  obtain ⟨⟨qa, qn, qc⟩, ⟨ma, mn, mc⟩, rfl, hp2, ys, hx2, hlv2, hpr2⟩ := h2
  obtain ⟨crt, cix, ce, ch, cp, clv, cto⟩ := c
  simp only [] at hx1 hx2 hp hl hh hn hp1 hp2 ⊢
  have hln : ln = clv.length := by rw [← hx1, List.length_map]; exact hlv1.size
  have hmn : mn = clv.length := by rw [← hx2, List.length_map]; exact hlv2.size
  obtain ⟨n, hnn⟩ : ∃ n, n = clv.length := ⟨_, rfl⟩
  rw [← hnn] at hln hmn hn
  replace hln := hln.symm; replace hmn := hmn.symm
  subst hln; subst hmn
  have HP1 := Lib.hid (show Rd w hE 32 (.slice pa pn pc) cp from hp1); have HP2 := Lib.hid (show Rd w hE 32 (.slice qa qn qc) cp from hp2)
  have HL1 := Lib.hid hlv1; have HL2 := Lib.hid hlv2; have HX1 := Lib.hid hx1; have HX2 := Lib.hid hx2; have HR1 := Lib.hid hpr1; have HR2 := Lib.hid hpr2
  have HH := Lib.hid hh; have HA := Lib.hid hp; have HLA := Lib.hid hl; have HN := Lib.hid hnn
  clear hp1 hp2 hlv1 hlv2 hx1 hx2 hpr1 hpr2 hh hp hl hnn
  go_enter Tryz.func22, Tryz.ntmps22
  go_upto_region 1 with fail
  obtain ⟨wB, hwB⟩ : ∃ wB, wB = (w.alloc (.cells (clC crt cix ce ch (pa, pn, pc) (la, n, lc) cto) 45)).alloc (.cells (clC crt cix ce ch (qa, qn, qc) (ma, n, mc) cto) 45) := ⟨_, rfl⟩
  rw [← hwB]
  obtain ⟨P, hP⟩ : ∃ P, P = w.heap.size := ⟨_, rfl⟩
  rw [← hP]
  obtain ⟨Q, hQ⟩ : ∃ Q, Q = P + 1 := ⟨_, rfl⟩
  rw [← hQ]
  have HB := Lib.hid (show Below w.heap.size w wB by rw [hwB]; exact ((Below.refl _ _).alloc (Nat.le_refl _) _).trans (((Below.refl _ _).alloc (Nat.le_refl _) _).mono ((Below.refl w.heap.size w).alloc (Nat.le_refl _) _).size))
  have HBP := Lib.hid (show wB.heap[P]? = some (.cells (clC crt cix ce ch (pa, pn, pc) (la, n, lc) cto) 45 (0, 0)) by rw [hwB, hP]; exact below_at2 ((Below.refl _ _).alloc (Nat.le_refl _) _) (heap_alloc_new _ _))
  have HBQ := Lib.hid (show wB.heap[Q]? = some (.cells (clC crt cix ce ch (qa, qn, qc) (ma, n, mc) cto) 45 (0, 0)) by
    rw [hwB, hQ, hP, ← show (w.alloc (.cells (clC crt cix ce ch (pa, pn, pc) (la, n, lc) cto) 45)).heap.size = w.heap.size + 1 from Array.size_push _]; exact heap_alloc_new _ _)
  clear hwB hP hQ
  have p0 : wB.cell? ⟨P, 0, none⟩ = some (.int .i64 crt) := (Lib.cell_of_heap HBP.out 0).trans (clC_0 _ _ _ _ _ _ _)
  have p1 : wB.cell? ⟨P, 1, none⟩ = some (.int .i64 cix) := (Lib.cell_of_heap HBP.out 1).trans (clC_1 _ _ _ _ _ _ _)
  have p2 : wB.cell? ⟨P, 2, none⟩ = some (.int .i64 ce) := (Lib.cell_of_heap HBP.out 2).trans (clC_2 _ _ _ _ _ _ _)
  have p35 : wB.cell? ⟨P, 35, none⟩ = some (.slice pa pn pc) := (Lib.cell_of_heap HBP.out 35).trans (clC_35 _ _ _ HH.out _ _ _)
  have p37 : wB.cell? ⟨P, 37, none⟩ = some (.int .i64 cto) := (Lib.cell_of_heap HBP.out 37).trans (clC_37 _ _ _ HH.out _ _ _)
  have q0 : wB.cell? ⟨Q, 0, none⟩ = some (.int .i64 crt) := (Lib.cell_of_heap HBQ.out 0).trans (clC_0 _ _ _ _ _ _ _)
  have q1 : wB.cell? ⟨Q, 1, none⟩ = some (.int .i64 cix) := (Lib.cell_of_heap HBQ.out 1).trans (clC_1 _ _ _ _ _ _ _)
  have q2 : wB.cell? ⟨Q, 2, none⟩ = some (.int .i64 ce) := (Lib.cell_of_heap HBQ.out 2).trans (clC_2 _ _ _ _ _ _ _)
  have q35 : wB.cell? ⟨Q, 35, none⟩ = some (.slice qa qn qc) := (Lib.cell_of_heap HBQ.out 35).trans (clC_35 _ _ _ HH.out _ _ _)
  have q37 : wB.cell? ⟨Q, 37, none⟩ = some (.int .i64 cto) := (Lib.cell_of_heap HBQ.out 37).trans (clC_37 _ _ _ HH.out _ _ _)
  have heq : ∀ w', (Op.equalIn 10000 36 (.agg (ch.map byteV).toArray) (.agg (ch.map byteV).toArray)).run Tryz.prog w' = .ok true w' := fun w' => (Tryz.eqH ch ch HH.out HH.out w').trans (by rw [decide_eq_true rfl])
  go_wp2_with (first
    | (refine wpList_load_mid_yT rfl 36 _ rfl P 3 rfl (ch.map byteV) _ (range_of_heap HBP.out 3 _ (clC_mid _ _ _ _ _ _)) Tryz.underlying36 rfl (Tryz.sizeHm _ HH.out) ?_)
    | (refine wpList_load_mid_yT rfl 36 _ rfl Q 3 rfl (ch.map byteV) _ (range_of_heap HBQ.out 3 _ (clC_mid _ _ _ _ _ _)) Tryz.underlying36 rfl (Tryz.sizeHm _ HH.out) ?_))
  refine (rhashes_any _ _ cp wB (HP1.out.later HB.out) (HP2.out.later HB.out) HA.out).mono ?_
  rintro e w3 ⟨rfl, hb3⟩
  have HB3 := Lib.hid (HB.out.trans (hb3.mono HB.out.size)); have HP3 := Lib.hid (below_at2 hb3 HBP.out); have HQ3 := Lib.hid (below_at2 hb3 HBQ.out)
  clear hb3 HB HBP HBQ p0 p1 p2 p35 p37 q0 q1 q2 q35 q37 heq
  have p36 : w3.cell? ⟨P, 36, none⟩ = some (.slice la n lc) := (Lib.cell_of_heap HP3.out 36).trans (clC_36 _ _ _ HH.out _ _ _)
  have q36 : w3.cell? ⟨Q, 36, none⟩ = some (.slice ma n mc) := (Lib.cell_of_heap HQ3.out 36).trans (clC_36 _ _ _ HH.out _ _ _)
  go_wp2_with fail
  clear p36 q36
  go_loopw [61] (fun x wr => ∃ j : Nat, j ≤ n ∧ x = .int .i64 j ∧ Hid (Below w3.heap.size w3 wr)) (fun x _ => n - (intOf x).toNat)
  case atStart => exact ⟨0, Nat.zero_le _, rfl, Lib.hid (Below.refl _ _)⟩
  case round =>
    obtain ⟨j, hj, rfl, HD⟩ := hrel
    have HBi := Lib.hid (HB3.out.trans (HD.out.mono HB3.out.size))
    have HQi := Lib.hid (below_at2 HD.out HQ3.out)
    by_cases hjn : j < n
    · have hi : j < clv.length := by have := HN.out; omega
      obtain ⟨⟨sa, sn, sc⟩, hs1, b1, o1, rfl, c0, c1, c2, c3, c4, c5, c6⟩ := Rd.leafs (HL1.out.later HBi.out) HX1.out hi
      obtain ⟨⟨ta, tn, tc⟩, hs2, b2, o2, rfl, d0, d1, d2, d3, d4, d5, d6⟩ := Rd.leafs (HL2.out.later HBi.out) HX2.out hi
      have r1 := (HR1.out _ hs1).later HBi.out
      have r2 := (HR2.out _ hs2).later HBi.out
      have ha := HLA.out _ (List.getElem_mem hi)
      clear hs1 hs2
      obtain ⟨⟨xi, xt, xm, xp⟩, hx⟩ : ∃ x, x = clv[j] := ⟨_, rfl⟩
      rw [← hx] at c0 c1 c2 c3 c4 c5 d0 d1 d2 d3 d4 d5 r1 r2 ha
      clear hx hi
      have RX := Lib.hid (show Rd wr hE 32 (.slice sa sn sc) xp from r1); have RY := Lib.hid (show Rd wr hE 32 (.slice ta tn tc) xp from r2); have HXA := Lib.hid (show All32 xp from ha)
      clear r1 r2 ha
      simp only [] at c0 c1 c2 c3 c4 c5 d0 d1 d2 d3 d4 d5
      replace c6 : wr.cell? ⟨b1, o1 + j * 7 + 6, none⟩ = some (.slice sa sn sc) := c6
      replace d6 : wr.cell? ⟨b2, o2 + j * 7 + 6, none⟩ = some (.slice ta tn tc) := d6
      have HD0 := Lib.hid d0; have HD1 := Lib.hid d1; have HD2 := Lib.hid d2; have HD3 := Lib.hid d3; have HD4 := Lib.hid d4; have HD5 := Lib.hid d5; have HD6 := Lib.hid d6
      have HBL := Lib.hid (show b2 < wr.heap.size from by
        rcases Nat.lt_or_ge b2 wr.heap.size with h | h
        · exact h
        · unfold World.cell? at d0; rw [Array.getElem?_eq_none h] at d0; cases d0)
      clear d0 d1 d2 d3 d4 d5 d6
      go_wp2_with (refine wpList_alloc_g rfl _ rfl _ _ Tryz.zeroLf rfl ?_)
      intro X e1 hX
      go_wp2_with (refine wpList_store_row_g (t := 60) (old := lfZ) rfl 60 _ _ rfl X (lfC xi xt xm (sa, sn, sc)) rfl rfl hX.out.cells Tryz.sizeLf rfl (lfC_one _ _ _ _) ?_)
      intro w6 h6 k6 z6
      have hb6 : Below wr.heap.size wr w6 := hX.out.below.trans (k6.below (B := wr.heap.size) (fun x hx e => by have := hX.out.eq; omega) hX.out.below.size)
      have HX6 := Lib.hid h6; have HQ6 := Lib.hid (below_at2 hb6 HQi.out); have HD6' := Lib.hid (HD.out.trans (hb6.mono HD.out.size)); have RX6 := Lib.hid (RX.out.later hb6); have RY6 := Lib.hid (RY.out.later hb6)
      have HC6 := Lib.hid (fun (q : Nat) => hb6.cell (p := ⟨b2, q, none⟩) HBL.out)
      clear hX h6 k6 z6 hb6 c0 c1 c2 c3 c4 c5 c6 RX RY HD HBi HQi
      have d0 : w6.cell? ⟨b2, o2 + j * 7, none⟩ = some (.int .i64 xi) := (HC6.out _).trans HD0.out
      have d1 : w6.cell? ⟨b2, o2 + j * 7 + 1, none⟩ = some (.int .i64 xt) := (HC6.out _).trans HD1.out
      have d2 : w6.cell? ⟨b2, o2 + j * 7 + 2, none⟩ = some (.int .u64 (uw0 xm)) := (HC6.out _).trans HD2.out
      have d3 : w6.cell? ⟨b2, o2 + j * 7 + 3, none⟩ = some (.int .u64 (uw1 xm)) := (HC6.out _).trans HD3.out
      have d4 : w6.cell? ⟨b2, o2 + j * 7 + 4, none⟩ = some (.int .u64 (uw2 xm)) := (HC6.out _).trans HD4.out
      have d5 : w6.cell? ⟨b2, o2 + j * 7 + 5, none⟩ = some (.int .u64 (uw3 xm)) := (HC6.out _).trans HD5.out
      have d6 : w6.cell? ⟨b2, o2 + j * 7 + 6, none⟩ = some (.slice ta tn tc) := (HC6.out _).trans HD6.out
      have q36 : w6.cell? ⟨Q, 36, none⟩ = some (.slice (some ⟨b2, o2, none⟩) n mc) := (Lib.cell_of_heap HQ6.out 36).trans (clC_36 _ _ _ HH.out _ _ _)
      clear HD0 HD1 HD2 HD3 HD4 HD5 HD6 HC6
      go_wp2_with (refine wpList_alloc_g rfl _ rfl _ _ Tryz.zeroLf rfl ?_)
      intro Y e2 hY
      go_wp2_with (refine wpList_store_row_g (t := 60) (old := lfZ) rfl 60 _ _ rfl Y (lfC xi xt xm (ta, tn, tc)) rfl rfl hY.out.cells Tryz.sizeLf rfl (lfC_one _ _ _ _) ?_)
      intro w7 h7 k7 z7
      have hb7 : Below w6.heap.size w6 w7 := hY.out.below.trans (k7.below (B := w6.heap.size) (fun x hx e => by have := hY.out.eq; omega) hY.out.below.size)
      have HY7 := Lib.hid h7; have HX7 := Lib.hid (below_at2 hb7 HX6.out); have HD7 := Lib.hid (HD6'.out.trans (hb7.mono HD6'.out.size)); have RX7 := Lib.hid (RX6.out.later hb7); have RY7 := Lib.hid (RY6.out.later hb7)
      clear hY h7 k7 z7 hb7 d0 d1 d2 d3 d4 d5 d6 q36 RX6 RY6 HD6' HX6 HQ6
      have x0 : w7.cell? ⟨X, 0, none⟩ = some (.int .i64 xi) := Lib.cell_of_heap HX7.out 0
      have x1 : w7.cell? ⟨X, 1, none⟩ = some (.int .i64 xt) := Lib.cell_of_heap HX7.out 1
      have x2 : w7.cell? ⟨X, 2, none⟩ = some (.int .u64 (uw0 xm)) := Lib.cell_of_heap HX7.out 2
      have x3 : w7.cell? ⟨X, 3, none⟩ = some (.int .u64 (uw1 xm)) := Lib.cell_of_heap HX7.out 3
      have x4 : w7.cell? ⟨X, 4, none⟩ = some (.int .u64 (uw2 xm)) := Lib.cell_of_heap HX7.out 4
      have x5 : w7.cell? ⟨X, 5, none⟩ = some (.int .u64 (uw3 xm)) := Lib.cell_of_heap HX7.out 5
      have x6 : w7.cell? ⟨X, 6, none⟩ = some (.slice sa sn sc) := Lib.cell_of_heap HX7.out 6
      have y0 : w7.cell? ⟨Y, 0, none⟩ = some (.int .i64 xi) := Lib.cell_of_heap HY7.out 0
      have y1 : w7.cell? ⟨Y, 1, none⟩ = some (.int .i64 xt) := Lib.cell_of_heap HY7.out 1
      have y2 : w7.cell? ⟨Y, 2, none⟩ = some (.int .u64 (uw0 xm)) := Lib.cell_of_heap HY7.out 2
      have y3 : w7.cell? ⟨Y, 3, none⟩ = some (.int .u64 (uw1 xm)) := Lib.cell_of_heap HY7.out 3
      have y4 : w7.cell? ⟨Y, 4, none⟩ = some (.int .u64 (uw2 xm)) := Lib.cell_of_heap HY7.out 4
      have y5 : w7.cell? ⟨Y, 5, none⟩ = some (.int .u64 (uw3 xm)) := Lib.cell_of_heap HY7.out 5
      have y6 : w7.cell? ⟨Y, 6, none⟩ = some (.slice ta tn tc) := Lib.cell_of_heap HY7.out 6
      have heu := Tryz.eqUT xm
      go_wp2_with fail
      refine (rhashes_any _ _ xp w7 RX7.out RY7.out HXA.out).mono ?_
      rintro e w8 ⟨rfl, hb8⟩
      have HD8 := Lib.hid (HD7.out.trans (hb8.mono HD7.out.size))
      clear hb8 HD7 x0 x1 x2 x3 x4 x5 x6 y0 y1 y2 y3 y4 y5 y6 heu HX7 HY7 RX7 RY7
      go_wp2_with fail
      go_roundw
      case rel => exact ⟨j + 1, by omega, by go_num, HD8⟩
      case measure => simp [intOf]; omega
    · obtain rfl : j = n := by omega
      go_wp2_with fail
      go_ret
      exact ⟨rfl, HBi.out⟩
end
section
open Go.RowKit

set_option maxRecDepth 100000 in
set_option maxHeartbeats 4000000 in
theorem tbuild2_any (w : World) (g : Nat) (a : Option Nat) (texts : List (List UInt8)) (k i : Int) (l : List (List UInt8)) (v : Value) (hT : ∀ w' a', Grew w g a w' a' → Texts w' v l) (ht : Tr w g a texts) (hf : Fair l) (htl : texts.length < 900000000) :
    Calls Tryz.prog 94 #[.pointer (some ⟨g, 0, none⟩), .int .i64 k, v, .int .i64 i] w fun e w' => ∃ v' a' nts, e = .returned (.tuple #[v', .int .i64 (proofE k l i)]) ∧ Own w' w.heap.size 36 hE 32 v' (proofV k l i) ∧ Grew w g a w' a' ∧ Tr w' g a' (texts ++ nts) ∧ nts.length ≤ 11264 := by
  obtain ⟨ad, cap, rfl, hc1, hc2⟩ := (hT w a (Grew.of_below g a (Below.refl _ _))).shape
  have H := Lib.hid hT; have HF := Lib.hid hf; have HT := Lib.hid ht
  clear hT hf ht
  obtain ⟨n, hn⟩ : ∃ n, n = l.length := ⟨_, rfl⟩
  rw [← hn] at hc1 H ⊢
  have HN := Lib.hid hn
  by_cases hy : whyF k l.length = 0
  · obtain ⟨hk, h1, hn1⟩ := why_zero hy
    rw [← hn] at h1 hn1
    have hyn : whyF k n = 0 := by rw [hn]; exact hy
    by_cases hi : i < 0 ∨ (n : Int) ≤ i
    · have hE : proofE k l i = 5 := by unfold proofE; rw [if_pos hy, if_pos (by rw [← hn]; exact hi)]
      have hV : proofV k l i = [] := by unfold proofV; rw [hE]; rfl
      rw [hE, hV]
      have HYN := Lib.hid hyn
      clear hE hV hy hyn hn
      have hi2 : i < 0 ∨ (¬ i < 0 ∧ (n : Int) ≤ i) := by omega
      clear hi
      rcases hi2 with hi | ⟨hi, hi3⟩
      all_goals
        go_enter Tryz.func94, Tryz.ntmps94
        go_wp2_with fail
        refine (twhy_any _ _ _ _ _).mono ?_
        rintro e w1 ⟨rfl, hw1⟩
        subst hw1
        rw [HYN.out]
        go_wp2_with fail
        go_ret2
        exact ⟨_, a, [], rfl, Own.nil _ _ _ _ _, Grew.of_below g a (Below.refl _ _), by rw [List.append_nil]; exact HT.out, Nat.zero_le _⟩
    · have hi1 : ¬ i < 0 := by omega
      have hi2 : ¬ (n : Int) ≤ i := by omega
      have hE : proofE k l i = 0 := by unfold proofE; rw [if_pos hy, if_neg (by rw [← hn]; exact hi)]
      have hV : proofV k l i = proofF k l i.toNat := by unfold proofV; rw [hE]; rfl
      rw [hE, hV]
      have HYN := Lib.hid hyn; have HK := Lib.hid hk
      clear hE hV hy hyn hn hi hk
      obtain ⟨i0, rfl⟩ : ∃ i0 : Nat, i = (i0 : Int) := ⟨i.toNat, by omega⟩
      rw [Int.toNat_natCast]
      have hin : i0 < n := by omega
      replace hi1 : ((i0 : Int) < 0) = False := eq_false hi1
      have hi3 : ¬ n ≤ i0 := by omega
      go_enter Tryz.func94, Tryz.ntmps94
      go_wp2_with fail
      refine (twhy_any _ _ _ _ _).mono ?_
      rintro e w1 ⟨rfl, hw1⟩
      subst hw1
      rw [HYN.out]
      go_wp2_with fail
      obtain ⟨d, hd⟩ : ∃ d, d = depthF l.length := ⟨_, rfl⟩
      have hd10 : d ≤ 10 := by rw [hd]; exact depthF_10 _ (by have := HN.out; omega)
      have HD := Lib.hid hd; have HN10 : Hid (l.length ≤ 1024) := Lib.hid (by have := HN.out; omega)
      clear hd
      refine (tlevels_any w g a texts k l _ H.out HT.out HK.out (by have := HN.out; omega) HN10.out HF.out htl).mono ?_
      rintro e w5 ⟨v5, a5, rfl, hr5, ht5, hg5⟩
      obtain ⟨rad, rcap, hv5, hrc1, hrc2⟩ := hr5.shape
      rw [levelsF_length, ← HD.out] at hv5 hrc1
      subst hv5
      obtain ⟨rb, ro, u0, hrad, hrb, _, _⟩ := hr5.at 0 (by rw [levelsF_length]; omega)
      subst hrad
      have hrow : ∀ j, j ≤ d → _ := fun j hj => rows_at hr5 j (by rw [← HD.out]; exact hj) HN10.out
      have HROW := Lib.hid hrow; have HG5 := Lib.hid hg5; have HT5 := Lib.hid ht5
      have HNT := Lib.hid (show (notesF k.toNat l).length ≤ 11264 from notesF_1024 _ HN10.out)
      clear hrow hr5 hg5 ht5
      go_wp2_with fail
      go_loopw [3, 12, 13] (fun x y z wr => ∃ j p : Nat, j ≤ d ∧ z = .int .i64 j ∧ Hid (p = i0 / 2 ^ j) ∧ x = .int .i64 p ∧ Own wr w5.heap.size 36 hE 32 y ((proofF k l i0).take j) ∧ Below w5.heap.size w5 wr) (fun _ _ z _ => d - (intOf z).toNat)
      case atStart => exact ⟨0, i0, Nat.zero_le _, rfl, Lib.hid (by simp), rfl, Own.nil _ _ _ _ _, Below.refl _ _⟩
      case round =>
        obtain ⟨j, p, hj, rfl, hp, rfl, hown, hb⟩ := hrel
        by_cases hjd2 : j < d
        · have hjd : (j : Int) < (d : Int) + 1 := by omega
          obtain ⟨pj, qj, rcj, h, hh, hh1, hh2, hrb5, hcj, hpj, hrdj⟩ := HROW.out j hj
          have hcw := (hb.cell (p := ⟨rb, ro + j, none⟩) hrb5).trans hcj
          have hlen : h = 2 ^ (d - j) := by rw [hh, rowN_pow k l j (by rw [← HD.out]; exact hj), HD.out]
          have hpl : p < 2 ^ (d - j) := by rw [hp.out, HD.out]; exact place_lt (by rw [← HN.out]; exact hin) (by rw [← HD.out]; exact hj)
          have hbl : bes p < h := by
            rw [hlen, show d - j = d - j - 1 + 1 by omega] at *
            exact bes_lt hpl
          rw [← hlen] at hpl
          have hj1 : (j : Int) + 1 < (d : Int) + 1 := by omega
          obtain ⟨y, hy⟩ : ∃ y, y = hAt (rowN k l j) (bes p) := ⟨_, rfl⟩
          have hy32 : y.length = 32 := by rw [hy]; exact hAt_length (rowN_32 _ _ _) _
          obtain ⟨_, _, e1, _, hrange⟩ := (hrdj.later hb).hash (rowN_32 _ _ _) (bes p) (by rw [← hh]; exact hbl)
          cases e1
          rw [← hAt_eq _ (bes p) (by rw [← hh]; exact hbl), ← hy] at hrange
          have htk := proofF_take k l i0 j (by rw [← HD.out]; exact hjd2)
          rw [← hp.out, ← hy] at htk
          have hlr : ((proofF k l i0).take j).length = j := by rw [List.length_take, proofF_length, ← HD.out]; omega
          obtain ⟨oad, on, ocap, hox⟩ := hown.slice
          subst hox
          obtain ⟨q, hq⟩ : ∃ q, q = bes p := ⟨_, rfl⟩
          have hq2 : (p % 2 = 1 ∧ (p : Int) - 1 = (q : Int)) ∨ (p % 2 = 0 ∧ (p : Int) + 1 = (q : Int)) := by
            rw [hq]; unfold bes
            rcases Nat.mod_two_eq_zero_or_one p with h0 | h0
            · right; rw [if_neg (by omega)]; exact ⟨h0, by omega⟩
            · left; rw [if_pos h0]; exact ⟨h0, by omega⟩
          have hbi : (q : Int) < (h : Int) := by omega
          rw [← hq] at hrange
          have HRG := Lib.hid hrange; have HY32 := Lib.hid hy32; have HTK := Lib.hid htk; have HOWN := Lib.hid hown; have HBR := Lib.hid hb; have HLR := Lib.hid hlr
          clear hrange hy hy32 htk hown hb hlr hh hlen hq hcj hrdj hbl hh1
          rcases hq2 with ⟨h0, h2⟩ | ⟨h0, h2⟩
          · have hm1 : ((p : Int) % 2 == 1) = true := by simp; omega
            have hw1 : IntKind.i64.wrap ((p : Int) - 1) = (q : Int) := by rw [h2]; exact IntWalk.i64_in _ (by omega)
            go_wp2_with (first
              | (refine wpList_load_mid rfl _ _ rfl pj (qj + q * 32) rfl (y.map byteV) _ HRG.out Tryz.underlying36 rfl (Tryz.sizeHm _ HY32.out) ?_)
              | (refine wpList_build1 rfl 42 _ rfl Tryz.underlying42 Tryz.infoHash rfl (by omega) (by omega) (.agg (c8 y)) (c8 y) rfl rfl (by rw [c8_size, HY32.out]) ?_)
              | (at_builtin; refine own_app rfl _ _ _ rfl Tryz.underlying42 Tryz.infoHash rfl (by omega) (B := w5.heap.size) (base := w5.heap.size) (w0 := w5) (us := c8 y) y HOWN.out rfl rfl (by rw [hE_32 _ HY32.out]; rfl) (hE_len _) (hE_one _) (by rw [HLR.out]; unfold maxLen; omega) (by rw [HLR.out]; omega) HBR.out (Nat.le_refl _) HBR.out.size (Nat.le_refl _) ?_))
            intro v' w7 hown7 hb7 hg7 _
            obtain ⟨oad', on', ocap', hox⟩ := hown7.slice
            subst hox
            rw [← HTK.out] at hown7
            have HO7 := Lib.hid hown7; have HB7 := Lib.hid hb7
            clear hown7 hb7 hg7 hcw
            go_wp2_with fail
            go_roundw
            case rel => exact ⟨j + 1, p / 2, by omega, by go_num, Lib.hid (by rw [hp.out, place_next]), by go_num, HO7.out, HB7.out⟩
            case measure => simp [intOf]; omega
          · have hm1 : ((p : Int) % 2 == 1) = false := by simp; omega
            have hw1 : IntKind.i64.wrap ((p : Int) + 1) = (q : Int) := by rw [h2]; exact IntWalk.i64_in _ (by omega)
            go_wp2_with (first
              | (refine wpList_load_mid rfl _ _ rfl pj (qj + q * 32) rfl (y.map byteV) _ HRG.out Tryz.underlying36 rfl (Tryz.sizeHm _ HY32.out) ?_)
              | (refine wpList_build1 rfl 42 _ rfl Tryz.underlying42 Tryz.infoHash rfl (by omega) (by omega) (.agg (c8 y)) (c8 y) rfl rfl (by rw [c8_size, HY32.out]) ?_)
              | (at_builtin; refine own_app rfl _ _ _ rfl Tryz.underlying42 Tryz.infoHash rfl (by omega) (B := w5.heap.size) (base := w5.heap.size) (w0 := w5) (us := c8 y) y HOWN.out rfl rfl (by rw [hE_32 _ HY32.out]; rfl) (hE_len _) (hE_one _) (by rw [HLR.out]; unfold maxLen; omega) (by rw [HLR.out]; omega) HBR.out (Nat.le_refl _) HBR.out.size (Nat.le_refl _) ?_))
            intro v' w7 hown7 hb7 hg7 _
            obtain ⟨oad', on', ocap', hox⟩ := hown7.slice
            subst hox
            rw [← HTK.out] at hown7
            have HO7 := Lib.hid hown7; have HB7 := Lib.hid hb7
            clear hown7 hb7 hg7 hcw
            go_wp2_with fail
            go_roundw
            case rel => exact ⟨j + 1, p / 2, by omega, by go_num, Lib.hid (by rw [hp.out, place_next]), by go_num, HO7.out, HB7.out⟩
            case measure => simp [intOf]; omega
        · obtain rfl : j = d := by omega
          rw [List.take_of_length_le (by rw [proofF_length, ← HD.out]; exact Nat.le_refl _)] at hown
          obtain ⟨oad, on, ocap, hox⟩ := hown.slice
          subst hox
          have HRD := Lib.hid (hown.mono HG5.out.1.size); have HBR := Lib.hid (HG5.out.trans (Grew.of_below g a5 hb)); have HTR := Lib.hid (HT5.out.later hb)
          clear hown hb
          go_wp2_with fail
          go_ret2
          exact ⟨_, a5, _, rfl, HRD.out, HBR.out, HTR.out, HNT.out⟩
  · have hE : proofE k l i = whyF k l.length := by unfold proofE; rw [if_neg hy]
    have hV : proofV k l i = [] := by unfold proofV; rw [hE, if_neg hy]
    rw [hE, hV]
    have hne : (whyF k l.length != 0) = true := by simpa using hy
    obtain ⟨ye, hye⟩ : ∃ ye, ye = whyF k l.length := ⟨_, rfl⟩
    rw [← hye] at hne ⊢
    have HYN : Hid (whyF k n = ye) := Lib.hid (by rw [hn]; exact hye.symm)
    clear hE hV hy hn hye
    go_enter Tryz.func94, Tryz.ntmps94
    go_wp2_with fail
    refine (twhy_any _ _ _ _ _).mono ?_
    rintro e w1 ⟨rfl, hw1⟩
    subst hw1
    rw [HYN.out]
    go_wp2_with fail
    go_ret2
    exact ⟨_, a, [], rfl, Own.nil _ _ _ _ _, Grew.of_below g a (Below.refl _ _), by rw [List.append_nil]; exact HT.out, Nat.zero_le _⟩
end
section
open Go.RowKit

/-- A claim of slices of a call's own. -/
def ClO (w : World) (v : Value) (c : CCl) : Prop := ∃ (p lv : SlV) (xs : List (CLf × SlV)), v = .agg (clC c.root c.idx c.e c.h p lv c.to) ∧ Own w 0 36 hE 32 (slV p) c.p ∧ OLf w 0 lv xs ∧ xs.map (·.1) = c.lv
theorem ClO.rd {w : World} {v : Value} {c : CCl} (h : ClO w v c) : ClAt w v c := by
  obtain ⟨p, lv, xs, h1, h2, h3, h4⟩ := h
  exact ⟨p, lv, h1, h2.rd hE_len, by rw [← h4]; exact h3.rd⟩
theorem ClO.later {w w' : World} {v : Value} {c : CCl} (h : ClO w v c) (hb : Below w.heap.size w w') : ClO w' v c := by
  obtain ⟨p, lv, xs, h1, h2, h3, h4⟩ := h
  exact ⟨p, lv, xs, h1, h2.later hb, h3.later hb, h4⟩
theorem OLf.grew {w w' : World} {g : Nat} {a a' : Option Nat} {texts : List (List UInt8)} {B : Nat} {lv : SlV} {xs : List (CLf × SlV)} (h : OLf w B lv xs) (ht : Tr w g a texts) (hg : Grew w g a w' a') : OLf w' B lv xs :=
  ⟨own_grew h.1 ht hg (by decide), fun x hx => own_grew (h.2 x hx) ht hg (by decide)⟩
theorem ClO.grew {w w' : World} {g : Nat} {a a' : Option Nat} {texts : List (List UInt8)} {v : Value} {c : CCl} (h : ClO w v c) (ht : Tr w g a texts) (hg : Grew w g a w' a') : ClO w' v c := by
  obtain ⟨p, lv, xs, h1, h2, h3, h4⟩ := h
  exact ⟨p, lv, xs, h1, own_grew h2 ht hg (by decide), h3.grew ht hg, h4⟩
def ccZ : CCl := ⟨0, 0, 0, zero32, [], [], 0⟩
theorem ClO.zero (w : World) : ClO w (.agg clZ) ccZ := ⟨nilS, nilS, [], rfl, Own.nil _ _ _ _ _, OLf.nil _ _, rfl⟩
/-- The claim, and the error, of an answer. -/
def clmV : Except Int CCl → CCl
  | .error _ => ccZ
  | .ok c => c
def clmE : Except Int CCl → Int
  | .error k => k
  | .ok _ => 0
def ClaimRet2 (w : World) (x : Except Int CCl) (e : Ending) (w' : World) : Prop := Below w.heap.size w w' ∧ match x with
  | .error k => e = .returned (.tuple #[.agg clZ, .int .i64 k])
  | .ok c => ∃ v, e = .returned (.tuple #[v, .int .i64 0]) ∧ ClO w' v c
theorem ClaimRet2.out {w w' : World} {x : Except Int CCl} {e : Ending} (h : ClaimRet2 w x e w') : ∃ v, e = .returned (.tuple #[v, .int .i64 (clmE x)]) ∧ ClO w' v (clmV x) ∧ Below w.heap.size w w' := by
  obtain ⟨hb, h⟩ := h
  cases x with
  | error k => exact ⟨_, h, ClO.zero _, hb⟩
  | ok c => obtain ⟨v, h1, h2⟩ := h; exact ⟨v, h1, h2, hb⟩
set_option maxHeartbeats 16000000 in
set_option maxRecDepth 100000 in
theorem lclaim2_any (w : World) (v vt : Value) (l : List LRow) (e : Int) (ts : List Int) (hr : Rd w rowE 6 v l) (hok : ∀ r ∈ l, ROk r) (hlen : l.length < 1000000000) (ht : Rd w intE 1 vt ts) (htn : ts.length < 1000000000) :
    Calls Tryz.prog 19 #[v, .int .i64 e, vt] w (ClaimRet2 w (claimR l e ts)) := by
  obtain ⟨tad, tcap, rfl, _, _⟩ := ht.shape
  obtain ⟨tn, htn'⟩ : ∃ n, n = ts.length := ⟨_, rfl⟩
  rw [← htn'] at ht htn ⊢
  obtain ⟨CR, hCR⟩ : ∃ x, x = claimR l e ts := ⟨_, rfl⟩
  rw [← hCR]
  have HR := Lib.hid hr; have HOK := Lib.hid hok; have HL := Lib.hid hlen; have HTS := Lib.hid ht; have HTN := Lib.hid htn'; have HCR := Lib.hid hCR
  clear hr hok hlen ht htn' hCR
  go_enter Tryz.func19, Tryz.ntmps19
  go_wp2_with (refine wpList_alloc_g rfl _ rfl _ _ Tryz.zeroCl rfl ?_)
  obtain ⟨w1, hw1⟩ : ∃ w1, w1 = w.alloc (.cells #[.int .i64 e] 3) := ⟨_, rfl⟩
  rw [← hw1]
  obtain ⟨A, hA⟩ : ∃ A, A = w.heap.size := ⟨_, rfl⟩
  rw [← hA]
  have hb1 : Below w.heap.size w w1 := by rw [hw1]; exact (Below.refl _ _).alloc (Nat.le_refl _) _
  have hA1 : w1.heap[A]? = some (.cells #[.int .i64 e] 3 (0, 0)) := by rw [hw1, hA]; exact heap_alloc_new _ _
  intro R w2 hR
  have HA2 := Lib.hid (below_at2 hR.out.below hA1); have HR2 := Lib.hid hR.out.cells; have HB2 := Lib.hid (hb1.trans (hR.out.below.mono hb1.size))
  have WR := Lib.hid (show w.heap.size ≤ R ∧ A < R by have := hR.out.eq; have := hb1.size; have := heap_lt hA1; omega)
  clear hw1 hA hb1 hA1 hR
  go_wp2_with fail
  refine (of_any w2 v l (HR.out.later HB2.out) HOK.out HL.out).mono ?_
  rintro e0 w3 ⟨hb3, hF⟩
  have HA3 := Lib.hid (below_at2 hb3 HA2.out); have HR3 := Lib.hid (below_at2 hb3 HR2.out); have HB3 := Lib.hid (HB2.out.trans (hb3.mono HB2.out.size))
  clear hb3 HA2 HR2 HB2
  rcases hF with ⟨hF, rfl⟩ | ⟨s, vg, vo, raws, b, hF, rfl, hvg, hgp, htx⟩
  · have HV := Lib.hid (show CR = .error 2 by rw [HCR.out]; exact claimR_none _ _ hF)
    clear hF
    go_wp2_with (refine wpList_alloc_g rfl _ rfl _ _ Tryz.zeroTab rfl ?_)
    intro T w4 hT
    go_wp2_with (refine wpList_store_row_g (t := 148) (old := #[.slice none 0 0, .slice none 0 0]) rfl 148 _ _ rfl T #[.slice none 0 0, .slice none 0 0] rfl rfl hT.out.cells Tryz.sizeTab rfl (one_sl2 _ _ _ _ _ _) ?_)
    intro w5 h5 k5 z5
    have hb5 : Below w3.heap.size w3 w5 := hT.out.below.trans (k5.below (B := w3.heap.size) (fun q hq e => by have := hT.out.eq; omega) hT.out.below.size)
    have HT5 := Lib.hid h5
    have HA5 := Lib.hid (below_at2 hb5 HA3.out); have HR5 := Lib.hid (below_at2 hb5 HR3.out); have HB5 := Lib.hid (HB3.out.trans (hb5.mono HB3.out.size))
    clear hT h5 k5 z5 hb5 HA3 HR3 HB3
    go_wp2_with (refine wpList_store_row_g (t := 45) (old := clZ) rfl 45 _ _ rfl R clZ rfl rfl HR5.out (Tryz.sizeCl _ _ _ zero32_length _ _ _) rfl (clC_one _ _ _ _ _ _ _) ?_)
    intro wq hq5 kq5 zq5
    have HQ5 := Lib.hid hq5
    have HQ6 := Lib.hid (kq5.onto HB5.out (Nat.le_refl _) WR.out.1)
    clear hq5 kq5 zq5
    go_wp2_with fail
    exact bodyPost_ret (res_row_val rfl _ _ R _ clZ _ _ rfl HQ5.out Tryz.underlying45 rfl (Tryz.sizeCl _ _ _ zero32_length _ _ _) _ rfl) rfl (show ClaimRet2 w CR _ _ by rw [HV.out]; exact ⟨HQ6.out, rfl⟩)
  · obtain ⟨ad1, cap1, rfl, _, _⟩ := hvg.shape
    obtain ⟨n1, hn1⟩ : ∃ n, n = raws.length := ⟨_, rfl⟩
    rw [← hn1] at hvg ⊢
    obtain ⟨ad2, cap2, rfl, _, _⟩ := htx.shape
    obtain ⟨n2, hn2⟩ : ∃ n, n = (tableL s).length := ⟨_, rfl⟩
    rw [← hn2] at htx ⊢
    have HF := Lib.hid hF; have HVG := Lib.hid hvg; have HGP := Lib.hid hgp; have HTX := Lib.hid htx; have HN1 := Lib.hid hn1; have HSO := Lib.hid (sort_ok hF HOK.out)
    clear hF hvg hgp htx hn1 hn2
    go_wp2_with (refine wpList_alloc_g rfl _ rfl _ _ Tryz.zeroTab rfl ?_)
    intro T w4 hT
    go_wp2_with (refine wpList_store_row_g (t := 148) (old := #[.slice none 0 0, .slice none 0 0]) rfl 148 _ _ rfl T #[.slice ad1 n1 cap1, .slice ad2 n2 cap2] rfl rfl hT.out.cells Tryz.sizeTab rfl (one_sl2 _ _ _ _ _ _) ?_)
    intro w5 h5 k5 z5
    have hb5 : Below w3.heap.size w3 w5 := hT.out.below.trans (k5.below (B := w3.heap.size) (fun q hq e => by have := hT.out.eq; omega) hT.out.below.size)
    have HT5 := Lib.hid h5
    have HA5 := Lib.hid (below_at2 hb5 HA3.out); have HR5 := Lib.hid (below_at2 hb5 HR3.out); have HB5 := Lib.hid (HB3.out.trans (hb5.mono HB3.out.size))
    have HVG5 := Lib.hid (HVG.out.later hb5); have HGP5 := Lib.hid (HGP.out.later hb5); have HTX5 := Lib.hid (HTX.out.later hb5)
    clear hT h5 k5 z5 hb5 HA3 HR3 HB3 HVG HGP HTX
    have hm : n1 < 1000000 := by have := HN1.out; have := HGP5.out.1; have := (groupsF_mem s).1; have := HSO.out.2.2; omega
    rcases (show tn = 0 ∨ 8 < tn ∨ (¬ tn = 0 ∧ tn ≤ 8) by omega) with h0 | h8 | ⟨h0, h8⟩
    · subst h0
      have HV := Lib.hid (show CR = .error 2 by rw [HCR.out]; exact claimR_len _ HF.out (.inl HTN.out.symm))
      go_wp2_with (refine wpList_store_row_g (t := 45) (old := clZ) rfl 45 _ _ rfl R clZ rfl rfl HR5.out (Tryz.sizeCl _ _ _ zero32_length _ _ _) rfl (clC_one _ _ _ _ _ _ _) ?_)
      intro wq hq5 kq5 zq5
      have HQ5 := Lib.hid hq5
      have HQ6 := Lib.hid (kq5.onto HB5.out (Nat.le_refl _) WR.out.1)
      clear hq5 kq5 zq5
      go_wp2_with fail
      exact bodyPost_ret (res_row_val rfl _ _ R _ clZ _ _ rfl HQ5.out Tryz.underlying45 rfl (Tryz.sizeCl _ _ _ zero32_length _ _ _) _ rfl) rfl (show ClaimRet2 w CR _ _ by rw [HV.out]; exact ⟨HQ6.out, rfl⟩)
    · have HV := Lib.hid (show CR = .error 2 by rw [HCR.out]; exact claimR_len _ HF.out (.inr (by have := HTN.out; omega)))
      have h0 : ((tn : Int) == 0) = false := by simp; omega
      have h9 : (8 : Int) < (tn : Int) := by omega
      clear h8
      go_wp2_with (refine wpList_store_row_g (t := 45) (old := clZ) rfl 45 _ _ rfl R clZ rfl rfl HR5.out (Tryz.sizeCl _ _ _ zero32_length _ _ _) rfl (clC_one _ _ _ _ _ _ _) ?_)
      intro wq hq5 kq5 zq5
      have HQ5 := Lib.hid hq5
      have HQ6 := Lib.hid (kq5.onto HB5.out (Nat.le_refl _) WR.out.1)
      clear hq5 kq5 zq5
      go_wp2_with fail
      exact bodyPost_ret (res_row_val rfl _ _ R _ clZ _ _ rfl HQ5.out Tryz.underlying45 rfl (Tryz.sizeCl _ _ _ zero32_length _ _ _) _ rfl) rfl (show ClaimRet2 w CR _ _ by rw [HV.out]; exact ⟨HQ6.out, rfl⟩)
    · have HTL := Lib.hid (show ¬ (ts.length = 0 ∨ 8 < ts.length) by have := HTN.out; omega)
      have h10 : ((tn : Int) == 0) = false := by simp; omega
      have h9 : ¬ (8 : Int) < (tn : Int) := by omega
      have cT0 : w5.cell? ⟨T, 0, none⟩ = some (.slice ad1 n1 cap1) := Lib.cell_of_heap HT5.out 0
      go_wp2_with fail
      refine (idxC_any w5 A (fun g => decide (g.1 = e)) _ raws HVG5.out (by have := HN1.out; omega) (fun W hb x _ => claim1_any e A x.1 x.2.1 x.2.2.1 x.2.2.2 W (below_at2 hb HA5.out))).mono ?_
      rintro e6 w6 ⟨rfl, hb6⟩
      have HA6 := Lib.hid (below_at2 hb6 HA5.out); have HR6 := Lib.hid (below_at2 hb6 HR5.out); have HT6 := Lib.hid (below_at2 hb6 HT5.out); have HB6 := Lib.hid (HB5.out.trans (hb6.mono HB5.out.size))
      have HVG6 := Lib.hid (HVG5.out.later hb6); have HGP6 := Lib.hid (HGP5.out.later hb6); have HTX6 := Lib.hid (HTX5.out.later hb6)
      clear hb6 HA5 HR5 HT5 HB5 HVG5 HTX5 cT0
      have hfq := HGP5.out.fidx e
      have hcase := fidx_at2 (fun g : Int × SlV => decide (g.1 = e)) raws
      obtain ⟨q, hq⟩ : ∃ q, q = fidx (fun g : Int × SlV => decide (g.1 = e)) raws := ⟨_, rfl⟩
      rw [← hq] at hcase hfq ⊢
      have HFQ := Lib.hid hfq.symm
      clear hq hfq HGP5
      rcases hcase with rfl | ⟨qi, hqi, rfl⟩
      · have HV := Lib.hid (show CR = .error 8 by rw [HCR.out]; exact claimR_no HF.out HTL.out HFQ.out)
        go_wp2_with (refine wpList_store_row_g (t := 45) (old := clZ) rfl 45 _ _ rfl R clZ rfl rfl HR6.out (Tryz.sizeCl _ _ _ zero32_length _ _ _) rfl (clC_one _ _ _ _ _ _ _) ?_)
        intro wq hq5 kq5 zq5
        have HQ5 := Lib.hid hq5
        have HQ6 := Lib.hid (kq5.onto HB6.out (Nat.le_refl _) WR.out.1)
        clear hq5 kq5 zq5
        go_wp2_with fail
        exact bodyPost_ret (res_row_val rfl _ _ R _ clZ _ _ rfl HQ5.out Tryz.underlying45 rfl (Tryz.sizeCl _ _ _ zero32_length _ _ _) _ rfl) rfl (show ClaimRet2 w CR _ _ by rw [HV.out]; exact ⟨HQ6.out, rfl⟩)
      · have hqn : qi < n1 := by have := HN1.out; omega
        have hig : qi < (groupsF s).length := by have := HGP6.out.1; omega
        obtain ⟨gb, goff, rfl, _, c0, c1⟩ := HVG6.out.grp qi hqi
        have hpr := HGP6.out.2.1 qi raws[qi] (groupsF s)[qi] (List.getElem?_eq_getElem hqi) (List.getElem?_eq_getElem hig)
        have hgm := (groupsF_mem s).2 (groupsF s)[qi] (List.getElem_mem hig)
        have hgok := (groups_ok HSO.out.1 (groupsF s)[qi] (List.getElem_mem hig)).2
        have hcl := claimR_at HF.out HTL.out HFQ.out (List.getElem?_eq_getElem hig)
        rw [← HCR.out] at hcl
        obtain ⟨⟨ge, ga, gn, gc⟩, hraw⟩ : ∃ x, x = raws[qi] := ⟨_, rfl⟩
        rw [← hraw] at c0 c1 hpr
        obtain ⟨g, hg⟩ : ∃ g, g = (groupsF s)[qi] := ⟨_, rfl⟩
        rw [← hg] at hgm hpr hgok hcl
        clear hraw hg hqi
        obtain ⟨g1, g2⟩ := g
        simp only [] at c0 c1 hgok hcl
        have hgn : gn = g2.length := hpr.2.size
        have HGR := Lib.hid (show Rd w6 rowE 6 (.slice ga gn gc) g2 from hpr.2)
        have HGNE := Lib.hid (show g2 ≠ [] from hgm.1)
        have HGO := Lib.hid hgok; have HCL := Lib.hid hcl
        have HGN := Lib.hid (show gn = g2.length ∧ gn ≤ 1024 ∧ gn < 1000000 by have := HSO.out.2.2; have : g2.length ≤ s.length := hgm.2.1; omega)
        have HIG := Lib.hid hig
        clear hgm hgn hpr hgok hcl hig
        have cT0 : w6.cell? ⟨T, 0, none⟩ = some (.slice (some ⟨gb, goff, none⟩) n1 cap1) := Lib.cell_of_heap HT6.out 0
        go_wp2_with (refine wpList_alloc_g rfl _ rfl _ _ Tryz.zeroGrp rfl ?_)
        intro G d1 hG
        go_wp2_with (refine wpList_store_row_g (t := 157) (old := #[.int .i64 0, .slice none 0 0]) rfl 157 _ _ rfl G #[.int .i64 ge, .slice ga gn gc] rfl rfl hG.out.cells Tryz.sizeGrp rfl (one_grp _ _ _ _) ?_)
        intro w7 h7 k7 z7
        have hb7 : Below w6.heap.size w6 w7 := hG.out.below.trans (k7.below (B := w6.heap.size) (fun x hx e => by have := hG.out.eq; omega) hG.out.below.size)
        have HG7 := Lib.hid h7
        have HA7 := Lib.hid (below_at2 hb7 HA6.out); have HR7 := Lib.hid (below_at2 hb7 HR6.out); have HT7 := Lib.hid (below_at2 hb7 HT6.out); have HB7 := Lib.hid (HB6.out.trans (hb7.mono HB6.out.size))
        have HTX7 := Lib.hid (HTX6.out.later hb7); have HGR7 := Lib.hid (HGR.out.later hb7)
        clear hG h7 k7 z7 hb7 HA6 HR6 HT6 HB6 HVG6 HGP6 HTX6 cT0 c0 c1 HGR
        have cA7 : w7.cell? ⟨A, 0, none⟩ = some (.int .i64 e) := Lib.cell_of_heap HA7.out 0
        go_wp2_with (refine wpList_alloc_g rfl _ rfl _ _ Tryz.zeroCl rfl ?_)
        intro C d2 hC
        go_wp2_with (refine wpList_store_row_g (t := 45) (old := clZ) rfl 45 _ _ rfl C (clC 0 qi e zero32 nilS nilS e) rfl rfl hC.out.cells (Tryz.sizeCl _ _ _ zero32_length _ _ _) rfl (clC_one _ _ _ _ _ _ _) ?_)
        intro w8 h8' k8 z8
        have WC := Lib.hid (show C = w7.heap.size ∧ w.heap.size ≤ C ∧ A < C ∧ R < C ∧ T < C ∧ G < C by
          have h1 := hC.out.eq; have := heap_lt HA7.out; have := heap_lt HR7.out; have := heap_lt HT7.out; have := heap_lt HG7.out; have := HB7.out.size; omega)
        have HD8 := Lib.hid (hC.out.below.trans (k8.below (B := w7.heap.size) (fun x hx e => by have := hC.out.eq; omega) hC.out.below.size))
        have HC8 := Lib.hid h8'
        clear hC h8' k8 z8 cA7
        have cG0 : w8.cell? ⟨G, 0, none⟩ = some (.int .i64 ge) := Lib.cell_of_heap (below_at2 HD8.out HG7.out) 0
        have cG1 : w8.cell? ⟨G, 1, none⟩ = some (.slice ga gn gc) := Lib.cell_of_heap (below_at2 HD8.out HG7.out) 1
        go_wp2_with fail
        refine (leaves_any w8 ge ga gn gc g2 (HGR7.out.later HD8.out) HGO.out HGN.out.2.2).mono ?_
        rintro e9 w9 ⟨v9, rfl, htx, hb9⟩
        have HTY := Lib.hid htx
        have HC9 := Lib.hid (below_at2 hb9 HC8.out); have HD9 := Lib.hid (HD8.out.trans (hb9.mono HD8.out.size))
        clear htx hb9 HC8 HD8 cG0 cG1
        go_wp2_with fail
        refine (mroot_any 2 (leavesG g2) v9 w9 HTY.out (fair_leaves HGO.out)).mono ?_
        rw [root_good (.inr rfl) (by intro h; have := congrArg List.length h; rw [leavesG_len] at this; exact HGNE.out (List.eq_nil_of_length_eq_zero this)) (by rw [leavesG_len]; have := HGN.out; omega)]
        rintro e10 w10 ⟨rfl, hb10⟩
        obtain ⟨rt, hrt⟩ : ∃ rt, rt = rootF 2 (leavesG g2) := ⟨_, rfl⟩
        have hr2 : rootF (2 : Int).toNat (leavesG g2) = rt := by rw [hrt]; rfl
        rw [hr2]
        have HRT := Lib.hid hrt; have HR32 := Lib.hid (show rt.length = 32 by rw [hrt]; exact rootF_32 _ _)
        have HC10 := Lib.hid (below_at2 hb10 HC9.out); have HD10 := Lib.hid (HD9.out.trans (hb10.mono HD9.out.size))
        clear hrt hr2 hb10 HC9 HD9 HTY
        go_wp2_with (refine wpList_store_part_l rfl 36 _ _ rfl C 3 (c8 rt) rfl rfl 45 _ HC10.out (Tryz.sizeHc rt HR32.out) (by rw [clC_size _ _ _ zero32_length, c8_size, HR32.out]; omega) (c8_ones rt) (clC 0 qi e rt nilS nilS e) (clC_hash _ _ _ zero32_length HR32.out _ _ _) ?_)
        intro w11 h11 k11 z11
        have HC11 := Lib.hid h11; have HD11 := Lib.hid (k11.onto HD10.out (Nat.le_refl _) (by have := WC.out; omega))
        clear h11 k11 z11 HC10 HD10
        have cT1 : w11.cell? ⟨T, 1, none⟩ = some (.slice ad2 n2 cap2) := Lib.cell_of_heap (below_at2 HD11.out HT7.out) 1
        go_wp2_with fail
        refine (pbuild_any 1 qi (tableL s) (.slice ad2 n2 cap2) w11 (HTX7.out.later HD11.out) (fair_table HSO.out.1)).mono ?_
        have hpv := proofV_good (k := 1) (i := qi) (l := tableL s) (.inl rfl) (table_ne HSO.out.2.1) (table_1024 HSO.out.2.2) (by rw [tableL_len]; exact HIG.out)
        rw [hpv.1, hpv.2]
        rintro e12 w12 ⟨v12, rfl, hown, hb12⟩
        clear hpv
        obtain ⟨ad6, cap6, rfl, _, _⟩ := (hown.rd hE_len).shape
        obtain ⟨k6, hk6⟩ : ∃ k, k = (proofF 1 (tableL s) qi).length := ⟨_, rfl⟩
        rw [← hk6] at hown ⊢
        have HPR := Lib.hid (show Own w12 w11.heap.size 36 hE 32 (slV (ad6, k6, cap6)) (proofF 1 (tableL s) qi) from hown)
        have HC12 := Lib.hid (below_at2 hb12 HC11.out); have HD12 := Lib.hid (HD11.out.trans (hb12.mono HD11.out.size))
        have WCz := Lib.hid (show C < w11.heap.size from heap_lt HC11.out)
        clear hown hb12 hk6 HC11 HD11 cT1
        go_wp2_with (refine wpList_store1_g rfl 42 _ _ rfl C 35 (.slice ad6 k6 cap6) rfl rfl rfl rfl 45 _ HC12.out Tryz.sizeHashes (by rw [clC_size _ _ _ HR32.out]; omega) (clC 0 qi e rt (ad6, k6, cap6) nilS e) (clC_proof _ _ _ HR32.out _ (ad6, k6, cap6) _ _) ?_)
        intro w13 h13 k13 z13
        have HC13 := Lib.hid h13; have HD13 := Lib.hid (k13.onto HD12.out (Nat.le_refl _) (by have := WC.out; omega))
        have HP13 := Lib.hid (HPR.out.keep k13 fun k e he => by have := (HPR.out.lt k e).1; have := WCz.out; omega)
        clear h13 k13 z13 HC12 HD12 HPR
        obtain ⟨M, hM⟩ : ∃ M, M = w13.heap.size := ⟨_, rfl⟩
        have HM := Lib.hid hM
        have WM := Lib.hid (show C < M ∧ w7.heap.size ≤ M by have := heap_lt HC13.out; have := HD13.out.size; omega)
        clear hM
        go_wp2_with fail
        go_loopw [68] (fun y wr => ∃ (i : Nat) (lv : SlV) (xs : List (CLf × SlV)), y = .int .i64 i ∧ i ≤ tn ∧ Hid (wr.heap[C]? = some (.cells (clC 0 qi e rt (ad6, k6, cap6) lv e) 45 (0, 0))) ∧ Hid (OLf wr M lv xs) ∧ Hid (openAll g2 (ts.take i) = some (xs.map (·.1))) ∧ Hid (xs.length = i) ∧ Hid (Keep (· = C) w13 wr)) (fun y _ => tn - (intOf y).toNat)
        case atStart => exact ⟨0, nilS, [], rfl, by omega, HC13, Lib.hid (OLf.nil _ _), Lib.hid rfl, Lib.hid rfl, Lib.hid (Keep.refl _ _)⟩
        case round =>
          clear HC13
          obtain ⟨i, lv, xs, rfl, hin, HCi, HO, HOA, HXL, HK⟩ := hrel
          have HDi := Lib.hid (HK.out.onto HD13.out (Nat.le_refl _) (by have := WC.out; omega))
          have HBi := Lib.hid (HB7.out.trans (HDi.out.mono HB7.out.size))
          have HRi := Lib.hid (below_at2 HDi.out HR7.out)
          by_cases hlt : i < tn
          · have hi : i < ts.length := by have := HTN.out; omega
            obtain ⟨tb, toff, rfl, ct⟩ := (HTS.out.later HBi.out).i64 i hi
            have hoa := openAll_snoc ts[i] HOA.out
            rw [← List.take_succ_eq_append_getElem hi] at hoa
            have hno := fun h => openAll_none (us := ts.drop (i + 1)) (show openAll g2 (ts.take (i + 1)) = none from h)
            rw [List.take_append_drop] at hno
            obtain ⟨t, htt⟩ : ∃ t, t = ts[i] := ⟨_, rfl⟩
            rw [← htt] at ct hoa
            have HOS := Lib.hid hoa; have HNO := Lib.hid hno
            clear htt hoa hno hi
            have cG0 : wr.cell? ⟨G, 0, none⟩ = some (.int .i64 ge) := Lib.cell_of_heap (below_at2 HDi.out HG7.out) 0
            have cG1 : wr.cell? ⟨G, 1, none⟩ = some (.slice ga gn gc) := Lib.cell_of_heap (below_at2 HDi.out HG7.out) 1
            go_wp2_with fail
            refine (gopen_any wr ge t ga gn gc g2 (HGR7.out.later HDi.out) HGO.out HGN.out.2.1 HGNE.out).mono ?_
            rintro e14 w14 ⟨hb14, hret⟩
            clear cG0 cG1 ct
            have HC14 := Lib.hid (below_at2 hb14 HCi.out); have HO14 := Lib.hid (HO.out.later hb14); have HK14 := Lib.hid (HK.out.then_below hb14); have HR14 := Lib.hid (below_at2 hb14 HRi.out); have HB14 := Lib.hid (HBi.out.trans (hb14.mono HBi.out.size))
            clear hb14 HCi HO HK HDi HRi HBi
            rcases hret with ⟨hf, rfl⟩ | ⟨oi, r, s', hf, hri, rfl, hpo⟩
            · have HV := Lib.hid (show CR = .error 8 by rw [HCL.out, HNO.out (by rw [HOS.out, open1_no hf]; rfl)])
              clear hf
              go_wp2_with (refine wpList_alloc_g rfl _ rfl _ _ Tryz.zeroLf rfl ?_)
              intro L d3 hL
              go_wp2_with (refine wpList_store_row_g (t := 60) (old := lfZ) rfl 60 _ _ rfl L lfZ rfl rfl hL.out.cells Tryz.sizeLf rfl (by simp [lfZ, Value.oneCell']) ?_)
              intro w15 h15 k15 z15
              have hb15 : Below w14.heap.size w14 w15 := hL.out.below.trans (k15.below (B := w14.heap.size) (fun x hx e => by have := hL.out.eq; omega) hL.out.below.size)
              have HR15 := Lib.hid (below_at2 hb15 HR14.out); have HB15 := Lib.hid (HB14.out.trans (hb15.mono HB14.out.size))
              clear hL h15 k15 z15 hb15
              go_wp2_with (refine wpList_store_row_g (t := 45) (old := clZ) rfl 45 _ _ rfl R clZ rfl rfl HR15.out (Tryz.sizeCl _ _ _ zero32_length _ _ _) rfl (clC_one _ _ _ _ _ _ _) ?_)
              intro wq hq5 kq5 zq5
              have HQ5 := Lib.hid hq5
              have HQ6 := Lib.hid (kq5.onto HB15.out (Nat.le_refl _) WR.out.1)
              clear hq5 kq5 zq5
              go_wp2_with fail
              exact bodyPost_ret (res_row_val rfl _ _ R _ clZ _ _ rfl HQ5.out Tryz.underlying45 rfl (Tryz.sizeCl _ _ _ zero32_length _ _ _) _ rfl) rfl (show ClaimRet2 w CR _ _ by rw [HV.out]; exact ⟨HQ6.out, rfl⟩)
            · have HOS2 := Lib.hid (show openAll g2 (ts.take (i + 1)) = some (xs.map (·.1) ++ [⟨oi, t, r.m, proofF 2 (leavesG g2) oi⟩]) by rw [HOS.out, open1_yes hf hri]; rfl)
              have HPO := Lib.hid hpo
              clear hf hri hpo
              obtain ⟨sa, sn, sc⟩ := s'
              obtain ⟨la, ln, lc⟩ := lv
              go_wp2_with (refine wpList_alloc_g rfl _ rfl _ _ Tryz.zeroLf rfl ?_)
              intro L d3 hL
              go_wp2_with (refine wpList_store_row_g (t := 60) (old := lfZ) rfl 60 _ _ rfl L (lfC oi t r.m (sa, sn, sc)) rfl rfl hL.out.cells Tryz.sizeLf rfl (lfC_one _ _ _ _) ?_)
              intro w15 h15 k15 z15
              have hb15 : Below w14.heap.size w14 w15 := hL.out.below.trans (k15.below (B := w14.heap.size) (fun x hx e => by have := hL.out.eq; omega) hL.out.below.size)
              have HR15 := Lib.hid (below_at2 hb15 HR14.out); have HB15 := Lib.hid (HB14.out.trans (hb15.mono HB14.out.size))
              have HL15 := Lib.hid h15; have HC15 := Lib.hid (below_at2 hb15 HC14.out)
              have HO15 := Lib.hid (HO14.out.later hb15); have HK15 := Lib.hid (HK14.out.then_below hb15); have HPO15 := Lib.hid ((HPO.out.mono (Nat.zero_le _)).later hb15)
              clear hL h15 k15 z15 hb15 HC14 HO14 HK14 HR14 HB14 HPO HR15 HB15
              have WMz := Lib.hid (show M ≤ w15.heap.size by have := HK15.out.size; have := HM.out; omega)
              have cC : w15.cell? ⟨C, 36, none⟩ = some (.slice la ln lc) := by rw [Lib.cell_of_heap HC15.out]; exact clC_36 _ _ _ HR32.out _ _ _
              have q0 : w15.cell? ⟨L, 0, none⟩ = some (.int .i64 oi) := Lib.cell_of_heap HL15.out 0
              have q1 : w15.cell? ⟨L, 1, none⟩ = some (.int .i64 t) := Lib.cell_of_heap HL15.out 1
              have q2 : w15.cell? ⟨L, 2, none⟩ = some (.int .u64 (uw0 r.m)) := Lib.cell_of_heap HL15.out 2
              have q3 : w15.cell? ⟨L, 3, none⟩ = some (.int .u64 (uw1 r.m)) := Lib.cell_of_heap HL15.out 3
              have q4 : w15.cell? ⟨L, 4, none⟩ = some (.int .u64 (uw2 r.m)) := Lib.cell_of_heap HL15.out 4
              have q5 : w15.cell? ⟨L, 5, none⟩ = some (.int .u64 (uw3 r.m)) := Lib.cell_of_heap HL15.out 5
              have q6 : w15.cell? ⟨L, 6, none⟩ = some (.slice sa sn sc) := Lib.cell_of_heap HL15.out 6
              have HAL := Lib.hid (show ∀ o, Below w15.heap.size w15 (w15.alloc o) from fun o => (Below.refl _ _).alloc (Nat.le_refl _) _)
              go_wp2_with (at_builtin; refine own_apps (l2 := [((⟨oi, t, r.m, proofF 2 (leavesG g2) oi⟩, (sa, sn, sc)) : CLf × SlV)]) (enc := lfE) (B := M) (w0 := w15) rfl _ _ 43 rfl Tryz.underlying43 Tryz.infoLf rfl (by decide) lfE_len lfE_one (HO15.out.1.alloc _) rfl _ rfl (rd_leaf w15 ((⟨oi, t, r.m, proofF 2 (leavesG g2) oi⟩, (sa, sn, sc)) : CLf × SlV) _) (by have := HXL.out; simp; unfold maxLen; omega) (by have := HXL.out; simp; omega) ((HAL.out _).mono WMz.out) (Nat.le_refl _) (Nat.le_trans WMz.out (HAL.out _).size) ?_)
              intro v' w16 ho' hb' hg'
              obtain ⟨wa, hwa⟩ : ∃ wa, wa = w15.alloc (.cells (lfC oi t r.m (sa, sn, sc)) 60) := ⟨_, rfl⟩
              replace hg' : wa.grownBy w16 (Value.slice la ln lc).ownBlock := by rw [hwa]; exact hg'
              have hba : Below w15.heap.size w15 wa := by rw [hwa]; exact HAL.out _
              obtain ⟨ad7, cap7, rfl, _, _⟩ := (ho'.rd lfE_len).shape
              obtain ⟨k7, hk7⟩ : ∃ k, k = (xs ++ [((⟨oi, t, r.m, proofF 2 (leavesG g2) oi⟩, (sa, sn, sc)) : CLf × SlV)]).length := ⟨_, rfl⟩
              rw [← hk7] at ho' ⊢
              have HC16 := Lib.hid (((HO15.out.later hba).1).other hg' WM.out.1 (below_at2 hba HC15.out))
              have HO16 := Lib.hid ((HO15.out.later hba).snoc (lv' := (ad7, k7, cap7)) (x := ((⟨oi, t, r.m, proofF 2 (leavesG g2) oi⟩, (sa, sn, sc)) : CLf × SlV)) (HPO15.out.later hba) hg' ho')
              have HK16 := Lib.hid (HK15.out.then (S' := fun x => M ≤ x) ⟨hb'.os, hb'.tape, hb'.output, hb'.size, fun i _ hn => hb'.block i (by omega)⟩ fun x hx => .inr (by rw [← HM.out]; exact hx))
              clear ho' hb' hg' hwa hba hk7 HC15 HO15 HK15 HPO15 HL15 cC q0 q1 q2 q3 q4 q5 q6
              go_wp2_with (refine wpList_store1_g rfl 43 _ _ rfl C 36 (.slice ad7 k7 cap7) rfl rfl rfl rfl 45 _ HC16.out Tryz.sizeLeaves (by rw [clC_size _ _ _ HR32.out]; omega) (clC 0 qi e rt (ad6, k6, cap6) (ad7, k7, cap7) e) (clC_leaves _ _ _ HR32.out _ _ (ad7, k7, cap7) _) ?_)
              intro w17 h17 k17 z17
              have HC17 := Lib.hid h17
              have HO17 := Lib.hid (HO16.out.keep k17 fun x hx => ⟨clC 0 qi e rt (ad6, k6, cap6) (la, ln, lc) e, 45, (0, 0), (by rw [hx]; exact HC16.out), by decide, by decide⟩)
              have HK17 := Lib.hid (HK16.out.then k17 fun x hx => .inl hx)
              clear h17 k17 z17 HC16 HO16 HK16
              go_wp2_with fail
              go_roundw
              case rel => exact ⟨i + 1, (ad7, k7, cap7), _, by go_num, hlt, HC17, HO17, Lib.hid (by rw [HOS2.out, List.map_append]; rfl), Lib.hid (by rw [List.length_append, HXL.out]; rfl), HK17⟩
              case measure => simp [intOf]; omega
          · obtain rfl : i = tn := by omega
            rw [List.take_of_length_le (by rw [← HTN.out]; exact Nat.le_refl _)] at HOA
            have HV := Lib.hid (show CR = .ok ⟨0, qi, e, rt, proofF 1 (tableL s) qi, xs.map (·.1), e⟩ by rw [HCL.out, HOA.out, HRT.out])
            clear HTS
            go_wp2_with (first
              | (refine wpList_load_row rfl 45 _ rfl C rfl 45 _ _ _ HCi.out Tryz.underlying45 rfl (Tryz.sizeCl _ _ _ HR32.out _ _ _) ?_)
              | (refine wpList_store_row_g (t := 45) (old := clZ) rfl 45 _ _ rfl R (clC 0 qi e rt (ad6, k6, cap6) lv e) rfl rfl HRi.out (Tryz.sizeCl _ _ _ HR32.out _ _ _) (by rw [clC_size _ _ _ HR32.out]; rfl) (clC_one _ _ _ _ _ _ _) ?_))
            intro wq hq5 kq5 zq5
            have HQ5 := Lib.hid hq5
            have HQ6 := Lib.hid (kq5.onto HBi.out (Nat.le_refl _) WR.out.1)
            have HQP := Lib.hid (((HP13.out.keep HK.out fun k e he => by have := (HP13.out.lt k e).1; have := WCz.out; omega).keep kq5 fun k e he => by have := (HP13.out.lt k e).1; have := WCz.out; have := WC.out; omega))
            have HQL := Lib.hid (HO.out.keep kq5 fun x hx => ⟨clZ, 45, (0, 0), (by rw [hx]; exact HRi.out), by decide, by decide⟩)
            clear hq5 kq5 zq5
            go_wp2_with fail
            exact bodyPost_ret (res_row_val rfl _ _ R _ (clC 0 qi e rt (ad6, k6, cap6) lv e) _ _ rfl HQ5.out Tryz.underlying45 rfl (Tryz.sizeCl _ _ _ HR32.out _ _ _) _ rfl) rfl (show ClaimRet2 w CR _ _ by rw [HV.out]; exact ⟨HQ6.out, _, rfl, (ad6, k6, cap6), lv, xs, rfl, HQP.out.mono (Nat.zero_le _), ⟨HQL.out.1.mono (Nat.zero_le _), HQL.out.2⟩, rfl⟩)
end
section
open Go.RowKit

theorem clC_idx (rt ix ix' e : Int) (h : List UInt8) (p lv : SlV) (z : Int) : (clC rt ix e h p lv z).setIfInBounds 1 (.int .i64 ix') = clC rt ix' e h p lv z := by
  unfold clC; simp
theorem Tryz.sizeInt1 : (Tryz.prog.info? 3).map (·.size) = some 1 := by kernel_rfl
theorem intE_len (x : Int) : (intE x).length = 1 := rfl
/-- What stands while Claim runs. -/
structure CSt (w : World) (g : Nat) (a : Option Nat) (R C : Nat) (cl : Array Value) (vs vo : Value) (s own : List LRow) (wr : World) (a1 : Option Nat) (tx : List (List UInt8)) : Prop where
  grew : Grew w g a wr a1
  tr : Tr wr g a1 tx
  r : wr.heap[R]? = some (.cells clZ 45 (0, 0))
  c : wr.heap[C]? = some (.cells cl 45 (0, 0))
  vs : Own wr 0 57 rowE 6 vs s
  vo : Own wr 0 57 rowE 6 vo own
  rc : w.heap.size ≤ R ∧ w.heap.size ≤ C ∧ R ≠ C
theorem CSt.later {w : World} {g : Nat} {a : Option Nat} {R C : Nat} {cl : Array Value} {vs vo : Value} {s own : List LRow} {wr w2 : World} {a1 : Option Nat} {tx : List (List UInt8)} (h : CSt w g a R C cl vs vo s own wr a1 tx) (hb : Below wr.heap.size wr w2) : CSt w g a R C cl vs vo s own w2 a1 tx :=
  ⟨h.grew.trans (Grew.of_below g a1 hb), h.tr.later hb, below_at2 hb h.r, below_at2 hb h.c, h.vs.later hb, h.vo.later hb, h.rc⟩
theorem CSt.grow {w : World} {g : Nat} {a : Option Nat} {R C : Nat} {cl : Array Value} {vs vo : Value} {s own : List LRow} {wr w2 : World} {a1 a2 : Option Nat} {tx tx2 : List (List UInt8)} (h : CSt w g a R C cl vs vo s own wr a1 tx) (hg : Grew wr g a1 w2 a2) (ht : Tr w2 g a2 tx2) : CSt w g a R C cl vs vo s own w2 a2 tx2 :=
  ⟨h.grew.trans hg, ht, tr_other h.tr hg h.r (by decide), tr_other h.tr hg h.c (by decide), own_grew h.vs h.tr hg (by decide), own_grew h.vo h.tr hg (by decide), h.rc⟩
theorem CSt.keep {w : World} {g : Nat} {a : Option Nat} {R C : Nat} {cl : Array Value} {vs vo : Value} {s own : List LRow} {wr w2 : World} {a1 : Option Nat} {tx : List (List UInt8)} (h : CSt w g a R C cl vs vo s own wr a1 tx) {S : Nat → Prop} (k : Keep S wr w2) (hS : ∀ x, S x → w.heap.size ≤ x ∧ ∃ cs fr, wr.heap[x]? = some (.cells cs 60 fr)) : CSt w g a R C cl vs vo s own w2 a1 tx :=
  ⟨⟨h.grew.1.then k (fun x hx => .inr (hS x hx).1), h.grew.2⟩,
   h.tr.keep k (fun x cs T fr h1 hs => by obtain ⟨_, cs2, fr2, h2⟩ := hS x hs; rw [h2] at h1; cases h1; decide),
   k.at h.r (fun hs => by obtain ⟨_, cs2, fr2, h2⟩ := hS R hs; rw [h.r] at h2; cases h2),
   k.at h.c (fun hs => by obtain ⟨_, cs2, fr2, h2⟩ := hS C hs; rw [h.c] at h2; cases h2),
   h.vs.keep k (fun x hx hs => by obtain ⟨_, cs2, fr2, h2⟩ := hS x hs; obtain ⟨cs3, fr3, h3⟩ := h.vs.cellsAt hx; rw [h2] at h3; cases h3),
   h.vo.keep k (fun x hx hs => by obtain ⟨_, cs2, fr2, h2⟩ := hS x hs; obtain ⟨cs3, fr3, h3⟩ := h.vo.cellsAt hx; rw [h2] at h3; cases h3), h.rc⟩
theorem CSt.store {w : World} {g : Nat} {a : Option Nat} {R C : Nat} {cl cl2 : Array Value} {vs vo : Value} {s own : List LRow} {wr w2 : World} {a1 : Option Nat} {tx : List (List UInt8)} (h : CSt w g a R C cl vs vo s own wr a1 tx) (k : Keep (· = C) wr w2) (hc : w2.heap[C]? = some (.cells cl2 45 (0, 0))) : CSt w g a R C cl2 vs vo s own w2 a1 tx :=
  ⟨⟨h.grew.1.then k (fun x hx => .inr (by rw [show x = C from hx]; exact h.rc.2.1)), h.grew.2⟩, h.tr.keep1 k h.c (by decide), k.at h.r (fun e => h.rc.2.2 e), hc,
   h.vs.keep k (fun x hx e => by obtain ⟨cs3, fr3, h3⟩ := h.vs.cellsAt hx; rw [show x = C from e, h.c] at h3; cases h3),
   h.vo.keep k (fun x hx e => by obtain ⟨cs3, fr3, h3⟩ := h.vo.cellsAt hx; rw [show x = C from e, h.c] at h3; cases h3), h.rc⟩
/-- What Claim hands back. -/
def RClaimRet (w : World) (g : Nat) (a : Option Nat) (x : Except Int CCl) (e : Ending) (w' : World) : Prop := ∃ v a', e = .returned (.tuple #[v, .int .i64 (clmE x)]) ∧ ClO w' v (clmV x) ∧ Grew w g a w' a'
set_option maxHeartbeats 16000000 in
set_option maxRecDepth 100000 in
theorem rclaim_any (w : World) (g : Nat) (a : Option Nat) (texts : List (List UInt8)) (ad : Option Addr) (n cap : Nat) (l : List LRow) (hl : ∀ w' a', Grew w g a w' a' → Rd w' rowE 6 (.slice ad n cap) l) (hok : ∀ r ∈ l, ROk r) (hn : n < 1000000000) (ht : Tr w g a texts) (htl : texts.length < 10000000) (e : Int) (wa : Option Addr) (wn wc : Nat) (ts : List Int) (hts : ∀ w' a', Grew w g a w' a' → Rd w' intE 1 (.slice wa wn wc) ts) (hwn : wn < 1000000000) :
    Calls Tryz.prog 20 #[.pointer (some ⟨g, 0, none⟩), .slice ad n cap, .int .i64 e, .slice wa wn wc] w (RClaimRet w g a (claimR l e ts)) := by
  obtain ⟨CR, hCR⟩ : ∃ x, x = claimR l e ts := ⟨_, rfl⟩
  rw [← hCR]
  have hwl : wn = ts.length := (hts w a (Grew.of_below g a (Below.refl _ _))).size
  have HL := Lib.hid hl; have HOK := Lib.hid hok; have HN := Lib.hid hn; have HT := Lib.hid ht; have HTL := Lib.hid htl; have HTS := Lib.hid hts; have HCR := Lib.hid hCR; have HWL := Lib.hid hwl
  clear hl hok hn ht htl hts hCR hwl
  go_enter Tryz.func20, Tryz.ntmps20
  go_wp2_with (refine wpList_alloc_g rfl _ rfl _ _ Tryz.zeroCl rfl ?_)
  intro R w1 hR
  have HR1 := Lib.hid hR.out.cells; have HB1 := Lib.hid hR.out.below; have HRw := Lib.hid (show w.heap.size ≤ R by rw [hR.out.eq]; exact Nat.le_refl _)
  clear hR
  go_wp2_with fail
  refine (rsorted_any w1 _ n cap l (HL.out w1 a (Grew.of_below g a HB1.out)) HOK.out HN.out).mono ?_
  rintro e0 w2 ⟨hb2, ⟨hF, rfl⟩ | ⟨v2, s, hF, rfl, ho2⟩⟩
  · have HV := Lib.hid (show CR = .error 2 by rw [HCR.out]; exact claimR_none _ _ hF)
    have HR2 := Lib.hid (below_at2 hb2 HR1.out); have HG2 := Lib.hid (Grew.of_below g a (HB1.out.trans (hb2.mono HB1.out.size)))
    clear hb2 hF HR1 HB1
    go_wp2_with (refine wpList_store_row_g (t := 45) (old := clZ) rfl 45 _ _ rfl R clZ rfl rfl (HR2.out) (Tryz.sizeCl _ _ _ zero32_length _ _ _) rfl (clC_one _ _ _ _ _ _ _) ?_)
    intro wq hq5 kq5 zq5
    have HQ5 := Lib.hid hq5
    have HQ6 := Lib.hid (show Grew w g a wq _ from ⟨(HG2.out).1.then kq5 (fun x hx => .inr (by have := HRw.out; omega)), (HG2.out).2⟩)
    clear hq5 kq5 zq5
    go_wp2_with fail
    exact bodyPost_ret (res_row_val rfl _ _ R _ clZ _ _ rfl HQ5.out Tryz.underlying45 rfl (Tryz.sizeCl _ _ _ zero32_length _ _ _) _ rfl) rfl (show RClaimRet w g a CR _ _ by rw [HV.out]; exact ⟨_, _, rfl, ClO.zero _, HQ6.out⟩)
  · obtain ⟨ad2, cap2, rfl, _, _⟩ := (ho2.rd rowE_len).shape
    have hso := sort_ok hF HOK.out
    obtain ⟨m, hm⟩ : ∃ m, m = s.length := ⟨_, rfl⟩
    rw [← hm] at ho2 ⊢
    have HR2 := Lib.hid (below_at2 hb2 HR1.out); have HB2 := Lib.hid (HB1.out.trans (hb2.mono HB1.out.size)); have HF := Lib.hid hF; have HO2 := Lib.hid (ho2.mono (Nat.zero_le _)); have HSO := Lib.hid hso; have HM := Lib.hid (show m = s.length ∧ m ≤ 1024 by have := hso.2.2; omega)
    clear hb2 hF ho2 hso hm HR1 HB1
    rcases (show wn = 0 ∨ (wn ≠ 0 ∧ 8 < wn) ∨ (wn ≠ 0 ∧ wn ≤ 8) by omega) with h0 | ⟨h0, h8⟩ | ⟨h0, h8⟩
    · have HV := Lib.hid (show CR = .error 2 by rw [HCR.out]; exact claimR_len _ HF.out (.inl (by rw [← HWL.out]; exact h0)))
      have HG2 := Lib.hid (Grew.of_below g a HB2.out)
      have h10 : ((wn : Int) == 0) = true := by rw [h0]; rfl
      clear h0
      go_wp2_with (refine wpList_store_row_g (t := 45) (old := clZ) rfl 45 _ _ rfl R clZ rfl rfl (HR2.out) (Tryz.sizeCl _ _ _ zero32_length _ _ _) rfl (clC_one _ _ _ _ _ _ _) ?_)
      intro wq hq5 kq5 zq5
      have HQ5 := Lib.hid hq5
      have HQ6 := Lib.hid (show Grew w g a wq _ from ⟨(HG2.out).1.then kq5 (fun x hx => .inr (by have := HRw.out; omega)), (HG2.out).2⟩)
      clear hq5 kq5 zq5
      go_wp2_with fail
      exact bodyPost_ret (res_row_val rfl _ _ R _ clZ _ _ rfl HQ5.out Tryz.underlying45 rfl (Tryz.sizeCl _ _ _ zero32_length _ _ _) _ rfl) rfl (show RClaimRet w g a CR _ _ by rw [HV.out]; exact ⟨_, _, rfl, ClO.zero _, HQ6.out⟩)
    · have HV := Lib.hid (show CR = .error 2 by rw [HCR.out]; exact claimR_len _ HF.out (.inr (by rw [← HWL.out]; exact h8)))
      have HG2 := Lib.hid (Grew.of_below g a HB2.out)
      have h10 : ((wn : Int) == 0) = false := by simp; omega
      have h9 : (8 : Int) < (wn : Int) := by omega
      clear h0 h8
      go_wp2_with (refine wpList_store_row_g (t := 45) (old := clZ) rfl 45 _ _ rfl R clZ rfl rfl (HR2.out) (Tryz.sizeCl _ _ _ zero32_length _ _ _) rfl (clC_one _ _ _ _ _ _ _) ?_)
      intro wq hq5 kq5 zq5
      have HQ5 := Lib.hid hq5
      have HQ6 := Lib.hid (show Grew w g a wq _ from ⟨(HG2.out).1.then kq5 (fun x hx => .inr (by have := HRw.out; omega)), (HG2.out).2⟩)
      clear hq5 kq5 zq5
      go_wp2_with fail
      exact bodyPost_ret (res_row_val rfl _ _ R _ clZ _ _ rfl HQ5.out Tryz.underlying45 rfl (Tryz.sizeCl _ _ _ zero32_length _ _ _) _ rfl) rfl (show RClaimRet w g a CR _ _ by rw [HV.out]; exact ⟨_, _, rfl, ClO.zero _, HQ6.out⟩)
    have HTS2 := Lib.hid (show ¬ (ts.length = 0 ∨ 8 < ts.length) by have := HWL.out; omega)
    have h10 : ((wn : Int) == 0) = false := by simp; omega
    have h9 : ¬ (8 : Int) < (wn : Int) := by omega
    have HW8 := Lib.hid h8
    clear h0 h8
    go_wp2_with fail
    clear h10 h9
    have hm24 := HM.out.2
    go_loopw [11, 50] (fun vo y wr => ∃ (i : Nat), y = .int .i64 i ∧ i ≤ m ∧ Hid (Own wr w2.heap.size 57 rowE 6 vo (ownR (s.take i) e)) ∧ Hid (Below w2.heap.size w2 wr)) (fun _ y _ => m - (intOf y).toNat)
    case atStart => exact ⟨0, rfl, by omega, Lib.hid (Own.nil _ _ _ _ _), Lib.hid (Below.refl _ _)⟩
    case round =>
      obtain ⟨i, rfl, hin, HO, HB⟩ := hrel
      by_cases hlt : i < m
      · have hi : i < s.length := by have := HM.out; omega
        obtain ⟨bb, off, hbb, _, c0, c1, c2, c3, c4, c5⟩ := ((HO2.out.rd rowE_len).later HB.out).six i hi
        subst hbb
        have htk := ownR_take e i hi
        have hol : (ownR (s.take i) e).length ≤ i := Nat.le_trans (ownR_len _ _) (by rw [List.length_take]; exact Nat.min_le_left _ _)
        obtain ⟨r, hrr⟩ : ∃ r, r = s[i] := ⟨_, rfl⟩
        rw [← hrr] at c0 c1 c2 c3 c4 c5 htk
        have HTK := Lib.hid htk; have HOL := Lib.hid hol; have HI := Lib.hid (show i < 1024 by have := HM.out; omega)
        clear htk hrr hi hol
        go_wp2_with (refine wpList_alloc_g rfl _ rfl _ _ Tryz.zeroRRow rfl ?_)
        intro X d1 hX
        go_wp2_with (refine wpList_store_row_g (t := 57) (old := #[.int .i64 0, .int .i64 0, .int .u64 0, .int .u64 0, .int .u64 0, .int .u64 0]) rfl 57 _ _ rfl X #[.int .i64 r.e, .int .i64 r.t, .int .u64 (uw0 r.m), .int .u64 (uw1 r.m), .int .u64 (uw2 r.m), .int .u64 (uw3 r.m)] rfl rfl hX.out.cells Tryz.sizeRRow rfl (one_row r) ?_)
        intro d2 hxX kX zX
        clear zX
        have hbX : Below wr.heap.size wr d2 := hX.out.below.trans (kX.below (B := wr.heap.size) (fun x hx e => by have := hX.out.eq; omega) hX.out.below.size)
        have HX2 := Lib.hid hxX; have HO3 := Lib.hid (HO.out.later hbX); have HB3 := Lib.hid (HB.out.trans (hbX.mono HB.out.size))
        clear hX hxX kX hbX HO HB c0 c1 c2 c3 c4 c5
        have q0 : d2.cell? ⟨X, 0, none⟩ = some (.int .i64 r.e) := Lib.cell_of_heap HX2.out 0
        by_cases he : r.e = e
        · have he1 : (r.e == e) = true := by simpa using he
          have HTK2 := Lib.hid (show ownR (s.take (i + 1)) e = ownR (s.take i) e ++ [r] by rw [HTK.out, if_pos he])
          clear he
          go_wp2_with (first
            | (refine wpList_load_row rfl 57 _ rfl X rfl 57 _ _ _ HX2.out Tryz.underlying57 rfl Tryz.sizeRRow ?_)
            | (at_builtin; refine own_app (us := #[.int .i64 r.e, .int .i64 r.t, .int .u64 (uw0 r.m), .int .u64 (uw1 r.m), .int .u64 (uw2 r.m), .int .u64 (uw3 r.m)]) (enc := rowE) rfl _ _ _ rfl Tryz.underlying31 Tryz.infoRRow rfl (by decide) r HO3.out rfl rfl rfl rfl (rowE_one r) (by have := HOL.out; have := HI.out; unfold maxLen; omega) (by have := HOL.out; have := HI.out; omega) HB3.out (Nat.le_refl _) HB3.out.size (Nat.le_refl _) ?_))
          intro v' w' ho' hb' hg' _
          rw [← HTK2.out] at ho'
          have HO4 := Lib.hid ho'; have HB4 := Lib.hid hb'
          clear ho' hb' hg' HX2 HO3 HB3 q0
          go_wp2_with fail
          go_roundw
          case rel => exact ⟨i + 1, by go_num, hlt, HO4, HB4⟩
          case measure => simp [intOf]; omega
        · have he1 : (r.e == e) = false := by simpa using he
          have HTK2 := Lib.hid (show ownR (s.take (i + 1)) e = ownR (s.take i) e by rw [HTK.out, if_neg he, List.append_nil])
          rw [← HTK2.out] at HO3
          clear he
          go_wp2_with fail
          clear q0
          go_roundw
          case rel => exact ⟨i + 1, by go_num, hlt, HO3, HB3⟩
          case measure => simp [intOf]; omega
      · obtain rfl : i = m := by omega
        have HE := Lib.hid (show s.take i = s by rw [List.take_of_length_le (by rw [← HM.out.1]; exact Nat.le_refl _)])
        rw [HE.out] at HO
        obtain ⟨ad3, cap3, rfl, _, _⟩ := (HO.out.rd rowE_len).shape
        obtain ⟨k, hk⟩ : ∃ k, k = (ownR s e).length := ⟨_, rfl⟩
        rw [← hk] at HO ⊢
        have HK := Lib.hid (show k = (ownR s e).length ∧ k ≤ 1024 by have := ownR_len s e; have := HM.out; omega)
        have HR3 := Lib.hid (below_at2 HB.out HR2.out); have HV3 := Lib.hid (HO2.out.later HB.out); have HO3 := Lib.hid (HO.out.mono (Nat.zero_le _)); have HB3 := Lib.hid (HB2.out.trans (HB.out.mono HB2.out.size))
        have HT3 := Lib.hid (HT.out.later HB3.out)
        clear HO HB HO2 HE hk hin hlt
        go_wp2_with fail
        refine (earners_any wr g a texts _ i cap2 s (fun w' a' hgr => (own_grew HV3.out HT3.out hgr (by decide)).rd rowE_len) HSO.out.1 (sortedF_sorted HF.out) HM.out.2 HT3.out (by have := HTL.out; omega)).mono ?_
        rintro e1 w4 ⟨vl, vw, ss, a4, rfl, hx4, hw4, ht4, hg4, hn4⟩
        obtain ⟨adl, capl, rfl, _, _⟩ := hx4.texts.shape
        obtain ⟨ml, hml⟩ : ∃ z, z = (tableL s).length := ⟨_, rfl⟩
        rw [← hml] at hx4 hn4 ⊢
        obtain ⟨adw, capw, rfl, _, _⟩ := (hw4.rd intE_len).shape
        obtain ⟨mw, hmw⟩ : ∃ z, z = ((groupsF s).map (·.1)).length := ⟨_, rfl⟩
        rw [← hmw] at hw4 ⊢
        have hmw4 : mw ≤ 1024 := by have := (groupsF_mem s).1; rw [hmw, List.length_map]; have := HM.out; omega
        obtain ⟨GH, hGH⟩ : ∃ z, z = (groupsF s).map (·.1) := ⟨_, rfl⟩
        rw [← hGH] at hw4 ht4 hmw
        have HMW := Lib.hid (show mw = GH.length ∧ mw ≤ 1024 from ⟨hmw, hmw4⟩)
        have HTX := Lib.hid (show (texts ++ notesH s GH).length < 50000000 by
          rw [List.length_append]
          have h1 := notesH_len s HSO.out.2.2 GH
          have h2 := HMW.out
          have h3 := HTL.out
          omega)
        have HR4 := Lib.hid (tr_other HT3.out hg4 HR3.out (by decide)); have HV4 := Lib.hid (own_grew HV3.out HT3.out hg4 (by decide)); have HO4 := Lib.hid (own_grew HO3.out HT3.out hg4 (by decide)); have HG4 := Lib.hid ((Grew.of_below g a HB3.out).trans hg4)
        have HT4 := Lib.hid ht4; have HX4 := Lib.hid hx4; have HW4 := Lib.hid hw4; have HN4 := Lib.hid hn4; have HGH := Lib.hid hGH
        clear hx4 hw4 ht4 hg4 hn4 hml hmw hGH HR3 HV3 HO3 HB3 HT3 HR2 HB2
        go_wp2_with (refine wpList_alloc_g rfl _ rfl _ _ Tryz.zeroCl rfl ?_)
        intro C d2 hC
        go_wp2_with (refine wpList_store_row_g (t := 45) (old := clZ) rfl 45 _ _ rfl C (clC 0 0 e zero32 nilS nilS e) rfl rfl hC.out.cells (Tryz.sizeCl _ _ _ zero32_length _ _ _) rfl (clC_one _ _ _ _ _ _ _) ?_)
        intro w5 h5 k5 z5
        have hb5 : Below w4.heap.size w4 w5 := hC.out.below.trans (k5.below (B := w4.heap.size) (fun x hx e => by have := hC.out.eq; omega) hC.out.below.size)
        have HS5 := Lib.hid (show CSt w g a R C (clC 0 0 e zero32 nilS nilS e) (.slice ad2 i cap2) (.slice ad3 k cap3) s (ownR s e) w5 a4 (texts ++ notesH s GH) from ⟨HG4.out.trans (Grew.of_below g a4 hb5), HT4.out.later hb5, below_at2 hb5 HR4.out, h5, HV4.out.later hb5, HO4.out.later hb5, HRw.out, by rw [hC.out.eq]; exact HG4.out.1.size, by have h7 := hC.out.eq; have h8 := heap_lt HR4.out; omega⟩)
        have HX5 := Lib.hid (HX4.out.later hb5); have HW5 := Lib.hid (HW4.out.later hb5)
        clear hC h5 k5 z5 hb5 HG4 HT4 HR4 HV4 HO4 HX4 HW4
        go_wp2_with fail
        go_loopw [74] (fun y wr => ∃ (j : Nat) (q : Nat), y = .int .i64 j ∧ j ≤ mw ∧ Hid (∀ z (hz : z < GH.length), z < j → GH[z] = e → z = q) ∧ Hid (wr.heap[C]? = some (.cells (clC 0 q e zero32 nilS nilS e) 45 (0, 0))) ∧ Hid (Keep (· = C) w5 wr)) (fun y _ => mw - (intOf y).toNat)
        case atStart => exact ⟨0, 0, rfl, by omega, Lib.hid (fun z hz h => by omega), Lib.hid HS5.out.c, Lib.hid (Keep.refl _ _)⟩
        case round =>
          rename_i wr0
          obtain ⟨j, q, rfl, hjn, HQ, HC, HK5⟩ := hrel
          have HWr := Lib.hid (HW5.out.keep HK5.out (fun x hx e1 => by obtain ⟨cs3, fr3, h3⟩ := HW5.out.cellsAt hx; rw [show x = C from e1, HS5.out.c] at h3; cases h3))
          by_cases hlt : j < mw
          · have hj : j < GH.length := by have := HMW.out; omega
            obtain ⟨wb, woff, rfl, cw⟩ := (HWr.out.rd intE_len).i64 j hj
            have hq1 : ∀ b : Nat, (GH[j] = e → b = j) → (GH[j] ≠ e → b = q) → (∀ z1 z2 (h1 : z1 < GH.length) (h2 : z2 < GH.length), GH[z1] = e → GH[z2] = e → z1 = z2) → ∀ z (hz : z < GH.length), z < j + 1 → GH[z] = e → z = b := fun b hb1 hb2 hu z hz hzj hze => by
              by_cases hje : GH[j] = e
              · rw [hb1 hje]; exact hu z j hz hj hze hje
              · rw [hb2 hje]
                rcases Nat.lt_or_ge z j with c | c
                · exact HQ.out z hz c hze
                · have : z = j := by omega
                  subst this; exact absurd hze hje
            have hu : ∀ z1 z2 (h1 : z1 < GH.length) (h2 : z2 < GH.length), GH[z1] = e → GH[z2] = e → z1 = z2 := by
              rw [HGH.out]
              intro z1 z2 h1 h2 e1 e2
              have hp := List.pairwise_iff_getElem.1 (groups_all s (sortedF_sorted HF.out).le).2.1
              rcases Nat.lt_trichotomy z1 z2 with c | c | c
              · have := hp z1 z2 h1 h2 c; omega
              · exact c
              · have := hp z2 z1 h2 h1 c; omega
            obtain ⟨y, hy⟩ : ∃ y, y = GH[j] := ⟨_, rfl⟩
            rw [← hy] at cw
            by_cases he : y = e
            · have he1 : (y == e) = true := by simpa using he
              have HQ2 := Lib.hid (hq1 j (fun _ => rfl) (fun h => absurd (hy ▸ he) h) hu)
              clear he hy hq1 hu hj
              go_wp2_with (refine wpList_store1_g rfl 3 _ _ rfl C 1 (.int .i64 (j : Int)) rfl rfl rfl rfl 45 _ HC.out Tryz.sizeInt1 (by rw [clC_size _ _ _ zero32_length]; omega) (clC 0 (j : Int) e zero32 nilS nilS e) (clC_idx _ _ _ _ _ _ _ _) ?_)
              intro w6 h6 k6 z6
              have HC6 := Lib.hid h6; have HK6 := Lib.hid (HK5.out.then k6 (fun x hx => .inl hx))
              clear h6 k6 z6 cw
              go_wp2_with fail
              go_roundw
              case rel => exact ⟨j + 1, j, by go_num, hlt, HQ2, HC6, HK6⟩
              case measure => simp [intOf]; omega
            · have he1 : (y == e) = false := by simpa using he
              have HQ2 := Lib.hid (hq1 q (fun h => absurd (hy.trans h) he) (fun _ => rfl) hu)
              clear he hy hq1 hu hj
              go_wp2_with fail
              clear cw
              go_roundw
              case rel => exact ⟨j + 1, q, by go_num, hlt, HQ2, HC, HK5⟩
              case measure => simp [intOf]; omega
          · obtain rfl : j = mw := by omega
            have HS6 := Lib.hid (HS5.out.store HK5.out HC.out)
            have HX6 := Lib.hid (HX5.out.keep HK5.out (fun x hx => ⟨clC 0 0 e zero32 nilS nilS e, 45, (0, 0), (by rw [show x = C from hx]; exact HS5.out.c), by decide, by decide⟩))
            have HQF := Lib.hid (show ownR s e ≠ [] → ∃ hq : q < GH.length, GH[q] = e from fun hne => by
              have hh := heads_at (sortedF_sorted HF.out) hne
              rw [← HGH.out] at hh
              obtain ⟨q1, hq1, h1, _⟩ := hh
              have h2 := HQ.out q1 hq1 (by rw [HMW.out.1]; exact hq1) h1
              subst h2; exact ⟨hq1, h1⟩)
            clear HS5 HX5 HW5 HQ HC HK5 HWr hjn hlt
            by_cases hk0 : k = 0
            · have HV := Lib.hid (show CR = .error 8 by rw [HCR.out]; exact claim_own0 HF.out HTS2.out (List.eq_nil_of_length_eq_zero (by rw [← HK.out.1]; exact hk0)))
              have hk1 : ((k : Int) == 0) = true := by rw [hk0]; rfl
              clear hk0
              go_wp2_with (refine wpList_store_row_g (t := 45) (old := clZ) rfl 45 _ _ rfl R clZ rfl rfl (HS6.out.r) (Tryz.sizeCl _ _ _ zero32_length _ _ _) rfl (clC_one _ _ _ _ _ _ _) ?_)
              intro wq hq5 kq5 zq5
              have HQ5 := Lib.hid hq5
              have HQ6 := Lib.hid (show Grew w g a wq _ from ⟨(HS6.out.grew).1.then kq5 (fun x hx => .inr (by have := HRw.out; omega)), (HS6.out.grew).2⟩)
              clear hq5 kq5 zq5
              go_wp2_with fail
              exact bodyPost_ret (res_row_val rfl _ _ R _ clZ _ _ rfl HQ5.out Tryz.underlying45 rfl (Tryz.sizeCl _ _ _ zero32_length _ _ _) _ rfl) rfl (show RClaimRet w g a CR _ _ by rw [HV.out]; exact ⟨_, _, rfl, ClO.zero _, HQ6.out⟩)
            have HKN := Lib.hid (show ownR s e ≠ [] from fun h => hk0 (by rw [HK.out.1, h]; rfl))
            have hk1 : ((k : Int) == 0) = false := by simp; omega
            have HK0 := Lib.hid (show 0 < k by omega)
            clear hk0
            go_wp2_with fail
            clear hk1
            obtain ⟨TX, hTX⟩ : ∃ z, z = texts ++ notesH s GH := ⟨_, rfl⟩
            rw [← hTX] at HS6 HTX
            clear hTX
            have HQN := Lib.hid (show q < (tableL s).length by
              obtain ⟨hq, _⟩ := HQF.out HKN.out
              rw [HGH.out, List.length_map] at hq
              rw [tableL_len]; exact hq)
            have HCL := Lib.hid (show CR = match openAll (ownR s e) ts with
                | none => .error 8
                | some lv => .ok ⟨0, q, e, rootF 2 (leavesG (ownR s e)), proofF 1 (tableL s) q, lv, e⟩ by
              obtain ⟨hq, h1⟩ := HQF.out HKN.out
              have hg := HGH.out
              rw [HCR.out]
              subst hg
              exact claim_own1 HF.out HTS2.out hq h1)
            refine (tokens_any wr e _ i cap2 s (HS6.out.vs.rd rowE_len) HSO.out.1 (by omega)).mono ?_
            rintro e2 w7 ⟨v7, ss7, rfl, ho7, hb7⟩
            have HS7 := Lib.hid (HS6.out.later hb7); have HX7 := Lib.hid (HX6.out.later hb7); have HL7 := Lib.hid ho7
            have HNE7 := Lib.hid (show ∀ z, v7.ownBlock = some z → a4 ≠ some z from fun z hz => HS6.out.tr.apart (ho7.1.lt z hz).1)
            clear ho7 hb7 HS6 HX6
            go_wp2_with fail
            have HN24 := Lib.hid (show (leavesG (ownR s e)).length ≤ 1024 by rw [leavesG_len, ← HK.out.1]; exact HK.out.2)
            have HNF := Lib.hid (show leavesG (ownR s e) ≠ [] from fun h => HKN.out (List.eq_nil_of_length_eq_zero (by rw [← leavesG_len, h]; rfl)))
            refine (troot_any w7 g a4 TX 2 (leavesG (ownR s e)) v7 (fun w' a' hgr => (HL7.out.grew HS7.out.tr hgr HNE7.out).texts) HS7.out.tr (fair_leaves fun y hy => HSO.out.1 y (ownR_mem.1 hy).1) (by have := HTX.out; omega)).mono ?_
            rw [root_good (.inr rfl) HNF.out HN24.out, notesV_good (.inr rfl) HNF.out HN24.out]
            rintro e3 w8 ⟨rfl, a8, ht8, hg8⟩
            have HS8 := Lib.hid (HS7.out.grow hg8 ht8); have HX8 := Lib.hid (HX7.out.grew HS7.out.tr hg8 HN4.out)
            have HN8 := Lib.hid (fun (z : Nat) hz => hg8.apart (HX7.out.1.lt z hz).2 (HN4.out z hz))
            have HTX8 := Lib.hid (show (TX ++ notesF (Int.toNat 2) (leavesG (ownR s e))).length < 60000000 by rw [List.length_append]; have := notesF_1024 (Int.toNat 2) HN24.out; have := HTX.out; omega)
            obtain ⟨rt, hrt⟩ : ∃ x, x = rootF (Int.toNat 2) (leavesG (ownR s e)) := ⟨_, rfl⟩
            rw [← hrt]
            have HRT := Lib.hid (show rt = rootF 2 (leavesG (ownR s e)) from hrt); have H32 := Lib.hid (show rt.length = 32 by rw [hrt]; exact rootF_32 _ _)
            clear ht8 hg8 hrt HS7 HX7 HN4 HL7 HNE7 HTX
            go_wp2_with (refine wpList_alloc_g rfl _ rfl _ _ Tryz.zeroHash rfl ?_)
            intro H d8 hH
            go_wp2_with (refine wpList_store_row_g (t := 36) (old := cB 32 []) rfl 36 _ _ rfl H (c8 rt) rfl rfl hH.out.cells (Tryz.sizeHc rt H32.out) (by rw [c8_size, H32.out]; rfl) (c8_ones _) ?_)
            intro w9 h9 k9 z9
            have hb9 : Below w8.heap.size w8 w9 := hH.out.below.trans (k9.below (B := w8.heap.size) (fun x hx e => by have := hH.out.eq; omega) hH.out.below.size)
            have HS9 := Lib.hid (HS8.out.later hb9); have HX9 := Lib.hid (HX8.out.later hb9); have HH9 := Lib.hid h9
            clear hH h9 k9 z9 hb9 HS8 HX8
            have p1 : w9.cell? ⟨C, 1, none⟩ = some (.int .i64 (q : Int)) := (Lib.cell_of_heap HS9.out.c 1).trans (clC_1 _ _ _ _ _ _ _)
            go_wp2_with fail
            clear p1
            refine (tbuild2_any w9 g a8 _ 1 q (tableL s) (.slice adl ml capl) (fun w' a' hgr => (HX9.out.grew HS9.out.tr hgr HN8.out).texts) HS9.out.tr (fair_table HSO.out.1) (by have := HTX8.out; omega)).mono ?_
            have hpv := proofV_good (k := 1) (i := q) (l := tableL s) (.inl rfl) (table_ne HSO.out.2.1) (table_1024 HSO.out.2.2) HQN.out
            rw [hpv.1, hpv.2]
            rintro e4 w10 ⟨v10, a10, nt10, rfl, ho10, hg10, ht10, hn10⟩
            clear hpv
            obtain ⟨ad6, cap6, rfl, _, _⟩ := (ho10.rd hE_len).shape
            obtain ⟨k6, hk6⟩ : ∃ k, k = (proofF 1 (tableL s) q).length := ⟨_, rfl⟩
            rw [← hk6] at ho10 ⊢
            obtain ⟨TZ, hTZ⟩ : ∃ z, z = (TX ++ notesF (Int.toNat 2) (leavesG (ownR s e))) ++ nt10 := ⟨_, rfl⟩
            have HTZ := Lib.hid (show TZ.length ≤ 70000000 by rw [hTZ, List.length_append]; have := HTX8.out; omega)
            rw [← hTZ] at ht10
            have HP10 := Lib.hid (show Own w10 0 36 hE 32 (slV (ad6, k6, cap6)) (proofF 1 (tableL s) q) from ho10.mono (Nat.zero_le _))
            have HS10 := Lib.hid (HS9.out.grow hg10 ht10); have HH10 := Lib.hid (tr_other HS9.out.tr hg10 HH9.out (by decide))
            clear ho10 hg10 ht10 hn10 hk6 hTZ HTX8 HS9 HX9 HH9 HN8
            go_wp2_with (first
              | (refine wpList_load_row rfl 36 _ rfl H rfl 36 _ _ _ HH10.out Tryz.underlying36 rfl (Tryz.sizeHc rt H32.out) ?_)
              | (refine wpList_store_part_l rfl 36 _ _ rfl C 3 (c8 rt) rfl rfl 45 _ HS10.out.c (Tryz.sizeHc rt H32.out) (by rw [clC_size _ _ _ zero32_length, c8_size, H32.out]; omega) (c8_ones rt) (clC 0 q e rt nilS nilS e) (clC_hash _ _ _ zero32_length H32.out _ _ _) ?_))
            intro w11 h11 k11 z11
            have HS11 := Lib.hid (HS10.out.store k11 h11)
            have HP11 := Lib.hid (HP10.out.keep k11 (fun x hx e1 => by obtain ⟨cs3, fr3, h3⟩ := HP10.out.cellsAt hx; rw [show x = C from e1, HS10.out.c] at h3; cases h3))
            clear h11 k11 z11 HS10 HH10 HP10
            go_wp2_with (refine wpList_store1_g rfl 42 _ _ rfl C 35 (.slice ad6 k6 cap6) rfl rfl rfl rfl 45 _ HS11.out.c Tryz.sizeHashes (by rw [clC_size _ _ _ H32.out]; omega) (clC 0 q e rt (ad6, k6, cap6) nilS e) (clC_proof _ _ _ H32.out _ (ad6, k6, cap6) _ _) ?_)
            intro w12 h12 k12 z12
            have HS12 := Lib.hid (HS11.out.store k12 h12)
            have HP12 := Lib.hid (HP11.out.keep k12 (fun x hx e1 => by obtain ⟨cs3, fr3, h3⟩ := HP11.out.cellsAt hx; rw [show x = C from e1, HS11.out.c] at h3; cases h3))
            clear h12 k12 z12 HS11 HP11
            have hw8 := HW8.out
            have hk24 := HK.out.2
            go_wp2_with fail
            go_loopw [111] (fun y wr => ∃ (x : Nat) (lv : SlV) (xs : List (CLf × SlV)) (ax : Option Nat) (tx : List (List UInt8)), y = .int .i64 x ∧ x ≤ wn ∧ Hid (CSt w g a R C (clC 0 q e rt (ad6, k6, cap6) lv e) (.slice ad2 i cap2) (.slice ad3 k cap3) s (ownR s e) wr ax tx) ∧ Hid (OLf wr w.heap.size lv xs) ∧ Hid (Own wr 0 36 hE 32 (slV (ad6, k6, cap6)) (proofF 1 (tableL s) q)) ∧ Hid (openAll (ownR s e) (ts.take x) = some (xs.map (·.1))) ∧ Hid (tx.length ≤ 70000000 + 11264 * xs.length) ∧ Hid (xs.length = x)) (fun y _ => wn - (intOf y).toNat)
            case atStart => exact ⟨0, nilS, [], a10, TZ, rfl, by omega, HS12, Lib.hid (OLf.nil _ _), HP12, Lib.hid rfl, HTZ, Lib.hid rfl⟩
            case round =>
              clear HS12 HP12
              obtain ⟨x, lv, xs, ax, tx, rfl, hxn, HS, HO, HP, HOA, HTB, HXL⟩ := hrel
              by_cases hlt : x < wn
              · have hi : x < ts.length := by have := HWL.out; omega
                obtain ⟨tb, toff, hwa, ct⟩ := (HTS.out _ ax HS.out.grew).i64 x hi
                subst hwa
                have hoa := openAll_snoc ts[x] HOA.out
                rw [← List.take_succ_eq_append_getElem hi] at hoa
                have hno := fun h => openAll_none (us := ts.drop (x + 1)) (show openAll (ownR s e) (ts.take (x + 1)) = none from h)
                rw [List.take_append_drop] at hno
                obtain ⟨t, htt⟩ : ∃ t, t = ts[x] := ⟨_, rfl⟩
                rw [← htt] at ct hoa
                have HOS := Lib.hid hoa; have HNO := Lib.hid hno
                clear htt hoa hno hi
                go_wp2_with fail
                clear ct
                go_loopw [25, 117] (fun f y wr => ∃ (j : Nat) (b : Bool) (lv2 : SlV) (ys : List (CLf × SlV)) (x2 : List CLf) (ay : Option Nat) (ty : List (List UInt8)), f = .bool b ∧ y = .int .i64 j ∧ j ≤ k ∧ Hid (CSt w g a R C (clC 0 q e rt (ad6, k6, cap6) lv2 e) (.slice ad2 i cap2) (.slice ad3 k cap3) s (ownR s e) wr ay ty) ∧ Hid (OLf wr w.heap.size lv2 ys) ∧ Hid (Own wr 0 36 hE 32 (slV (ad6, k6, cap6)) (proofF 1 (tableL s) q)) ∧ Hid (InL (ownR s e) t j b x2) ∧ Hid (ys.map (·.1) = xs.map (·.1) ++ x2) ∧ Hid (ty.length ≤ 70000000 + 11264 * ys.length) ∧ Hid (ys.length ≤ x + 1)) (fun _ y _ => k - (intOf y).toNat)
                case atStart => exact ⟨0, false, lv, xs, [], ax, tx, rfl, rfl, by omega, HS, HO, HP, Lib.hid (InL.zero _ _), Lib.hid (by simp), HTB, Lib.hid (by have := HXL.out; omega)⟩
                case round =>
                  clear HS HO HP HTB
                  obtain ⟨j, b, ⟨la, ln, lc⟩, ys, x2, ay, ty, rfl, rfl, hjk, HSi, HOi, HPi, HIN, HYS, HTBi, HYL⟩ := hrel
                  by_cases hjl : j < k
                  · have hj : j < (ownR s e).length := by have := HK.out; omega
                    obtain ⟨bb, off, hbb, _, c0, c1, c2, c3, c4, c5⟩ := (HSi.out.vo.rd rowE_len).six j hj
                    subst hbb
                    have hmiss := HIN.out.miss hj
                    have hhit := HIN.out.hit (sortedF_sorted HF.out) hj
                    have hroJ := HSO.out.1 _ (ownR_mem.1 (List.getElem_mem hj)).1
                    have HJL := Lib.hid (show j < (leavesG (ownR s e)).length by rw [leavesG_len]; exact hj)
                    obtain ⟨r, hrr⟩ : ∃ r, r = (ownR s e)[j] := ⟨_, rfl⟩
                    rw [← hrr] at c0 c1 c2 c3 c4 c5 hmiss hhit hroJ
                    have HMISS := Lib.hid hmiss; have HHIT := Lib.hid hhit; have HRO := Lib.hid hroJ
                    clear hmiss hhit hroJ hrr hj
                    go_wp2_with (refine wpList_alloc_g rfl _ rfl _ _ Tryz.zeroRRow rfl ?_)
                    intro X d1 hX
                    go_wp2_with (refine wpList_store_row_g (t := 57) (old := #[.int .i64 0, .int .i64 0, .int .u64 0, .int .u64 0, .int .u64 0, .int .u64 0]) rfl 57 _ _ rfl X #[.int .i64 r.e, .int .i64 r.t, .int .u64 (uw0 r.m), .int .u64 (uw1 r.m), .int .u64 (uw2 r.m), .int .u64 (uw3 r.m)] rfl rfl hX.out.cells Tryz.sizeRRow rfl (one_row r) ?_)
                    intro v6 hxX kX zX
                    clear zX
                    have hbX : Below wr.heap.size wr v6 := hX.out.below.trans (kX.below (B := wr.heap.size) (fun x hx e => by have := hX.out.eq; omega) hX.out.below.size)
                    have HX6 := Lib.hid hxX; have HS6 := Lib.hid (HSi.out.later hbX); have HO6 := Lib.hid (HOi.out.later hbX); have HP6 := Lib.hid (HPi.out.later hbX)
                    clear hX hxX kX hbX c0 c1 c2 c3 c4 c5 HSi HOi HPi
                    have q1 : v6.cell? ⟨X, 1, none⟩ = some (.int .i64 r.t) := Lib.cell_of_heap HX6.out 1
                    by_cases he : r.t = t
                    · have he1 : (r.t == t) = true := by simpa using he
                      obtain ⟨hb0, hx0, hin2⟩ := HHIT.out he
                      subst hb0; subst hx0
                      have HIN2 := Lib.hid hin2
                      have HYX := Lib.hid (show ys.length = x by have h1 := congrArg List.length HYS.out; rw [List.length_append, List.length_map, List.length_map] at h1; have := HXL.out; simp at h1; omega)
                      clear hin2 he
                      go_wp2_with fail
                      clear q1
                      refine (tokens_any v6 e _ i cap2 s (HS6.out.vs.rd rowE_len) HSO.out.1 (by omega)).mono ?_
                      rintro e7 v7 ⟨u7, ss7, rfl, ho7, hb7⟩
                      have HS7 := Lib.hid (HS6.out.later hb7); have HX7 := Lib.hid (below_at2 hb7 HX6.out); have HO7 := Lib.hid (HO6.out.later hb7); have HP7 := Lib.hid (HP6.out.later hb7); have HL7 := Lib.hid ho7
                      have HNE7 := Lib.hid (show ∀ z, u7.ownBlock = some z → ay ≠ some z from fun z hz => HS6.out.tr.apart (ho7.1.lt z hz).1)
                      clear ho7 hb7 HS6 HX6 HO6 HP6
                      go_wp2_with fail
                      refine (tbuild2_any v7 g ay ty 2 j (leavesG (ownR s e)) u7 (fun w' a' hgr => (HL7.out.grew HS7.out.tr hgr HNE7.out).texts) HS7.out.tr (fair_leaves fun y hy => HSO.out.1 y (ownR_mem.1 hy).1) (by have := HTBi.out; have := HYX.out; omega)).mono ?_
                      have hpv := proofV_good (k := 2) (i := j) (l := leavesG (ownR s e)) (.inr rfl) HNF.out HN24.out HJL.out
                      rw [hpv.1, hpv.2]
                      rintro e8 v8 ⟨u8, a8', nt8, rfl, ho8, hg8, ht8, hn8⟩
                      clear hpv
                      obtain ⟨sa, sc, rfl, _, _⟩ := (ho8.rd hE_len).shape
                      obtain ⟨sn, hsn⟩ : ∃ k, k = (proofF 2 (leavesG (ownR s e)) j).length := ⟨_, rfl⟩
                      rw [← hsn] at ho8 ⊢
                      have HV8 := Lib.hid (show Own v8 0 36 hE 32 (slV (sa, sn, sc)) (proofF 2 (leavesG (ownR s e)) j) from ho8.mono (Nat.zero_le _))
                      have HS8 := Lib.hid (HS7.out.grow hg8 ht8); have HX8 := Lib.hid (tr_other HS7.out.tr hg8 HX7.out (by decide)); have HO8 := Lib.hid (HO7.out.grew HS7.out.tr hg8); have HP8 := Lib.hid (own_grew HP7.out HS7.out.tr hg8 (by decide))
                      have HTB8 := Lib.hid (show (ty ++ nt8).length ≤ 70000000 + 11264 * (ys.length + 1) by rw [List.length_append]; have := HTBi.out; omega)
                      clear ho8 hg8 ht8 hn8 hsn HS7 HX7 HO7 HP7 HL7 HNE7 HTBi
                      have cC : v8.cell? ⟨C, 36, none⟩ = some (.slice la ln lc) := by rw [Lib.cell_of_heap HS8.out.c]; exact clC_36 _ _ _ H32.out _ _ _
                      have q2 : v8.cell? ⟨X, 2, none⟩ = some (.int .u64 (uw0 r.m)) := Lib.cell_of_heap HX8.out 2
                      have q3 : v8.cell? ⟨X, 3, none⟩ = some (.int .u64 (uw1 r.m)) := Lib.cell_of_heap HX8.out 3
                      have q4 : v8.cell? ⟨X, 4, none⟩ = some (.int .u64 (uw2 r.m)) := Lib.cell_of_heap HX8.out 4
                      have q5 : v8.cell? ⟨X, 5, none⟩ = some (.int .u64 (uw3 r.m)) := Lib.cell_of_heap HX8.out 5
                      have HAL := Lib.hid (show ∀ o, Below v8.heap.size v8 (v8.alloc o) from fun o => (Below.refl _ _).alloc (Nat.le_refl _) _)
                      have WMz := Lib.hid (show w.heap.size ≤ v8.heap.size from HS8.out.grew.1.size)
                      go_wp2_with (at_builtin; refine own_apps (l2 := [((⟨j, t, r.m, proofF 2 (leavesG (ownR s e)) j⟩, (sa, sn, sc)) : CLf × SlV)]) (enc := lfE) (B := w.heap.size) (w0 := v8) rfl _ _ 43 rfl Tryz.underlying43 Tryz.infoLf rfl (by decide) lfE_len lfE_one (HO8.out.1.alloc _) rfl _ rfl (rd_leaf v8 ((⟨j, t, r.m, proofF 2 (leavesG (ownR s e)) j⟩, (sa, sn, sc)) : CLf × SlV) _) (by have := HYX.out; simp; unfold maxLen; omega) (by have := HYX.out; simp; omega) ((HAL.out _).mono WMz.out) (Nat.le_refl _) (Nat.le_trans WMz.out (HAL.out _).size) ?_)
                      intro v' w16 ho' hb' hg'
                      obtain ⟨wz, hwz⟩ : ∃ wz, wz = v8.alloc (.cells (lfC j t r.m (sa, sn, sc)) 60) := ⟨_, rfl⟩
                      replace hg' : wz.grownBy w16 (Value.slice la ln lc).ownBlock := by rw [hwz]; exact hg'
                      have hba : Below v8.heap.size v8 wz := by rw [hwz]; exact HAL.out _
                      obtain ⟨ad7, cap7, rfl, _, _⟩ := (ho'.rd lfE_len).shape
                      obtain ⟨k7, hk7⟩ : ∃ k, k = (ys ++ [((⟨j, t, r.m, proofF 2 (leavesG (ownR s e)) j⟩, (sa, sn, sc)) : CLf × SlV)]).length := ⟨_, rfl⟩
                      rw [← hk7] at ho' ⊢
                      have HOz := HO8.out.later hba
                      have HS16 := Lib.hid ((HS8.out.later hba).keep (Keep.of_grown hg') (fun z hz => by
                        obtain ⟨cs, fr, h3⟩ := HOz.1.cellsAt (show (slV (la, ln, lc)).ownBlock = some z from hz)
                        exact ⟨(HOz.1.lt z hz).1, cs, fr, h3⟩))
                      have HO16 := Lib.hid (HOz.snoc (lv' := (ad7, k7, cap7)) (x := ((⟨j, t, r.m, proofF 2 (leavesG (ownR s e)) j⟩, (sa, sn, sc)) : CLf × SlV)) (HV8.out.later hba) hg' ho')
                      have HP16 := Lib.hid ((HP8.out.later hba).keep (Keep.of_grown hg') (fun z hz hs => by
                        obtain ⟨cs, fr, h3⟩ := HOz.1.cellsAt (show (slV (la, ln, lc)).ownBlock = some z from hs)
                        obtain ⟨cs2, fr2, h4⟩ := (HP8.out.later hba).cellsAt hz
                        rw [h3] at h4; cases h4))
                      clear ho' hb' hg' hwz hba hk7 HOz HS8 HX8 HO8 HP8 HV8 cC q2 q3 q4 q5
                      go_wp2_with (refine wpList_store1_g rfl 43 _ _ rfl C 36 (.slice ad7 k7 cap7) rfl rfl rfl rfl 45 _ HS16.out.c Tryz.sizeLeaves (by rw [clC_size _ _ _ H32.out]; omega) (clC 0 q e rt (ad6, k6, cap6) (ad7, k7, cap7) e) (clC_leaves _ _ _ H32.out _ _ (ad7, k7, cap7) _) ?_)
                      intro w17 h17 k17 z17
                      have HS17 := Lib.hid (HS16.out.store k17 h17)
                      have HO17 := Lib.hid (HO16.out.keep k17 fun z hz => ⟨clC 0 q e rt (ad6, k6, cap6) (la, ln, lc) e, 45, (0, 0), (by rw [show z = C from hz]; exact HS16.out.c), by decide, by decide⟩)
                      have HP17 := Lib.hid (HP16.out.keep k17 (fun z hz e1 => by obtain ⟨cs3, fr3, h3⟩ := HP16.out.cellsAt hz; rw [show z = C from e1, HS16.out.c] at h3; cases h3))
                      clear h17 k17 z17 HS16 HO16 HP16
                      go_wp2_with fail
                      go_roundw
                      case rel => exact ⟨j + 1, true, (ad7, k7, cap7), _, _, a8', _, rfl, by go_num, hjl, HS17, HO17, HP17, HIN2, Lib.hid (by rw [List.map_append, HYS.out, List.append_nil]; rfl), Lib.hid (by have h9 := HTB8.out; rw [List.length_append] at h9 ⊢; rw [List.length_append, List.length_cons, List.length_nil]; omega), Lib.hid (by rw [List.length_append, HYX.out]; exact Nat.le_refl _)⟩
                      case measure => simp [intOf]; omega
                    · have he1 : (r.t == t) = false := by simpa using he
                      have HIN2 := Lib.hid (HMISS.out he)
                      clear he
                      go_wp2_with fail
                      clear q1
                      go_roundw
                      case rel => exact ⟨j + 1, b, (la, ln, lc), ys, x2, ay, ty, rfl, by go_num, hjl, HS6, HO6, HP6, HIN2, HYS, HTBi, HYL⟩
                      case measure => simp [intOf]; omega
                  · obtain rfl : j = k := by omega
                    have hdone := InL.done (sortedF_sorted HF.out) (by have := HIN.out; rw [HK.out.1] at this; exact this)
                    rcases hdone with ⟨hb0, ho1⟩ | ⟨hb0, y1, hx2, ho1⟩
                    · have HV := Lib.hid (show CR = .error 8 by rw [HCL.out, HNO.out (by rw [HOS.out, ho1]; rfl)])
                      subst hb0
                      clear ho1
                      go_wp2_with (refine wpList_store_row_g (t := 45) (old := clZ) rfl 45 _ _ rfl R clZ rfl rfl (HSi.out.r) (Tryz.sizeCl _ _ _ zero32_length _ _ _) rfl (clC_one _ _ _ _ _ _ _) ?_)
                      intro wq hq5 kq5 zq5
                      have HQ5 := Lib.hid hq5
                      have HQ6 := Lib.hid (show Grew w g a wq _ from ⟨(HSi.out.grew).1.then kq5 (fun x hx => .inr (by have := HRw.out; omega)), (HSi.out.grew).2⟩)
                      clear hq5 kq5 zq5
                      go_wp2_with fail
                      exact bodyPost_ret (res_row_val rfl _ _ R _ clZ _ _ rfl HQ5.out Tryz.underlying45 rfl (Tryz.sizeCl _ _ _ zero32_length _ _ _) _ rfl) rfl (show RClaimRet w g a CR _ _ by rw [HV.out]; exact ⟨_, _, rfl, ClO.zero _, HQ6.out⟩)
                    · have HOA2 := Lib.hid (show openAll (ownR s e) (ts.take (x + 1)) = some (ys.map (·.1)) by rw [HOS.out, ho1, HYS.out, hx2]; rfl)
                      have HYX := Lib.hid (show ys.length = x + 1 by have h1 := congrArg List.length HYS.out; rw [List.length_append, List.length_map, List.length_map, hx2] at h1; have := HXL.out; simp at h1; omega)
                      subst hb0
                      clear ho1 hx2
                      go_wp2_with fail
                      go_roundw
                      case rel => exact ⟨x + 1, (la, ln, lc), ys, ay, ty, by go_num, hlt, HSi, HOi, HPi, HOA2, HTBi, HYX⟩
                      case measure => simp [intOf]; omega
              · obtain rfl : x = wn := by omega
                rw [List.take_of_length_le (by rw [← HWL.out]; exact Nat.le_refl _)] at HOA
                have HV := Lib.hid (show CR = .ok ⟨0, q, e, rt, proofF 1 (tableL s) q, xs.map (·.1), e⟩ by rw [HCL.out, HOA.out, HRT.out])
                go_wp2_with (first
                  | (refine wpList_load_row rfl 45 _ rfl C rfl 45 _ _ _ HS.out.c Tryz.underlying45 rfl (Tryz.sizeCl _ _ _ H32.out _ _ _) ?_)
                  | (refine wpList_store_row_g (t := 45) (old := clZ) rfl 45 _ _ rfl R (clC 0 q e rt (ad6, k6, cap6) lv e) rfl rfl HS.out.r (Tryz.sizeCl _ _ _ H32.out _ _ _) (by rw [clC_size _ _ _ H32.out]; rfl) (clC_one _ _ _ _ _ _ _) ?_))
                intro wq hq5 kq5 zq5
                have HQ5 := Lib.hid hq5
                have HQ6 := Lib.hid (show Grew w g a wq _ from ⟨HS.out.grew.1.then kq5 (fun x hx => .inr (by have := HRw.out; omega)), HS.out.grew.2⟩)
                have HQP := Lib.hid (HP.out.keep kq5 (fun z hz e1 => by obtain ⟨cs3, fr3, h3⟩ := HP.out.cellsAt hz; rw [show z = R from e1, HS.out.r] at h3; cases h3))
                have HQL := Lib.hid (HO.out.keep kq5 fun z hz => ⟨clZ, 45, (0, 0), (by rw [show z = R from hz]; exact HS.out.r), by decide, by decide⟩)
                clear hq5 kq5 zq5
                go_wp2_with fail
                exact bodyPost_ret (res_row_val rfl _ _ R _ (clC 0 q e rt (ad6, k6, cap6) lv e) _ _ rfl HQ5.out Tryz.underlying45 rfl (Tryz.sizeCl _ _ _ H32.out _ _ _) _ rfl) rfl (show RClaimRet w g a CR _ _ by rw [HV.out]; exact ⟨_, _, rfl, ⟨(ad6, k6, cap6), lv, xs, rfl, HQP.out, ⟨HQL.out.1.mono (Nat.zero_le _), HQL.out.2⟩, rfl⟩, HQ6.out⟩)
end
end Go.Proofs.YtmclmccgghnglaaGreat
