/- merkle.pairs: its contract as an iterator. -/
import Derived.Test.YtbfdjjaonjepnaaMerkI
import Derived.Test.YtbfdjjaonjepnaaReg
import Derived.Shelf.Abstract
import Derived.Shelf.RegionOpen
import Derived.WalkKit
import Derived.OwnWalkIn
import Derived.TacticsInMore
import Derived.LoopNIn
import Derived.LoopIn
namespace Go.Proofs.Ytbfdjjaonjepnaa
open Go.RowKit Go.Shelf
attribute [local go_sem] Oper.semAt_some

theorem grown_drew (w : World) (row : Option Nat) : w.grownBy w.drew row := ⟨rfl, rfl, rfl, Nat.le_refl _, fun _ _ _ => rfl⟩
/-- Number i of a row. -/
def hAt (row : List (List UInt8)) (i : Nat) : List UInt8 := row.getD i zero32
theorem hAt_length {row : List (List UInt8)} (h : All32 row) (i : Nat) : (hAt row i).length = 32 := by
  unfold hAt
  rw [List.getD_eq_getElem?_getD]
  cases hx : row[i]? with
  | none => rfl
  | some x => exact h x (List.mem_of_getElem? hx)
theorem hAt_eq (row : List (List UInt8)) (i : Nat) (h : i < row.length) : hAt row i = row[i] := by
  unfold hAt
  rw [List.getD_eq_getElem?_getD, List.getElem?_eq_getElem h]; rfl
theorem keep_cell {S : Nat → Prop} {w w' : World} {b o : Nat} {v : Value} (h : Keep S w w') (hc : w.cell? ⟨b, o, none⟩ = some v) (hS : ¬ S b) : w'.cell? ⟨b, o, none⟩ = some v := by
  rw [World.cell?_of_block (w := w) (w' := w') (h.block b (block_lt_of_cell hc) hS)]; exact hc
/-- The two of a pair, as yield takes them. -/
def pairE (row : List (List UInt8)) (i : Nat) : Array Value := #[.agg (c8 (hAt row (2 * i))), .agg (c8 (hAt row (2 * i + 1)))]

set_option maxRecDepth 100000 in
set_option maxHeartbeats 1000000 in
theorem pairs_stops (row : List (List UInt8)) (h32 : All32 row) (hlen : row.length < 1099511627776) (n Bn : Nat) (T : Nat → Prop) (w : World) (v : Value) (hr : Rd w hE 32 v row) (hv : ∀ k, v.ownBlock = some k → ¬ T k) (hBn : ¬ T Bn)
    (hb : w.cell? ⟨Bn, 0, none⟩ = some v) :
    SeqStopsK Fence.wide n Try.prog 96 #[.pointer (some ⟨Bn, 0, none⟩)] (pairE row) (Keep T) (fun xs => xs = List.range (row.length / 2)) (fun _ => True) (row.length / 2) w := by
  intro l J Jx W hbW hJ hJx hY h0
  obtain ⟨ad, cap, rfl, hc1, hc2⟩ := hr.shape
  refine callsIn_of_wp Try.func96 rfl trivial ?_ rfl
  simp only [Try.ntmps96, List.size_toArray, List.length_cons, List.length_nil, Nat.reduceAdd, Nat.reduceSub, Array.replicate_succ, Array.replicate_zero, List.push_toArray, List.append_toArray, List.nil_append, List.cons_append]
  gi_wp2
  gi_loopw [3] (fun p wr => ∃ i : Nat, i ≤ row.length / 2 ∧ p = .int .i64 (2 * (i : Int)) ∧ J (List.range i) wr ∧ Keep T w wr) (fun p _ => row.length - (intOf p).toNat)
  case atStart => exact ⟨0, Nat.zero_le _, rfl, h0, Keep.of_below hbW⟩
  case round =>
    obtain ⟨i, hi, rfl, hj, hbl⟩ := hrel
    have HJ := Lib.hid hj; have HBL := Lib.hid hbl
    have c0 : wr.cell? ⟨Bn, 0, none⟩ = some (.slice ad row.length cap) := keep_cell hbl hb hBn
    clear hj hbl
    by_cases hlt : i < row.length / 2
    · have j1 : 2 * (i : Int) + 1 < (row.length : Int) := by omega
      have j2 : 2 * (i : Int) < (row.length : Int) := by omega
      have j3 : (0 : Int) ≤ 2 * (i : Int) := by omega
      have j4 : (0 : Int) ≤ 2 * (i : Int) + 1 := by omega
      have j5 : ((2 * (i : Int)).toNat) = 2 * i := by omega
      have j6 : ((2 * (i : Int) + 1).toNat) = 2 * i + 1 := by omega
      obtain ⟨b, off, rfl, hbb⟩ := hr.ptr (by omega)
      have hbn : ¬ T b := hv b rfl
      have hcell : ∀ w', Keep T w w' → w'.cell? ⟨Bn, 0, none⟩ = some (.slice (some ⟨b, off, none⟩) row.length cap) := fun w' h => keep_cell h hb hBn
      have hrow : ∀ j, j < row.length → ∀ w', Keep T w w' → w'.rangeAt b (off + j * 32) ((hAt row j).map byteV) := by
        intro j hj w' hw' q u hq
        have hq32 : q < 32 := by have := (List.getElem?_eq_some_iff.1 hq).1; rwa [List.length_map, hAt_length h32] at this
        obtain ⟨ad', cap', he, _, _, h3⟩ := hr
        cases he
        obtain ⟨b', off', h4, _, h6⟩ := h3 (by intro e; subst e; simp at hj)
        cases h4
        refine keep_cell hw' ?_ hbn
        rw [h6 j hj q hq32, ← hAt_eq row j hj, hE_32 _ (hAt_length h32 j), hq]
      have hl1 := hrow (2 * i) (by omega)
      have hl2 := hrow (2 * i + 1) (by omega)
      have hs32 : ∀ j, (Try.prog.info? 48).map (·.size) = some ((hAt row j).map byteV).length := fun j => by rw [List.length_map, hAt_length h32]; kernel_rfl
      have hld : ∀ j, (∀ w', Keep T w w' → w'.rangeAt b (off + j * 32) ((hAt row j).map byteV)) → ∀ w', Keep T w w' → (Instr.loadAt 48 (.pointer (some ⟨b, off + j * 32, none⟩))).run Try.prog w' = .ok (.agg (c8 (hAt row j))) w' := fun j h w' hw' =>
        run_loadAt_mid w' b (off + j * 32) 48 _ _ (h w' hw') Try.underlying48 rfl (hs32 j)
      have HL1 := Lib.hid (hld (2 * i) hl1); have HL2 := Lib.hid (hld (2 * i + 1) hl2); have HC := Lib.hid hcell
      clear hl1 hl2 hrow hcell hld hs32
      have hS : Keep T w wr.drew := HBL.out.drew
      gi_wp2
      have jw : IntKind.i64.wrap (2 * (i : Int) + 1) = 2 * (i : Int) + 1 := IntWalk.i64_in _ (by omega)
      refine wpIn_region_ytill (Keep T w) 10 12 (by kernel_rfl) rfl ?_
      refine ytill_take 0 (some 11) rfl rfl (by kernel_rfl) (by kernel_rfl) (by kernel_rfl) (by kernel_rfl) (by kernel_rfl) (by kernel_rfl) (fun _ _ _ h => h) (.inl ⟨by rfl, fun w' _ => (by go_simp; rfl)⟩) hS ?_
      go_frame
      refine ytill_take 1 (some 12) rfl rfl (by kernel_rfl) (by kernel_rfl) (by kernel_rfl) (by kernel_rfl) (by kernel_rfl) (by kernel_rfl) (fun _ _ _ h => h) (.inl ⟨by rfl, fun w' hS' => (by have hc := HC.out w' hS'; go_simp; rfl)⟩) hS ?_
      go_frame
      refine ytill_take 2 (some 13) rfl rfl (by kernel_rfl) (by kernel_rfl) (by kernel_rfl) (by kernel_rfl) (by kernel_rfl) (by kernel_rfl) (fun _ _ _ h => h) (.inl ⟨by rfl, fun w' _ => (by go_simp; rfl)⟩) hS ?_
      go_frame
      refine ytill_take 3 (some 14) rfl rfl (by kernel_rfl) (by kernel_rfl) (by kernel_rfl) (by kernel_rfl) (by kernel_rfl) (by kernel_rfl) (fun _ _ _ h => h) (.inl ⟨by rfl, fun w' _ => (by go_simp; rfl)⟩) hS ?_
      go_frame
      refine ytill_take 4 (some 15) rfl rfl (by kernel_rfl) (by kernel_rfl) (by kernel_rfl) (by kernel_rfl) (by kernel_rfl) (by kernel_rfl) (fun _ _ _ h => h) (yields_load (by rfl) 48 (.tmp 14) rfl (.pointer (some ⟨b, off + 2 * i * 32, none⟩)) rfl _ HL1.out) hS ?_
      go_frame
      refine ytill_take 5 (some 16) rfl rfl (by kernel_rfl) (by kernel_rfl) (by kernel_rfl) (by kernel_rfl) (by kernel_rfl) (by kernel_rfl) (fun _ _ _ h => h) (.inl ⟨by rfl, fun w' hS' => (by have hc := HC.out w' hS'; go_simp; rfl)⟩) hS ?_
      go_frame
      refine ytill_take 6 (some 17) rfl rfl (by kernel_rfl) (by kernel_rfl) (by kernel_rfl) (by kernel_rfl) (by kernel_rfl) (by kernel_rfl) (fun _ _ _ h => h) (.inl ⟨by rfl, fun w' _ => (by go_simp; rfl)⟩) hS ?_
      go_frame
      refine ytill_take 7 (some 18) rfl rfl (by kernel_rfl) (by kernel_rfl) (by kernel_rfl) (by kernel_rfl) (by kernel_rfl) (by kernel_rfl) (fun _ _ _ h => h) (.inl ⟨by rfl, fun w' _ => (by go_simp; rfl)⟩) hS ?_
      go_frame
      refine ytill_take 8 (some 19) rfl rfl (by kernel_rfl) (by kernel_rfl) (by kernel_rfl) (by kernel_rfl) (by kernel_rfl) (by kernel_rfl) (fun _ _ _ h => h) (.inl ⟨by rfl, fun w' _ => (by go_simp; rfl)⟩) hS ?_
      go_frame
      refine ytill_take 9 (some 20) rfl rfl (by kernel_rfl) (by kernel_rfl) (by kernel_rfl) (by kernel_rfl) (by kernel_rfl) (by kernel_rfl) (fun _ _ _ h => h) (yields_load (by rfl) 48 (.tmp 19) rfl (.pointer (some ⟨b, off + (2 * i + 1) * 32, none⟩)) rfl _ HL2.out) hS ?_
      go_frame
      obtain ⟨fn, tmps, assign, body, hy, hR⟩ := hY (List.range i) i wr.drew (hJ _ _ _ none HJ.out (grown_drew wr none) (fun r e => by cases e)) (by simpa using hlt)
      simp only [pairE] at hy
      have HR := Lib.hid hR; clear hR
      refine ytill_one 10 rfl (by kernel_rfl) fun K hK => ?_
      simp only [List.getElem_toArray, List.getElem_cons_succ, List.getElem_cons_zero]
      rw [if_pos (by rfl)]
      refine yOp_round (by go_simp) HR.out ?_
      rintro e W' (⟨rfl, hj', hk'⟩ | ⟨rfl, hjx'⟩)
      · have hS2 : Keep T w W' := hS.then hk' (fun x hx => .inl hx)
        refine hK _ _ (fun h => absurd rfl h) ?_
        clear hK
        go_frame
        refine ytill_one 11 rfl (by kernel_rfl) fun K hK => ?_
        simp only [List.getElem_toArray, List.getElem_cons_succ, List.getElem_cons_zero]
        rw [if_pos (by rfl)]
        refine ⟨fun _ h => (by cases h), ?_⟩
        go_simp
        refine hK _ _ (fun _ h => by cases h) ?_
        clear hK
        refine ytill_done (by kernel_rfl) ?_ _
        have HJ2 := Lib.hid hj'; have HS2 := Lib.hid hS2
        clear hj' hS2 hk' hS
        gi_wp2
        go_roundw
        case rel =>
          refine ⟨i + 1, by omega, by go_num, ?_, HS2.out⟩
          rw [List.range_succ]; exact HJ2.out
        case measure => simp [intOf]; omega
      · refine hK _ _ (fun h => absurd rfl h) ?_
        clear hK
        go_frame
        refine ytill_one 11 rfl (by kernel_rfl) fun K hK => ?_
        simp only [List.getElem_toArray, List.getElem_cons_succ, List.getElem_cons_zero]
        rw [if_pos (by rfl)]
        refine ⟨fun _ h => (by cases h), ?_⟩
        go_simp
        refine hK _ _ (fun _ h => by cases h) ?_
        clear hK
        refine ytill_done (by kernel_rfl) ?_ _
        gi_wp2
        refine bodyPost_ret (results_none rfl _ _ _) rfl ?_
        exact ⟨⟨_, rfl⟩, .inr ⟨_, trivial, hjx'⟩⟩
    · have j1 : ¬ 2 * (i : Int) + 1 < (row.length : Int) := by omega
      gi_wp2
      go_end0
      refine ⟨⟨_, rfl⟩, .inl ?_⟩
      obtain rfl : i = row.length / 2 := by omega
      exact HJ.out
theorem pairs_any (ad : Option Addr) (n cap : Nat) (w : World) : Calls Try.prog 87 #[.slice ad n cap] w fun e w' => e = .returned (.func (.func 96) #[] #[.pointer (some ⟨w.heap.size, 0, none⟩)]) ∧ w' = w.alloc (.cells #[.slice ad n cap] 87) := by
  go_enter Try.func87, Try.ntmps87
  go_wp2
  go_ret
  exact ⟨rfl, rfl⟩
end Go.Proofs.Ytbfdjjaonjepnaa
