/- Vaults: the program's functions that change a store (code). No condition. -/
import Derived.Test.YtabminbgoclnkaaGreatVaVauA
import Derived.Deep.Cut
import Derived.Deep.CutRange
namespace Go.Proofs.YtabminbgoclnkaaGreat
set_option maxHeartbeats 16000000
set_option maxRecDepth 100000
open Go.RowKit

theorem a0H:(#[.int .u64 (uw0 0),.int .u64 (uw1 0),.int .u64 (uw2 0),.int .u64 (uw3 0)]:Array Value)=#[.int .u64 0,.int .u64 0,.int .u64 0,.int .u64 0]:=rfl
theorem i0F (n m:Nat):0 < cmpW n m↔m < n:=by
 unfold cmpW
 by_cases h1:n < m
 ·rw [if_pos h1];omega
 ·rw [if_neg h1]
  by_cases h2:m < n
  ·rw [if_pos h2];omega
  ·rw [if_neg h2];omega
theorem h0R (s:PS):0≤newI s∧newI s < 9223372036854775808:=by
 have h:=d0u (getP s.t) kCnt
 unfold newI nextI
 split<;>omega

theorem g0p {w:World} {g0:Nat} {s:PS} {F:List Nat} (h:St w g0 s F) (hz:s.sz < 1000000) (hf:Fit s) {g t:Int} (hg:I64 g) (ht:I64 t) (on:Bool):Calls Tryz.prog 58 #[.agg #[.pointer (some ⟨g0,0,none⟩),.int .i64 g,.int .i64 t,.bool on]] w (StRet w g0 F (s.setRow (kInf g) [t,onI on]) (.tuple #[])):=by
 have L:=hh (Liv.start h);have HZ0:=hh hz;have HF0:=hh hf;have HG:=hh hg;have HT:=hh ht;clear h hz hf hg ht
 cases on with
 | false=>
  go_enter Tryz.func58,Tryz.ntmps58
  go_upto_region 1 with fail
  obtain ⟨w1,hw1⟩:=nm (w.alloc (.cells #[.pointer (some ⟨g0,0,none⟩),.int .i64 g,.int .i64 t,.bool false] 76));obtain ⟨J,hJ⟩:=nm (w.heap.size);rw [← hw1,← hJ];have HJ:Hid (w1.heap[J]? = some (.cells #[.pointer (some ⟨g0,0,none⟩),.int .i64 g,.int .i64 t,.bool false] 76 (0,0))):=hh (by rw [hw1,hJ];exact heap_alloc_new _ _);have hb:Below w.heap.size w w1:=by rw [hw1];exact a0c _ _
  clear hw1 hJ;replace L:=hh (L.out.later hb);clear hb;have cJ3:w1.cell? ⟨J,3,none⟩=some (.bool false):=Lib.cell_of_heap HJ.out 3;go_wp2_with fail;clear cJ3;obtain ⟨a1,hwz,hbz⟩:=dr w1;replace L:=hh (L.out.later hbz);replace HJ:=bA hbz HJ;clear hbz;refine rg1 11 11 hwz HJ fun hS=>?_
  clear hwz;refine tA1 0 5 hS ?_;go_frame;refine tk 1 (some 6) rfl rfl (.inl ⟨by rfl,fun w' hS'=>(by have hc:w'.cell? ⟨J,0,none⟩=some (.pointer (some ⟨g0,0,none⟩)):=Lib.cell_of_heap (hS') 0;go_simp;rfl)⟩) hS ?_;go_frame;refine tA1 2 7 hS ?_;go_frame;refine tk 3 (some 8) rfl rfl (.inl ⟨by rfl,fun w' hS'=>(by have hc:w'.cell? ⟨J,1,none⟩=some (.int .i64 g):=Lib.cell_of_heap (hS') 1;go_simp;rfl)⟩) hS ?_;go_frame;refine tA1 6 11 hS ?_;go_frame;refine tk 7 (some 12) rfl rfl (.inl ⟨by rfl,fun w' hS'=>(by have hc:w'.cell? ⟨J,2,none⟩=some (.int .i64 t):=Lib.cell_of_heap (hS') 2;go_simp;rfl)⟩) hS ?_;go_frame;refine tA1 8 13 hS ?_;go_frame;refine a0k 4 9 rfl rfl (by kernel_rfl) (fun K hK=>?_) (fun K hK=>?_)
  ·simp only [gA,jB,gC];rw [if_pos (by rfl)];go_simp;obtain ⟨a2,hwl⟩:=nm (World.alloc a1 (.cells #[.int .i64 g] 3));obtain ⟨gl,hgl⟩:=nm ((World.heap a1).size);rw [← hwl,← hgl];have HOI:Hid (Own a2 0 3 intE 1 (.slice (some ⟨gl,0,none⟩) 1 1) [g]):=hh (a0w (l:=[g]) (by rw [hwl,hgl];exact heap_alloc_new _ _) (Nat.zero_le _) (by unfold maxLen;simp));have hb:Below (World.heap a1).size a1 a2:=by rw [hwl];exact a0c _ _
   clear hwl hgl;replace L:=hh (L.out.later hb);replace HJ:=bA hb HJ;clear hb;replace hS:=HJ.out;refine hK _ _ (fun _ _=>hS) ?_;clear hK;refine a0k 5 9 rfl rfl (by kernel_rfl) (fun K hK=>?_) (fun K hK=>?_)
   ·simp only [gA,jB,gC];rw [if_pos (by rfl)];go_simp;refine (b0b 5 [g] _ _ (by simp) (I64s.one HG.out) (HOI.out.rd fun _=>rfl)).mono ?_;rintro e a3 ⟨rfl,hb⟩;replace L:=hh (L.out.later hb);replace HJ:=bA hb HJ;clear hb;clear HOI;replace hS:=HJ.out;refine hK _ _ (fun _ _=>hS) ?_;clear hK;refine t1 9 fun K hK=>?_
    simp only [gA,jB,gC];go_simp;obtain ⟨a4,hwl⟩:=nm (World.alloc a3 (.cells #[.int .i64 t,.int .i64 0] 3));obtain ⟨gl,hgl⟩:=nm ((World.heap a3).size);rw [← hwl,← hgl];have HOJ:Hid (Own a4 0 3 intE 1 (.slice (some ⟨gl,0,none⟩) 2 2) [t,0]):=hh (a0w (l:=[t,0]) (by rw [hwl,hgl];exact heap_alloc_new _ _) (Nat.zero_le _) (by unfold maxLen;simp));have hb:Below (World.heap a3).size a3 a4:=by rw [hwl];exact a0c _ _
    clear hwl hgl;replace L:=hh (L.out.later hb);replace HJ:=bA hb HJ;clear hb;replace hS:=HJ.out;refine hK _ _ (fun _ _=>hS) ?_;clear hK;refine t1 10 fun K hK=>?_
    simp only [gA,jB,gC];go_simp;refine (L.out.call fun F hs=>b0E hs (by have:=HZ0.out;omega) (kInf g) (l:=[t,0]) (by simp) (I64s.two HT.out (by omega)) (HOJ.out.rd fun _=>rfl)).mono ?_;rintro e a5 ⟨rfl,o,hoth⟩;replace L:=hh o;replace HJ:=oA hoth HJ;clear o hoth;replace hS:=HJ.out;refine hK _ _ (fun _ _=>hS) ?_;clear hK;refine tD ?_;clear hS;go_wp2_with fail
    go_end0
    exact L.out.ret
   ·simp only [gA,jB,gC];rw [if_pos (by rfl)];go_simp;obtain ⟨a3,hwl⟩:=nm (World.alloc a2 (.cells #[.int .i64 t,.int .i64 0] 3));obtain ⟨gl,hgl⟩:=nm ((World.heap a2).size);rw [← hwl,← hgl];have HOJ:Hid (Own a3 0 3 intE 1 (.slice (some ⟨gl,0,none⟩) 2 2) [t,0]):=hh (a0w (l:=[t,0]) (by rw [hwl,hgl];exact heap_alloc_new _ _) (Nat.zero_le _) (by unfold maxLen;simp));have hb:Below (World.heap a2).size a2 a3:=by rw [hwl];exact a0c _ _
    clear hwl hgl;replace L:=hh (L.out.later hb);replace HJ:=bA hb HJ;replace HOI:=hh (HOI.out.later hb);clear hb;replace hS:=HJ.out;refine hK _ _ (fun _ _=>hS) ?_;clear hK;refine t1 5 fun K hK=>?_
    simp only [gA,jB,gC];go_simp;refine (b0b 5 [g] _ _ (by simp) (I64s.one HG.out) (HOI.out.rd fun _=>rfl)).mono ?_;rintro e a4 ⟨rfl,hb⟩;replace L:=hh (L.out.later hb);replace HJ:=bA hb HJ;replace HOJ:=hh (HOJ.out.later hb);clear hb;clear HOI;replace hS:=HJ.out;refine hK _ _ (fun _ _=>hS) ?_;clear hK;refine t1 10 fun K hK=>?_
    simp only [gA,jB,gC];go_simp;refine (L.out.call fun F hs=>b0E hs (by have:=HZ0.out;omega) (kInf g) (l:=[t,0]) (by simp) (I64s.two HT.out (by omega)) (HOJ.out.rd fun _=>rfl)).mono ?_;rintro e a5 ⟨rfl,o,hoth⟩;replace L:=hh o;replace HJ:=oA hoth HJ;clear o hoth;replace hS:=HJ.out;refine hK _ _ (fun _ _=>hS) ?_;clear hK;refine tD ?_;clear hS;go_wp2_with fail
    go_end0
    exact L.out.ret
  ·simp only [gA,jB,gC];rw [if_pos (by rfl)];go_simp;obtain ⟨a2,hwl⟩:=nm (World.alloc a1 (.cells #[.int .i64 t,.int .i64 0] 3));obtain ⟨gl,hgl⟩:=nm ((World.heap a1).size);rw [← hwl,← hgl];have HOJ:Hid (Own a2 0 3 intE 1 (.slice (some ⟨gl,0,none⟩) 2 2) [t,0]):=hh (a0w (l:=[t,0]) (by rw [hwl,hgl];exact heap_alloc_new _ _) (Nat.zero_le _) (by unfold maxLen;simp));have hb:Below (World.heap a1).size a1 a2:=by rw [hwl];exact a0c _ _
   clear hwl hgl;replace L:=hh (L.out.later hb);replace HJ:=bA hb HJ;clear hb;replace hS:=HJ.out;refine hK _ _ (fun _ _=>hS) ?_;clear hK;refine t1 4 fun K hK=>?_
   simp only [gA,jB,gC];go_simp;obtain ⟨a3,hwl⟩:=nm (World.alloc a2 (.cells #[.int .i64 g] 3));obtain ⟨gl,hgl⟩:=nm ((World.heap a2).size);rw [← hwl,← hgl];have HOI:Hid (Own a3 0 3 intE 1 (.slice (some ⟨gl,0,none⟩) 1 1) [g]):=hh (a0w (l:=[g]) (by rw [hwl,hgl];exact heap_alloc_new _ _) (Nat.zero_le _) (by unfold maxLen;simp));have hb:Below (World.heap a2).size a2 a3:=by rw [hwl];exact a0c _ _
   clear hwl hgl;replace L:=hh (L.out.later hb);replace HJ:=bA hb HJ;replace HOJ:=hh (HOJ.out.later hb);clear hb;replace hS:=HJ.out;refine hK _ _ (fun _ _=>hS) ?_;clear hK;refine t1 5 fun K hK=>?_
   simp only [gA,jB,gC];go_simp;refine (b0b 5 [g] _ _ (by simp) (I64s.one HG.out) (HOI.out.rd fun _=>rfl)).mono ?_;rintro e a4 ⟨rfl,hb⟩;replace L:=hh (L.out.later hb);replace HJ:=bA hb HJ;replace HOJ:=hh (HOJ.out.later hb);clear hb;clear HOI;replace hS:=HJ.out;refine hK _ _ (fun _ _=>hS) ?_;clear hK;refine t1 10 fun K hK=>?_
   simp only [gA,jB,gC];go_simp;refine (L.out.call fun F hs=>b0E hs (by have:=HZ0.out;omega) (kInf g) (l:=[t,0]) (by simp) (I64s.two HT.out (by omega)) (HOJ.out.rd fun _=>rfl)).mono ?_;rintro e a5 ⟨rfl,o,hoth⟩;replace L:=hh o;replace HJ:=oA hoth HJ;clear o hoth;replace hS:=HJ.out;refine hK _ _ (fun _ _=>hS) ?_;clear hK;refine tD ?_;clear hS;go_wp2_with fail
   go_end0
   exact L.out.ret
 | true=>
  go_enter Tryz.func58,Tryz.ntmps58
  go_upto_region 1 with fail
  obtain ⟨w1,hw1⟩:=nm (w.alloc (.cells #[.pointer (some ⟨g0,0,none⟩),.int .i64 g,.int .i64 t,.bool true] 76));obtain ⟨J,hJ⟩:=nm (w.heap.size);rw [← hw1,← hJ];have HJ:Hid (w1.heap[J]? = some (.cells #[.pointer (some ⟨g0,0,none⟩),.int .i64 g,.int .i64 t,.bool true] 76 (0,0))):=hh (by rw [hw1,hJ];exact heap_alloc_new _ _);have hb:Below w.heap.size w w1:=by rw [hw1];exact a0c _ _
  clear hw1 hJ;replace L:=hh (L.out.later hb);clear hb;have cJ3:w1.cell? ⟨J,3,none⟩=some (.bool true):=Lib.cell_of_heap HJ.out 3;go_wp2_with fail;clear cJ3;obtain ⟨a1,hwz,hbz⟩:=dr w1;replace L:=hh (L.out.later hbz);replace HJ:=bA hbz HJ;clear hbz;refine rg1 11 11 hwz HJ fun hS=>?_
  clear hwz;refine tA1 0 5 hS ?_;go_frame;refine tk 1 (some 6) rfl rfl (.inl ⟨by rfl,fun w' hS'=>(by have hc:w'.cell? ⟨J,0,none⟩=some (.pointer (some ⟨g0,0,none⟩)):=Lib.cell_of_heap (hS') 0;go_simp;rfl)⟩) hS ?_;go_frame;refine tA1 2 7 hS ?_;go_frame;refine tk 3 (some 8) rfl rfl (.inl ⟨by rfl,fun w' hS'=>(by have hc:w'.cell? ⟨J,1,none⟩=some (.int .i64 g):=Lib.cell_of_heap (hS') 1;go_simp;rfl)⟩) hS ?_;go_frame;refine tA1 6 11 hS ?_;go_frame;refine tk 7 (some 12) rfl rfl (.inl ⟨by rfl,fun w' hS'=>(by have hc:w'.cell? ⟨J,2,none⟩=some (.int .i64 t):=Lib.cell_of_heap (hS') 2;go_simp;rfl)⟩) hS ?_;go_frame;refine tA1 8 13 hS ?_;go_frame;refine a0k 4 9 rfl rfl (by kernel_rfl) (fun K hK=>?_) (fun K hK=>?_)
  ·simp only [gA,jB,gC];rw [if_pos (by rfl)];go_simp;obtain ⟨a2,hwl⟩:=nm (World.alloc a1 (.cells #[.int .i64 g] 3));obtain ⟨gl,hgl⟩:=nm ((World.heap a1).size);rw [← hwl,← hgl];have HOI:Hid (Own a2 0 3 intE 1 (.slice (some ⟨gl,0,none⟩) 1 1) [g]):=hh (a0w (l:=[g]) (by rw [hwl,hgl];exact heap_alloc_new _ _) (Nat.zero_le _) (by unfold maxLen;simp));have hb:Below (World.heap a1).size a1 a2:=by rw [hwl];exact a0c _ _
   clear hwl hgl;replace L:=hh (L.out.later hb);replace HJ:=bA hb HJ;clear hb;replace hS:=HJ.out;refine hK _ _ (fun _ _=>hS) ?_;clear hK;refine a0k 5 9 rfl rfl (by kernel_rfl) (fun K hK=>?_) (fun K hK=>?_)
   ·simp only [gA,jB,gC];rw [if_pos (by rfl)];go_simp;refine (b0b 5 [g] _ _ (by simp) (I64s.one HG.out) (HOI.out.rd fun _=>rfl)).mono ?_;rintro e a3 ⟨rfl,hb⟩;replace L:=hh (L.out.later hb);replace HJ:=bA hb HJ;clear hb;clear HOI;replace hS:=HJ.out;refine hK _ _ (fun _ _=>hS) ?_;clear hK;refine t1 9 fun K hK=>?_
    simp only [gA,jB,gC];go_simp;obtain ⟨a4,hwl⟩:=nm (World.alloc a3 (.cells #[.int .i64 t,.int .i64 1] 3));obtain ⟨gl,hgl⟩:=nm ((World.heap a3).size);rw [← hwl,← hgl];have HOJ:Hid (Own a4 0 3 intE 1 (.slice (some ⟨gl,0,none⟩) 2 2) [t,1]):=hh (a0w (l:=[t,1]) (by rw [hwl,hgl];exact heap_alloc_new _ _) (Nat.zero_le _) (by unfold maxLen;simp));have hb:Below (World.heap a3).size a3 a4:=by rw [hwl];exact a0c _ _
    clear hwl hgl;replace L:=hh (L.out.later hb);replace HJ:=bA hb HJ;clear hb;replace hS:=HJ.out;refine hK _ _ (fun _ _=>hS) ?_;clear hK;refine t1 10 fun K hK=>?_
    simp only [gA,jB,gC];go_simp;refine (L.out.call fun F hs=>b0E hs (by have:=HZ0.out;omega) (kInf g) (l:=[t,1]) (by simp) (I64s.two HT.out (by omega)) (HOJ.out.rd fun _=>rfl)).mono ?_;rintro e a5 ⟨rfl,o,hoth⟩;replace L:=hh o;replace HJ:=oA hoth HJ;clear o hoth;replace hS:=HJ.out;refine hK _ _ (fun _ _=>hS) ?_;clear hK;refine tD ?_;clear hS;go_wp2_with fail
    go_end0
    exact L.out.ret
   ·simp only [gA,jB,gC];rw [if_pos (by rfl)];go_simp;obtain ⟨a3,hwl⟩:=nm (World.alloc a2 (.cells #[.int .i64 t,.int .i64 1] 3));obtain ⟨gl,hgl⟩:=nm ((World.heap a2).size);rw [← hwl,← hgl];have HOJ:Hid (Own a3 0 3 intE 1 (.slice (some ⟨gl,0,none⟩) 2 2) [t,1]):=hh (a0w (l:=[t,1]) (by rw [hwl,hgl];exact heap_alloc_new _ _) (Nat.zero_le _) (by unfold maxLen;simp));have hb:Below (World.heap a2).size a2 a3:=by rw [hwl];exact a0c _ _
    clear hwl hgl;replace L:=hh (L.out.later hb);replace HJ:=bA hb HJ;replace HOI:=hh (HOI.out.later hb);clear hb;replace hS:=HJ.out;refine hK _ _ (fun _ _=>hS) ?_;clear hK;refine t1 5 fun K hK=>?_
    simp only [gA,jB,gC];go_simp;refine (b0b 5 [g] _ _ (by simp) (I64s.one HG.out) (HOI.out.rd fun _=>rfl)).mono ?_;rintro e a4 ⟨rfl,hb⟩;replace L:=hh (L.out.later hb);replace HJ:=bA hb HJ;replace HOJ:=hh (HOJ.out.later hb);clear hb;clear HOI;replace hS:=HJ.out;refine hK _ _ (fun _ _=>hS) ?_;clear hK;refine t1 10 fun K hK=>?_
    simp only [gA,jB,gC];go_simp;refine (L.out.call fun F hs=>b0E hs (by have:=HZ0.out;omega) (kInf g) (l:=[t,1]) (by simp) (I64s.two HT.out (by omega)) (HOJ.out.rd fun _=>rfl)).mono ?_;rintro e a5 ⟨rfl,o,hoth⟩;replace L:=hh o;replace HJ:=oA hoth HJ;clear o hoth;replace hS:=HJ.out;refine hK _ _ (fun _ _=>hS) ?_;clear hK;refine tD ?_;clear hS;go_wp2_with fail
    go_end0
    exact L.out.ret
  ·simp only [gA,jB,gC];rw [if_pos (by rfl)];go_simp;obtain ⟨a2,hwl⟩:=nm (World.alloc a1 (.cells #[.int .i64 t,.int .i64 1] 3));obtain ⟨gl,hgl⟩:=nm ((World.heap a1).size);rw [← hwl,← hgl];have HOJ:Hid (Own a2 0 3 intE 1 (.slice (some ⟨gl,0,none⟩) 2 2) [t,1]):=hh (a0w (l:=[t,1]) (by rw [hwl,hgl];exact heap_alloc_new _ _) (Nat.zero_le _) (by unfold maxLen;simp));have hb:Below (World.heap a1).size a1 a2:=by rw [hwl];exact a0c _ _
   clear hwl hgl;replace L:=hh (L.out.later hb);replace HJ:=bA hb HJ;clear hb;replace hS:=HJ.out;refine hK _ _ (fun _ _=>hS) ?_;clear hK;refine t1 4 fun K hK=>?_
   simp only [gA,jB,gC];go_simp;obtain ⟨a3,hwl⟩:=nm (World.alloc a2 (.cells #[.int .i64 g] 3));obtain ⟨gl,hgl⟩:=nm ((World.heap a2).size);rw [← hwl,← hgl];have HOI:Hid (Own a3 0 3 intE 1 (.slice (some ⟨gl,0,none⟩) 1 1) [g]):=hh (a0w (l:=[g]) (by rw [hwl,hgl];exact heap_alloc_new _ _) (Nat.zero_le _) (by unfold maxLen;simp));have hb:Below (World.heap a2).size a2 a3:=by rw [hwl];exact a0c _ _
   clear hwl hgl;replace L:=hh (L.out.later hb);replace HJ:=bA hb HJ;replace HOJ:=hh (HOJ.out.later hb);clear hb;replace hS:=HJ.out;refine hK _ _ (fun _ _=>hS) ?_;clear hK;refine t1 5 fun K hK=>?_
   simp only [gA,jB,gC];go_simp;refine (b0b 5 [g] _ _ (by simp) (I64s.one HG.out) (HOI.out.rd fun _=>rfl)).mono ?_;rintro e a4 ⟨rfl,hb⟩;replace L:=hh (L.out.later hb);replace HJ:=bA hb HJ;replace HOJ:=hh (HOJ.out.later hb);clear hb;clear HOI;replace hS:=HJ.out;refine hK _ _ (fun _ _=>hS) ?_;clear hK;refine t1 10 fun K hK=>?_
   simp only [gA,jB,gC];go_simp;refine (L.out.call fun F hs=>b0E hs (by have:=HZ0.out;omega) (kInf g) (l:=[t,1]) (by simp) (I64s.two HT.out (by omega)) (HOJ.out.rd fun _=>rfl)).mono ?_;rintro e a5 ⟨rfl,o,hoth⟩;replace L:=hh o;replace HJ:=oA hoth HJ;clear o hoth;replace hS:=HJ.out;refine hK _ _ (fun _ _=>hS) ?_;clear hK;refine tD ?_;clear hS;go_wp2_with fail
   go_end0
   exact L.out.ret

theorem i0q {w:World} {g0:Nat} {s:PS} {F:List Nat} (h:St w g0 s F) (hz:s.sz < 900000) (hf:Fit s) {t:Int} (ht:I64 t):Calls Tryz.prog 28 #[.pointer (some ⟨g0,0,none⟩),.int .i64 t] w (StRet w g0 F (s.newS t) (.tuple #[.int .i64 (newV s t),.int .i64 (newE s t)])):=by
 have L:=hh (Liv.start h);have HZ0:=hh hz;have HF0:=hh hf;have HT:=hh ht;obtain ⟨gq,hgq⟩:=nm (goodB t 1);obtain ⟨cnt,hcnt⟩:=nm (getI (getP s.t) kCnt);obtain ⟨n,hn⟩:=nm (newI s);obtain ⟨s1,hs1⟩:=nm (s.setInt kCnt n);have HE:Hid (newE s t=if gq=false then 2 else if 32≤cnt then 7 else 0):=hh (by unfold newE;rw [← hgq,← hcnt]);have HS:Hid (s.newS t=if newE s t=0 then s1.setRow (kInf n) [t,1] else s):=hh (by unfold PS.newS;rw [← hn,← hs1]);have HGQ:=hh hgq;have HC:=hh hcnt;have HN:=hh hn;have HS1:=hh hs1;have HNI:Hid (0≤n∧n < 9223372036854775808):=hh (by rw [hn];exact h0R s);have HF1:Hid (Fit s1∧s1.sz≤s.sz+2):=hh ⟨by rw [hs1];exact hf.setInt _ _,by rw [hs1];exact e0m _ _ _⟩;have HZ1:Hid (s.sz < 900000):=hh hz;clear h hz hf ht hgq hcnt hn hs1
 go_enter Tryz.func28,Tryz.ntmps28
 obtain ⟨F9,h9⟩:∃ F9,St w g0 s F9:=by obtain ⟨F9,h9,_⟩:=L.out;exact ⟨F9,h9⟩
 go_wp2_with fail;refine (k0F h9).mono ?_;rintro e _ ⟨rfl,rfl⟩;clear h9;go_wp2_with fail;refine (e0C t 1 _).mono ?_;rw [← HGQ.out];rintro e _ ⟨rfl,rfl⟩
 cases gq with
 | false=>
  have HV:Hid (newE s t=2):=hh (by rw [HE.out,if_pos rfl]);have HW:Hid (newV s t=0∧s.newS t=s):=hh ⟨by unfold newV;rw [HV.out,if_neg (by decide)],by rw [HS.out,HV.out,if_neg (by decide)]⟩;go_wp2_with fail
  go_ret2
  rw [HV.out,HW.out.1,HW.out.2];exact L.out.ret
 | true=>
  go_wp2_with fail;refine (f0u (L.out.look) HF0.out.f).mono ?_;rw [← HC.out];rintro e a1 ⟨rfl,hb⟩;replace L:=hh (L.out.later hb);clear hb
  by_cases hc:32≤cnt
  ·have hc1:decide (32≤cnt)=true:=decide_eq_true hc;have HCC:=hh hc;have HV:Hid (newE s t=7):=hh (by rw [HE.out,if_neg (by decide),if_pos HCC.out]);have HW:Hid (newV s t=0∧s.newS t=s):=hh ⟨by unfold newV;rw [HV.out,if_neg (by decide)],by rw [HS.out,HV.out,if_neg (by decide)]⟩;clear HCC;go_wp2_with fail
   go_ret2
   rw [HV.out,HW.out.1,HW.out.2];exact L.out.ret
  ·have hc1:decide (32≤cnt)=false:=decide_eq_false hc;have HV:Hid (newE s t=0):=hh (by rw [HE.out,if_neg (by decide),if_neg hc]);have HW:Hid (newV s t=n∧s.newS t=s1.setRow (kInf n) [t,onI true]):=hh ⟨by unfold newV;rw [HV.out,if_pos rfl,HN.out],by rw [HS.out,HV.out,if_pos rfl];rfl⟩;go_wp2_with fail;clear hc hc1;refine (b0b 5 [] (.slice none 0 0) _ (by simp) (fun x hx=>by cases hx) (Rd.nil _ _ _)).mono ?_;rintro e a2 ⟨rfl,hb⟩;replace L:=hh (L.out.later hb);clear hb;go_wp2_with fail;refine (L.out.call fun F hs=>l0F hs (by have:=HZ0.out;omega) HF0.out kCnt).mono ?_;rw [show nextI (getI (getP s.t) kCnt)=n from HN.out.symm,← HS1.out];rintro e a3 ⟨rfl,o,hoth⟩;replace L:=hh o;clear o hoth
   go_wp2_with (refine sA _ Tryz.zeroSg ?_)
   intro J a4 hJ;have WJ:=mGe hJ L.out.keep.size;have HJ:=hh hJ.out.cells;have hbJ:=hJ.out.below;clear hJ;replace L:=hh (L.out.later hbJ);clear hbJ
   go_wp2_with (refine sR 76 #[.pointer (some ⟨g0,0,none⟩),.int .i64 n,.int .i64 t,.bool true] HJ Tryz.sizeSg ?_)
   intro a5 hxJ kJ zJ;clear zJ;replace L:=hh (a0n L.out HJ.out rfl kJ WJ.out);replace HJ:=hh hxJ;clear hxJ kJ
   go_wp2_with (refine lR HJ Tryz.underlying76 Tryz.sizeSg ?_)
   refine (L.out.call fun F hs=>g0p hs (by have:=HF1.out.2;have:=HZ1.out;omega) HF1.out.1 (by have:=HNI.out;unfold I64;omega) HT.out true).mono ?_;rintro e a6 ⟨rfl,o,hoth⟩;replace L:=hh o;replace HJ:=oA hoth HJ;clear o hoth;have cJ1:a6.cell? ⟨J,1,none⟩=some (.int .i64 n):=Lib.cell_of_heap HJ.out 1;go_wp2_with fail
   go_ret2
   rw [HV.out,HW.out.1,HW.out.2];exact L.out.ret

theorem j0y {w:World} {g0:Nat} {s:PS} {F:List Nat} (h:St w g0 s F) (hz:s.sz < 1000000) (hf:Fit s) {g:Int} (hg:I64 g) (on2:Bool):Calls Tryz.prog 13 #[.pointer (some ⟨g0,0,none⟩),.int .i64 g,.bool on2] w (StRet w g0 F (s.allow g on2) (.int .i64 (allE s g))):=by
 have L:=hh (Liv.start h);have HZ0:=hh hz;have HF0:=hh hf;have HG:=hh hg;clear h hz hf hg
 go_enter Tryz.func13,Tryz.ntmps13
 go_wp2_with fail
 cases hi:infF (getP s.t) g with
 | none=>
  have HV:Hid (allE s g=8∧s.allow g on2=s):=hh ⟨by unfold allE;rw [hi],by unfold PS.allow;rw [hi]⟩;refine (b0C (L.out.look) HF0.out.f HG.out hi).mono ?_;rintro e a1 ⟨rfl,hb⟩;replace L:=hh (L.out.later hb);clear hb
  go_wp2_with (refine sA _ Tryz.zeroSg ?_)
  intro J a2 hJ;have WJ:=mGe hJ L.out.keep.size;have HJ:=hh hJ.out.cells;have hbJ:=hJ.out.below;clear hJ;replace L:=hh (L.out.later hbJ);clear hbJ
  go_wp2_with (refine sR 76 #[.pointer none,.int .i64 0,.int .i64 0,.bool false] HJ Tryz.sizeSg ?_)
  intro a3 hxJ kJ zJ;clear zJ;replace L:=hh (a0n L.out HJ.out rfl kJ WJ.out);clear hxJ kJ;clear hi;go_wp2_with fail
  go_ret
  rw [HV.out.1,HV.out.2];exact L.out.ret
 | some p=>
  obtain ⟨t,on⟩:=p;have HV:Hid (allE s g=0∧s.allow g on2=s.setRow (kInf g) [t,onI on2]):=hh ⟨by unfold allE;rw [hi],by unfold PS.allow;rw [hi]⟩;have HT:Hid (I64 t):=hh (by have h9:=a0z hi;unfold I64;omega);refine (b0x (L.out.look) HF0.out.f HG.out hi).mono ?_;rintro e a1 ⟨rfl,hb⟩;replace L:=hh (L.out.later hb);clear hb
  go_wp2_with (refine sA _ Tryz.zeroSg ?_)
  intro J a2 hJ;have WJ:=mGe hJ L.out.keep.size;have HJ:=hh hJ.out.cells;have hbJ:=hJ.out.below;clear hJ;replace L:=hh (L.out.later hbJ);clear hbJ
  go_wp2_with (refine sR 76 #[.pointer (some ⟨g0,0,none⟩),.int .i64 g,.int .i64 t,.bool on] HJ Tryz.sizeSg ?_)
  intro a3 hxJ kJ zJ;clear zJ;replace L:=hh (a0n L.out HJ.out rfl kJ WJ.out);replace HJ:=hh hxJ;clear hxJ kJ;clear hi;have cJ3:a3.cell? ⟨J,3,none⟩=some (.bool on):=Lib.cell_of_heap HJ.out 3;have f3:a3.frozen? ⟨J,3,none⟩=false:=Lib.frozen_of_heap HJ.out 3
  go_upto_region 5 with fail
  clear f3;clear cJ3;obtain ⟨a4,hwn⟩:=nm (a3.setCell ⟨J,3,none⟩ (.bool on2));have kJ:Keep (· = J) a3 a4:=by rw [hwn];exact Keep.setCell (S:=(· = J)) (p:=⟨J,3,none⟩) (Keep.refl _ _) (.inl rfl) _
  have hxJ:a4.heap[J]? = some (.cells #[.pointer (some ⟨g0,0,none⟩),.int .i64 g,.int .i64 t,.bool on2] 76 (0,0)):=by rw [hwn,heap_setCell_same _ _ _ _ _ _ HJ.out];rfl
  rw [← hwn];clear hwn;replace L:=hh (a0n L.out HJ.out rfl kJ WJ.out);replace HJ:=hh hxJ;clear hxJ kJ
  go_wp2_with (refine lR HJ Tryz.underlying76 Tryz.sizeSg ?_)
  refine (L.out.call fun F hs=>g0p hs (by have:=HZ0.out;omega) HF0.out HG.out HT.out on2).mono ?_;rintro e a5 ⟨rfl,o,hoth⟩;replace L:=hh o;clear o hoth;go_wp2_with fail
  go_ret
  rw [HV.out.1,HV.out.2];exact L.out.ret

theorem e0n {w:World} {g0:Nat} {s:PS} {F:List Nat} (h:St w g0 s F) (hz:s.sz < 1000000) (hf:Fit s) {g fr:Int} (hg:I64 g) (hfr:I64 fr) {a b c d:Int} {m:Nat} (hu:UIs a b c d m):Calls Tryz.prog 29 #[.pointer (some ⟨g0,0,none⟩),.int .i64 g,.int .i64 fr,.agg #[.int .u64 a,.int .u64 b,.int .u64 c,.int .u64 d]] w (StRet w g0 F (s.don g fr m) (.int .i64 (donE s g fr m))):=by
 have L:=hh (Liv.start h);have HZ0:=hh hz;have HF0:=hh hf;have HG:=hh hg;have HFR:=hh hfr;have HU:=hh hu;obtain ⟨gq,hgq⟩:=nm (goodB 1 fr);have HGQ:=hh hgq;clear h hz hf hg hfr hu hgq
 go_enter Tryz.func29,Tryz.ntmps29
 go_upto_region 1 with fail
 obtain ⟨w1,hw1⟩:=nm (w.alloc (.cells #[.int .u64 a,.int .u64 b,.int .u64 c,.int .u64 d] 25));obtain ⟨Y,hY⟩:=nm (w.heap.size);rw [← hw1,← hY];have HY:Hid (w1.heap[Y]? = some (.cells #[.int .u64 a,.int .u64 b,.int .u64 c,.int .u64 d] 25 (0,0))):=hh (by rw [hw1,hY];exact heap_alloc_new _ _);have hb:Below w.heap.size w w1:=by rw [hw1];exact a0c _ _
 clear hw1 hY;replace L:=hh (L.out.later hb);clear hb;go_wp2_with fail
 cases hi:infF (getP s.t) g with
 | none=>
  have HV:Hid (donE s g fr m=8∧s.don g fr m=s):=hh ⟨by unfold donE;rw [hi],by unfold PS.don;rw [hi]⟩;refine (b0C (L.out.look) HF0.out.f HG.out hi).mono ?_;rintro e a1 ⟨rfl,hb⟩;replace L:=hh (L.out.later hb);replace HY:=bA hb HY;clear hb
  go_wp2_with (refine sA _ Tryz.zeroSg ?_)
  intro J a2 hJ;have WJ:=mGe hJ L.out.keep.size;have NYJ:=mNe hJ HY;have HJ:=hh hJ.out.cells;have hbJ:=hJ.out.below;clear hJ;replace L:=hh (L.out.later hbJ);clear hbJ
  go_wp2_with (refine sR 76 #[.pointer none,.int .i64 0,.int .i64 0,.bool false] HJ Tryz.sizeSg ?_)
  intro a3 hxJ kJ zJ;clear zJ;replace L:=hh (a0n L.out HJ.out rfl kJ WJ.out);clear hxJ kJ;clear hi;go_wp2_with fail
  go_ret
  rw [HV.out.1,HV.out.2];exact L.out.ret
 | some p=>
  obtain ⟨t,on⟩:=p;have HT:Hid (I64 t):=hh (by have h9:=a0z hi;unfold I64;omega);have HE:Hid (donE s g fr m=(if goodB 1 fr=false then 2 else mvE s t g fr m)∧s.don g fr m=(if goodB 1 fr=false then s else s.mv t g fr m)):=hh ⟨by unfold donE;rw [hi],by unfold PS.don;rw [hi]⟩;refine (b0x (L.out.look) HF0.out.f HG.out hi).mono ?_;rintro e a1 ⟨rfl,hb⟩;replace L:=hh (L.out.later hb);replace HY:=bA hb HY;clear hb
  go_wp2_with (refine sA _ Tryz.zeroSg ?_)
  intro J a2 hJ;have WJ:=mGe hJ L.out.keep.size;have NYJ:=mNe hJ HY;have HJ:=hh hJ.out.cells;have hbJ:=hJ.out.below;clear hJ;replace L:=hh (L.out.later hbJ);replace HY:=bA hbJ HY;clear hbJ
  go_wp2_with (refine sR 76 #[.pointer (some ⟨g0,0,none⟩),.int .i64 g,.int .i64 t,.bool on] HJ Tryz.sizeSg ?_)
  intro a3 hxJ kJ zJ;clear zJ;replace L:=hh (a0n L.out HJ.out rfl kJ WJ.out);replace HY:=ka1 kJ HY NYJ;replace HJ:=hh hxJ;clear hxJ kJ;clear hi;go_wp2_with fail;refine (f0M fr _).mono ?_;rw [← HGQ.out];rintro e _ ⟨rfl,rfl⟩
  cases gq with
  | false=>
   have HV:Hid (donE s g fr m=2∧s.don g fr m=s):=hh ⟨by rw [HE.out.1,← HGQ.out,if_pos rfl],by rw [HE.out.2,← HGQ.out,if_pos rfl]⟩;go_wp2_with fail
   go_ret
   rw [HV.out.1,HV.out.2];exact L.out.ret
  | true=>
   have HV:Hid (donE s g fr m=mvE s t g fr m∧s.don g fr m=s.mv t g fr m):=hh ⟨by rw [HE.out.1,← HGQ.out,if_neg (by decide)],by rw [HE.out.2,← HGQ.out,if_neg (by decide)]⟩;go_wp2_with fail;obtain ⟨a4,hwz,hbz⟩:=dr a3;replace L:=hh (L.out.later hbz);replace HY:=bA hbz HY;replace HJ:=bA hbz HJ;clear hbz;refine rg2 10 10 hwz HJ HY fun hS=>?_
   clear hwz;refine tA1 0 24 hS ?_;go_frame;refine tA1 1 25 hS ?_;go_frame;refine tk 2 (some 26) rfl rfl (.inl ⟨by rfl,fun w' hS'=>(by have hc:w'.cell? ⟨J,2,none⟩=some (.int .i64 t):=Lib.cell_of_heap (hS'.1) 2;go_simp;rfl)⟩) hS ?_;go_frame;refine tA1 3 27 hS ?_;go_frame;refine tl 5 (some 29) (fun _ h=>h.1) Tryz.underlying76 Tryz.sizeSg hS ?_;go_frame;refine tl 7 (some 31) (fun _ h=>h.2) Tryz.underlying25 Tryz.sizeU hS ?_;go_frame;refine t1 4 fun K hK=>?_
   simp only [gA,jB,gC];go_simp;refine (d0U HT.out HFR.out _).mono ?_;rintro e a5 ⟨rfl,hb⟩;replace L:=hh (L.out.later hb);replace HY:=bA hb HY;replace HJ:=bA hb HJ;clear hb;replace hS:=And.intro HJ.out HY.out;refine hK _ _ (fun _ _=>hS) ?_;clear hK;refine t1 6 fun K hK=>?_
   simp only [gA,jB,gC];go_simp;refine (c0F HG.out HT.out (some ⟨g0,0,none⟩) on _).mono ?_;rintro e a6 ⟨rfl,hb⟩;replace L:=hh (L.out.later hb);replace HY:=bA hb HY;replace HJ:=bA hb HJ;clear hb;replace hS:=And.intro HJ.out HY.out;refine hK _ _ (fun _ _=>hS) ?_;clear hK;refine t1 8 fun K hK=>?_
   simp only [gA,jB,gC];go_simp;refine (L.out.call fun F hs=>d0Z hs (by have:=HZ0.out;omega) HF0.out (kAcc t fr) (kStk t g) HU.out).mono ?_;rintro e a7 ⟨rfl,o,hoth⟩;replace L:=hh o;replace HY:=oA hoth HY;replace HJ:=oA hoth HJ;clear o hoth;replace hS:=And.intro HJ.out HY.out;refine hK _ _ (fun _ _=>hS) ?_;clear hK;refine tA1 9 8 hS ?_;go_frame;refine tD ?_;clear hS;go_wp2_with fail
   go_ret
   rw [HV.out.1,HV.out.2];exact L.out.ret

theorem h0T {w:World} {g0:Nat} {s:PS} {F:List Nat} (h:St w g0 s F) (hz:s.sz < 1000000) (hf:Fit s) {g t:Int} (hg:I64 g) (ht:I64 t) (on:Bool) (tq:Txt) {a b c d:Int} {m:Nat} (hu:UIs a b c d m):Calls Tryz.prog 59 #[.agg #[.pointer (some ⟨g0,0,none⟩),.int .i64 g,.int .i64 t,.bool on],.string (bs tq),.agg #[.int .u64 a,.int .u64 b,.int .u64 c,.int .u64 d]] w (StRet w g0 F (s.out t g tq m) (.tuple #[.agg #[.int .u64 (uw0 (outV s t g tq m)),.int .u64 (uw1 (outV s t g tq m)),.int .u64 (uw2 (outV s t g tq m)),.int .u64 (uw3 (outV s t g tq m))],.int .i64 (outE s t g tq m)])):=by
 have L:=hh (Liv.start h);have HZ0:=hh hz;have HF0:=hh hf;have HG:=hh hg;have HT:=hh ht;have HU:=hh hu;clear h hz hf hg ht hu
 go_enter Tryz.func59,Tryz.ntmps59
 go_wp2_with (refine sA _ Tryz.zeroUz ?_)
 obtain ⟨w1,hw1⟩:=nm ((w.alloc (.cells #[.pointer (some ⟨g0,0,none⟩),.int .i64 g,.int .i64 t,.bool on] 76)).alloc (.cells #[.int .u64 a,.int .u64 b,.int .u64 c,.int .u64 d] 25));obtain ⟨J,hJ⟩:=nm (w.heap.size);obtain ⟨Y,hY⟩:=nm (w.heap.size+1);rw [← hw1,← hY,← hJ];have hbx:=box2 w _ _ _ _ w1 hw1;rw [← hY,← hJ] at hbx;have HJ:=hh hbx.1;have HY:=hh hbx.2.1;have hb:Below w.heap.size w w1:=by rw [← hJ];exact hbx.2.2.1
 clear hbx hw1 hJ hY;replace L:=hh (L.out.later hb);clear hb;intro R a1 hR;have WR:=mGe hR L.out.keep.size;have NJR:=mNe hR HJ;have NYR:=mNe hR HY;have HR:=hh hR.out.cells;have hbR:=hR.out.below;clear hR;replace L:=hh (L.out.later hbR);replace HJ:=bA hbR HJ;replace HY:=bA hbR HY;clear hbR;go_wp2_with fail;obtain ⟨a2,hwz,hbz⟩:=dr a1;replace L:=hh (L.out.later hbz);replace HJ:=bA hbz HJ;replace HY:=bA hbz HY;replace HR:=bA hbz HR;clear hbz;refine rg2 5 5 hwz HJ HY fun hS=>?_
 clear hwz;refine tl 0 (some 11) (fun _ h=>h.2) Tryz.underlying25 Tryz.sizeU hS ?_;go_frame;refine tl 1 (some 12) (fun _ h=>h.1) Tryz.underlying76 Tryz.sizeSg hS ?_;go_frame;refine t1 2 fun K hK=>?_
 simp only [gA,jB,gC];go_simp;refine (b0k (L.out.look) HF0.out.f HG.out HT.out on).mono ?_;rintro e a3 ⟨ya,yb,yc,yd,hu,rfl,hb⟩;have HYU:=hh hu;clear hu;replace L:=hh (L.out.later hb);replace HJ:=bA hb HJ;replace HY:=bA hb HY;replace HR:=bA hb HR;clear hb;replace hS:=And.intro HJ.out HY.out;refine hK _ _ (fun _ _=>hS) ?_;clear hK;refine t1 3 fun K hK=>?_
 simp only [gA,jB,gC];go_simp;refine (c0w HU.out HYU.out _).mono ?_;rintro e a4 ⟨rfl,hb⟩;obtain ⟨cv,hcv⟩:=nm (cmpW m (vTo (getP s.t) g));have HCV:=hh hcv;rw [← hcv];clear hcv;replace L:=hh (L.out.later hb);replace HJ:=bA hb HJ;replace HY:=bA hb HY;replace HR:=bA hb HR;clear hb;replace hS:=And.intro HJ.out HY.out;refine hK _ _ (fun _ _=>hS) ?_;clear hK;refine tA1 4 15 hS ?_;go_frame;refine tD ?_;clear hS
 by_cases hlt:0 < cv
 ·have hlt2:decide (0 < cv)=true:=decide_eq_true hlt;have HM:Hid (vTo (getP s.t) g < m):=hh ((i0F _ _).1 (by rw [← HCV.out];exact hlt));have HV:Hid (outE s t g tq m=13):=hh (by unfold outE;rw [if_pos HM.out]);have HW:Hid (outE s t g tq m=13∧s.out t g tq m=s∧outV s t g tq m=0):=hh ⟨HV.out,by unfold PS.out;rw [HV.out,if_neg (by decide)],by unfold outV;rw [HV.out,if_neg (by decide)]⟩
  go_wp2_with (refine a0a (t:=25) (old:=u0) rfl 25 _ _ rfl R u0 rfl rfl HR.out Tryz.sizeU rfl (a0j _ _ _ _) ?_)
  intro a5 hxR kR zR;clear zR;replace L:=hh (a0n L.out HR.out rfl kR WR.out);replace HR:=hh hxR;clear hxR kR;go_wp2_with fail
  exact bR rfl rfl HR Tryz.underlying25 Tryz.sizeU (by rw [HW.out.1,HW.out.2.1,HW.out.2.2,a0H];exact L.out.ret)
 ·have hlt2:decide (0 < cv)=false:=decide_eq_false hlt;have HM:Hid (outE s t g tq m=moveE (getP s.t) (kStk t g) tq (outX s t g m)):=hh (by
   unfold outE
   rw [if_neg];intro h9
   exact hlt (by rw [HCV.out];exact (i0F _ _).2 h9))
  obtain ⟨x,hx⟩:=nm (outX s t g m);obtain ⟨er,her⟩:=nm (moveE (getP s.t) (kStk t g) tq x);obtain ⟨s1,hs1⟩:=nm (s.moveA (kStk t g) tq x);obtain ⟨s2,hs2⟩:=nm (s1.subA (kTot g) m);have HOV:Hid (outE s t g tq m=er∧s.out t g tq m=(if er=0 then s2 else s)∧outV s t g tq m=if er=0 then x else 0):=hh (by
   have h9:=HM.out;rw [← hx,← her] at h9
   exact ⟨h9,by unfold PS.out;rw [h9,← hx,← hs1,← hs2],by unfold outV;rw [h9,← hx]⟩)
  have HF1:Hid (Fit s1∧s1.sz≤s.sz+4):=hh ⟨by rw [hs1];exact HF0.out.moveA _ _ _,by rw [hs1];exact d0P _ _ _ _⟩;have HNO:Hid (er≠0→s1=s):=hh (fun h9=>by rw [hs1];exact d0q (by rw [← her];exact h9));have HX:=hh hx;have HER:=hh her;have HS1:=hh hs1;have HS2:=hh hs2;clear HM hx her hs1 hs2
  go_upto_region 3 with fail
  clear hlt hlt2
  go_cut [8,9] from 17 to 26 (fun s8 _ wx=>∃ O:Nat,s8 = .pointer (some ⟨O,0,none⟩)∧Hid (w.heap.size≤O)∧Hid (J≠O)∧Hid (Y≠O)∧Hid (R≠O)∧Hid (wx.heap[O]? = some (.cells #[.int .u64 (uw0 x),.int .u64 (uw1 x),.int .u64 (uw2 x),.int .u64 (uw3 x)] 25 (0,0)))∧Hid (wx.heap[J]? = some (.cells #[.pointer (some ⟨g0,0,none⟩),.int .i64 g,.int .i64 t,.bool on] 76 (0,0)))∧Hid (wx.heap[Y]? = some (.cells #[.int .u64 a,.int .u64 b,.int .u64 c,.int .u64 d] 25 (0,0)))∧Hid (wx.heap[R]? = some (.cells u0 25 (0,0)))∧Hid (Liv w F wx g0 s))
  case first=>
   obtain ⟨a5,hwz,hbz⟩:=dr a4;replace L:=hh (L.out.later hbz);replace HJ:=bA hbz HJ;replace HY:=bA hbz HY;replace HR:=bA hbz HR;clear hbz;refine rg2 12 12 hwz HJ HY fun hS=>?_
   clear hwz;refine tl 0 (some 18) (fun _ h=>h.1) Tryz.underlying76 Tryz.sizeSg hS ?_;go_frame;refine tl 2 (some 20) (fun _ h=>h.1) Tryz.underlying76 Tryz.sizeSg hS ?_;go_frame;refine tl 4 (some 22) (fun _ h=>h.2) Tryz.underlying25 Tryz.sizeU hS ?_;go_frame;refine a0k 1 9 rfl rfl (by kernel_rfl) (fun K hK=>?_) (fun K hK=>?_)
   ·simp only [gA,jB,gC];rw [if_pos (by rfl)];go_simp;refine (c0k (L.out.look) HF0.out.f HG.out HT.out on).mono ?_;rintro e a6 ⟨pa,pb,pc,pd,hu,rfl,hb⟩;have HPU:=hh hu;clear hu;replace L:=hh (L.out.later hb);replace HJ:=bA hb HJ;replace HY:=bA hb HY;replace HR:=bA hb HR;clear hb;replace hS:=And.intro HJ.out HY.out;refine hK _ _ (fun _ _=>hS) ?_;clear hK;refine a0k 3 9 rfl rfl (by kernel_rfl) (fun K hK=>?_) (fun K hK=>?_)
    ·simp only [gA,jB,gC];rw [if_pos (by rfl)];go_simp;refine (b0k (L.out.look) HF0.out.f HG.out HT.out on).mono ?_;rintro e a7 ⟨za,zb,zc,zd,hu,rfl,hb⟩;have HZU:=hh hu;clear hu;replace L:=hh (L.out.later hb);replace HJ:=bA hb HJ;replace HY:=bA hb HY;replace HR:=bA hb HR;clear hb;replace hS:=And.intro HJ.out HY.out;refine hK _ _ (fun _ _=>hS) ?_;clear hK;refine a0k 5 9 rfl rfl (by kernel_rfl) (fun K hK=>?_) (fun K hK=>?_)
     ·simp only [gA,jB,gC];rw [if_pos (by rfl)];go_simp;refine (b0g HPU.out HZU.out HU.out _).mono ?_;rintro e a8 ⟨qa,qb,qc,qd,hu,rfl,hb⟩;have hu':UIs qa qb qc qd x:=by rw [HX.out];exact hu
      obtain ⟨rfl,rfl,rfl,rfl⟩:=hu'.uw;clear hu hu';replace L:=hh (L.out.later hb);replace HJ:=bA hb HJ;replace HY:=bA hb HY;replace HR:=bA hb HR;clear hb;replace hS:=And.intro HJ.out HY.out;refine hK _ _ (fun _ _=>hS) ?_;clear hK;refine tA1 6 17 hS ?_;go_frame;refine tA1 7 24 hS ?_;go_frame;refine tA1 8 25 hS ?_;go_frame;refine t1 9 fun K hK=>?_
      simp only [gA,jB,gC];refine wA1 25 Tryz.zeroUz ?_;intro O a9 hO;have WO:=mGe hO L.out.keep.size;have NJO:=mNe hO HJ;have NYO:=mNe hO HY;have NRO:=mNe hO HR;have HO:=hh hO.out.cells;have hbO:=hO.out.below;clear hO;replace L:=hh (L.out.later hbO);replace HJ:=bA hbO HJ;replace HY:=bA hbO HY;replace HR:=bA hbO HR;clear hbO;replace hS:=And.intro HJ.out HY.out;refine hK _ _ (fun _ _=>hS) ?_;clear hK;refine t1 10 fun K hK=>?_
      simp only [gA,jB,gC];refine wR1 25 #[.int .u64 (uw0 x),.int .u64 (uw1 x),.int .u64 (uw2 x),.int .u64 (uw3 x)] HO Tryz.sizeU ?_;intro a10 hxO kO zO;clear zO;replace L:=hh (a0n L.out HO.out rfl kO WO.out);replace HJ:=ka1 kO HJ NJO;replace HY:=ka1 kO HY NYO;replace HR:=ka1 kO HR NRO;replace HO:=hh hxO;clear hxO kO;replace hS:=And.intro HJ.out HY.out;refine hK _ _ (fun _ _=>hS) ?_;clear hK;refine tA1 11 9 hS ?_;go_frame;refine tD ?_;clear hS;go_wp2_with fail
      go_meet
      case rel=>exact ⟨O,rfl,WO,NJO,NYO,NRO,HO,HJ,HY,HR,L⟩
     ·simp only [gA,jB,gC];rw [if_pos (by rfl)];refine wA1 25 Tryz.zeroUz ?_;intro O a8 hO;have WO:=mGe hO L.out.keep.size;have NJO:=mNe hO HJ;have NYO:=mNe hO HY;have NRO:=mNe hO HR;have HO:=hh hO.out.cells;have hbO:=hO.out.below;clear hO;replace L:=hh (L.out.later hbO);replace HJ:=bA hbO HJ;replace HY:=bA hbO HY;replace HR:=bA hbO HR;clear hbO;replace hS:=And.intro HJ.out HY.out;refine hK _ _ (fun _ _=>hS) ?_;clear hK;refine t1 5 fun K hK=>?_
      simp only [gA,jB,gC];go_simp;refine (b0g HPU.out HZU.out HU.out _).mono ?_;rintro e a9 ⟨qa,qb,qc,qd,hu,rfl,hb⟩;have hu':UIs qa qb qc qd x:=by rw [HX.out];exact hu
      obtain ⟨rfl,rfl,rfl,rfl⟩:=hu'.uw;clear hu hu';replace L:=hh (L.out.later hb);replace HJ:=bA hb HJ;replace HY:=bA hb HY;replace HR:=bA hb HR;replace HO:=bA hb HO;clear hb;replace hS:=And.intro HJ.out HY.out;refine hK _ _ (fun _ _=>hS) ?_;clear hK;refine tA1 6 17 hS ?_;go_frame;refine tA1 7 24 hS ?_;go_frame;refine tA1 8 25 hS ?_;go_frame;refine t1 10 fun K hK=>?_
      simp only [gA,jB,gC];refine wR1 25 #[.int .u64 (uw0 x),.int .u64 (uw1 x),.int .u64 (uw2 x),.int .u64 (uw3 x)] HO Tryz.sizeU ?_;intro a10 hxO kO zO;clear zO;replace L:=hh (a0n L.out HO.out rfl kO WO.out);replace HJ:=ka1 kO HJ NJO;replace HY:=ka1 kO HY NYO;replace HR:=ka1 kO HR NRO;replace HO:=hh hxO;clear hxO kO;replace hS:=And.intro HJ.out HY.out;refine hK _ _ (fun _ _=>hS) ?_;clear hK;refine tA1 11 9 hS ?_;go_frame;refine tD ?_;clear hS;go_wp2_with fail
      go_meet
      case rel=>exact ⟨O,rfl,WO,NJO,NYO,NRO,HO,HJ,HY,HR,L⟩
    ·simp only [gA,jB,gC];rw [if_pos (by rfl)];refine wA1 25 Tryz.zeroUz ?_;intro O a7 hO;have WO:=mGe hO L.out.keep.size;have NJO:=mNe hO HJ;have NYO:=mNe hO HY;have NRO:=mNe hO HR;have HO:=hh hO.out.cells;have hbO:=hO.out.below;clear hO;replace L:=hh (L.out.later hbO);replace HJ:=bA hbO HJ;replace HY:=bA hbO HY;replace HR:=bA hbO HR;clear hbO;replace hS:=And.intro HJ.out HY.out;refine hK _ _ (fun _ _=>hS) ?_;clear hK;refine t1 3 fun K hK=>?_
     simp only [gA,jB,gC];go_simp;refine (b0k (L.out.look) HF0.out.f HG.out HT.out on).mono ?_;rintro e a8 ⟨za,zb,zc,zd,hu,rfl,hb⟩;have HZU:=hh hu;clear hu;replace L:=hh (L.out.later hb);replace HJ:=bA hb HJ;replace HY:=bA hb HY;replace HR:=bA hb HR;replace HO:=bA hb HO;clear hb;replace hS:=And.intro HJ.out HY.out;refine hK _ _ (fun _ _=>hS) ?_;clear hK;refine t1 5 fun K hK=>?_
     simp only [gA,jB,gC];go_simp;refine (b0g HPU.out HZU.out HU.out _).mono ?_;rintro e a9 ⟨qa,qb,qc,qd,hu,rfl,hb⟩;have hu':UIs qa qb qc qd x:=by rw [HX.out];exact hu
     obtain ⟨rfl,rfl,rfl,rfl⟩:=hu'.uw;clear hu hu';replace L:=hh (L.out.later hb);replace HJ:=bA hb HJ;replace HY:=bA hb HY;replace HR:=bA hb HR;replace HO:=bA hb HO;clear hb;replace hS:=And.intro HJ.out HY.out;refine hK _ _ (fun _ _=>hS) ?_;clear hK;refine tA1 6 17 hS ?_;go_frame;refine tA1 7 24 hS ?_;go_frame;refine tA1 8 25 hS ?_;go_frame;refine t1 10 fun K hK=>?_
     simp only [gA,jB,gC];refine wR1 25 #[.int .u64 (uw0 x),.int .u64 (uw1 x),.int .u64 (uw2 x),.int .u64 (uw3 x)] HO Tryz.sizeU ?_;intro a10 hxO kO zO;clear zO;replace L:=hh (a0n L.out HO.out rfl kO WO.out);replace HJ:=ka1 kO HJ NJO;replace HY:=ka1 kO HY NYO;replace HR:=ka1 kO HR NRO;replace HO:=hh hxO;clear hxO kO;replace hS:=And.intro HJ.out HY.out;refine hK _ _ (fun _ _=>hS) ?_;clear hK;refine tA1 11 9 hS ?_;go_frame;refine tD ?_;clear hS;go_wp2_with fail
     go_meet
     case rel=>exact ⟨O,rfl,WO,NJO,NYO,NRO,HO,HJ,HY,HR,L⟩
   ·simp only [gA,jB,gC];rw [if_pos (by rfl)];refine wA1 25 Tryz.zeroUz ?_;intro O a6 hO;have WO:=mGe hO L.out.keep.size;have NJO:=mNe hO HJ;have NYO:=mNe hO HY;have NRO:=mNe hO HR;have HO:=hh hO.out.cells;have hbO:=hO.out.below;clear hO;replace L:=hh (L.out.later hbO);replace HJ:=bA hbO HJ;replace HY:=bA hbO HY;replace HR:=bA hbO HR;clear hbO;replace hS:=And.intro HJ.out HY.out;refine hK _ _ (fun _ _=>hS) ?_;clear hK;refine t1 1 fun K hK=>?_
    simp only [gA,jB,gC];go_simp;refine (c0k (L.out.look) HF0.out.f HG.out HT.out on).mono ?_;rintro e a7 ⟨pa,pb,pc,pd,hu,rfl,hb⟩;have HPU:=hh hu;clear hu;replace L:=hh (L.out.later hb);replace HJ:=bA hb HJ;replace HY:=bA hb HY;replace HR:=bA hb HR;replace HO:=bA hb HO;clear hb;replace hS:=And.intro HJ.out HY.out;refine hK _ _ (fun _ _=>hS) ?_;clear hK;refine t1 3 fun K hK=>?_
    simp only [gA,jB,gC];go_simp;refine (b0k (L.out.look) HF0.out.f HG.out HT.out on).mono ?_;rintro e a8 ⟨za,zb,zc,zd,hu,rfl,hb⟩;have HZU:=hh hu;clear hu;replace L:=hh (L.out.later hb);replace HJ:=bA hb HJ;replace HY:=bA hb HY;replace HR:=bA hb HR;replace HO:=bA hb HO;clear hb;replace hS:=And.intro HJ.out HY.out;refine hK _ _ (fun _ _=>hS) ?_;clear hK;refine t1 5 fun K hK=>?_
    simp only [gA,jB,gC];go_simp;refine (b0g HPU.out HZU.out HU.out _).mono ?_;rintro e a9 ⟨qa,qb,qc,qd,hu,rfl,hb⟩;have hu':UIs qa qb qc qd x:=by rw [HX.out];exact hu
    obtain ⟨rfl,rfl,rfl,rfl⟩:=hu'.uw;clear hu hu';replace L:=hh (L.out.later hb);replace HJ:=bA hb HJ;replace HY:=bA hb HY;replace HR:=bA hb HR;replace HO:=bA hb HO;clear hb;replace hS:=And.intro HJ.out HY.out;refine hK _ _ (fun _ _=>hS) ?_;clear hK;refine tA1 6 17 hS ?_;go_frame;refine tA1 7 24 hS ?_;go_frame;refine tA1 8 25 hS ?_;go_frame;refine t1 10 fun K hK=>?_
    simp only [gA,jB,gC];refine wR1 25 #[.int .u64 (uw0 x),.int .u64 (uw1 x),.int .u64 (uw2 x),.int .u64 (uw3 x)] HO Tryz.sizeU ?_;intro a10 hxO kO zO;clear zO;replace L:=hh (a0n L.out HO.out rfl kO WO.out);replace HJ:=ka1 kO HJ NJO;replace HY:=ka1 kO HY NYO;replace HR:=ka1 kO HR NRO;replace HO:=hh hxO;clear hxO kO;replace hS:=And.intro HJ.out HY.out;refine hK _ _ (fun _ _=>hS) ?_;clear hK;refine tA1 11 9 hS ?_;go_frame;refine tD ?_;clear hS;go_wp2_with fail
    go_meet
    case rel=>exact ⟨O,rfl,WO,NJO,NYO,NRO,HO,HJ,HY,HR,L⟩
  case rest=>
   clear L HJ HY HR;obtain ⟨O,rfl,WO,NJO,NYO,NRO,HO,HJ,HY,HR,L⟩:=hcut;go_wp2_with fail;have HXL:Hid (x < uMax):=hh (by rw [HX.out];exact h0G _ _ _ _);obtain ⟨b1,hwz,hbz⟩:=dr wc;replace L:=hh (L.out.later hbz);replace HJ:=bA hbz HJ;replace HY:=bA hbz HY;replace HR:=bA hbz HR;replace HO:=bA hbz HO;clear hbz;refine rg2 8 8 hwz HJ HO fun hS=>?_
   clear hwz;refine tA1 0 26 hS ?_;go_frame;refine tk 1 (some 27) rfl rfl (.inl ⟨by rfl,fun w' hS'=>(by have hc:w'.cell? ⟨J,0,none⟩=some (.pointer (some ⟨g0,0,none⟩)):=Lib.cell_of_heap (hS'.1) 0;go_simp;rfl)⟩) hS ?_;go_frame;refine tl 2 (some 28) (fun _ h=>h.1) Tryz.underlying76 Tryz.sizeSg hS ?_;go_frame;refine tA1 4 30 hS ?_;go_frame;refine tl 5 (some 31) (fun _ h=>h.2) Tryz.underlying25 Tryz.sizeU hS ?_;go_frame;refine t1 3 fun K hK=>?_
   simp only [gA,jB,gC];go_simp;refine (c0F HG.out HT.out (some ⟨g0,0,none⟩) on _).mono ?_;rintro e b2 ⟨rfl,hb⟩;replace L:=hh (L.out.later hb);replace HJ:=bA hb HJ;replace HY:=bA hb HY;replace HR:=bA hb HR;replace HO:=bA hb HO;clear hb;replace hS:=And.intro HJ.out HO.out;refine hK _ _ (fun _ _=>hS) ?_;clear hK;refine t1 6 fun K hK=>?_
   simp only [gA,jB,gC];go_simp;refine (L.out.call fun F hs=>d0Z hs (by have:=HZ0.out;omega) HF0.out (kStk t g) tq (uw_is HXL.out)).mono ?_;rw [← HER.out,← HS1.out];rintro e b3 ⟨rfl,o,hoth⟩;replace L:=hh o;replace HJ:=oA hoth HJ;replace HY:=oA hoth HY;replace HR:=oA hoth HR;replace HO:=oA hoth HO;clear o hoth;replace hS:=And.intro HJ.out HO.out;refine hK _ _ (fun _ _=>hS) ?_;clear hK;refine tA1 7 10 hS ?_;go_frame;refine tD ?_;clear hS
   by_cases hz1:er=0
   ·have hne:(er != 0)=false:=by simpa using hz1
    have HW:Hid (outE s t g tq m=0∧s.out t g tq m=s2∧outV s t g tq m=x):=hh ⟨HOV.out.1.trans hz1,by rw [HOV.out.2.1,if_pos hz1],by rw [HOV.out.2.2,if_pos hz1]⟩;clear hz1;go_wp2_with fail;clear hne;obtain ⟨b4,hwz,hbz⟩:=dr b3;replace L:=hh (L.out.later hbz);replace HJ:=bA hbz HJ;replace HY:=bA hbz HY;replace HR:=bA hbz HR;replace HO:=bA hbz HO;clear hbz;refine rg2 6 6 hwz HJ HY fun hS=>?_
    clear hwz;refine tA1 0 37 hS ?_;go_frame;refine tk 1 (some 38) rfl rfl (.inl ⟨by rfl,fun w' hS'=>(by have hc:w'.cell? ⟨J,0,none⟩=some (.pointer (some ⟨g0,0,none⟩)):=Lib.cell_of_heap (hS'.1) 0;go_simp;rfl)⟩) hS ?_;go_frame;refine tl 2 (some 39) (fun _ h=>h.1) Tryz.underlying76 Tryz.sizeSg hS ?_;go_frame;refine tl 4 (some 41) (fun _ h=>h.2) Tryz.underlying25 Tryz.sizeU hS ?_;go_frame;refine t1 3 fun K hK=>?_
    simp only [gA,jB,gC];go_simp;refine (c0S HG.out t (some ⟨g0,0,none⟩) on _).mono ?_;rintro e b5 ⟨rfl,hb⟩;replace L:=hh (L.out.later hb);replace HJ:=bA hb HJ;replace HY:=bA hb HY;replace HR:=bA hb HR;replace HO:=bA hb HO;clear hb;replace hS:=And.intro HJ.out HY.out;refine hK _ _ (fun _ _=>hS) ?_;clear hK;refine t1 5 fun K hK=>?_
    simp only [gA,jB,gC];go_simp;refine (L.out.call fun F hs=>l0G hs (by have:=HF1.out.2;have:=HZ0.out;omega) HF1.out.1 (kTot g) HU.out).mono ?_;rw [← HS2.out];rintro e b6 ⟨rfl,o,hoth⟩;replace L:=hh o;replace HJ:=oA hoth HJ;replace HY:=oA hoth HY;replace HR:=oA hoth HR;replace HO:=oA hoth HO;clear o hoth;replace hS:=And.intro HJ.out HY.out;refine hK _ _ (fun _ _=>hS) ?_;clear hK;refine tD ?_;clear hS
    go_wp2_with (first
     | (refine lR HO Tryz.underlying25 Tryz.sizeU ?_)
     | (refine sR 25 #[.int .u64 (uw0 x),.int .u64 (uw1 x),.int .u64 (uw2 x),.int .u64 (uw3 x)] HR Tryz.sizeU ?_))
    intro b7 hxR kR zR;clear zR;replace L:=hh (a0n L.out HR.out rfl kR WR.out);replace HR:=hh hxR;clear hxR kR;go_wp2_with fail
    exact bR rfl rfl HR Tryz.underlying25 Tryz.sizeU (by rw [HW.out.1,HW.out.2.1,HW.out.2.2];exact L.out.ret)
   ·have hne:(er != 0)=true:=by simpa using hz1
    have HW:Hid (outE s t g tq m=er∧s.out t g tq m=s1∧outV s t g tq m=0):=hh ⟨HOV.out.1,by rw [HOV.out.2.1,if_neg hz1,HNO.out hz1],by rw [HOV.out.2.2,if_neg hz1]⟩;clear hz1
    go_wp2_with (refine a0a (t:=25) (old:=u0) rfl 25 _ _ rfl R u0 rfl rfl HR.out Tryz.sizeU rfl (a0j _ _ _ _) ?_)
    intro b4 hxR kR zR;clear zR;replace L:=hh (a0n L.out HR.out rfl kR WR.out);replace HR:=hh hxR;clear hxR kR;go_wp2_with fail
    exact bR rfl rfl HR Tryz.underlying25 Tryz.sizeU (by rw [HW.out.1,HW.out.2.1,HW.out.2.2,a0H];exact L.out.ret)

theorem h0J {w:World} {g0:Nat} {s:PS} {F:List Nat} (h:St w g0 s F) (hz:s.sz < 1000000) (hf:Fit s) {g fr:Int} (hg:I64 g) (hfr:I64 fr) {a b c d:Int} {m:Nat} (hu:UIs a b c d m):Calls Tryz.prog 14 #[.pointer (some ⟨g0,0,none⟩),.int .i64 g,.int .i64 fr,.agg #[.int .u64 a,.int .u64 b,.int .u64 c,.int .u64 d]] w (StRet w g0 F (s.red g fr m) (.tuple #[.agg #[.int .u64 (uw0 (redV s g fr m)),.int .u64 (uw1 (redV s g fr m)),.int .u64 (uw2 (redV s g fr m)),.int .u64 (uw3 (redV s g fr m))],.int .i64 (redE s g fr m)])):=by
 have L:=hh (Liv.start h);have HZ0:=hh hz;have HF0:=hh hf;have HG:=hh hg;have HFR:=hh hfr;have HU:=hh hu;obtain ⟨gq,hgq⟩:=nm (goodB 1 fr);have HGQ:=hh hgq;clear h hz hf hg hfr hu hgq
 go_enter Tryz.func14,Tryz.ntmps14
 go_wp2_with (refine sA _ Tryz.zeroUz ?_)
 obtain ⟨w1,hw1⟩:=nm (w.alloc (.cells #[.int .u64 a,.int .u64 b,.int .u64 c,.int .u64 d] 25));obtain ⟨Y,hY⟩:=nm (w.heap.size);rw [← hw1,← hY];have HY:Hid (w1.heap[Y]? = some (.cells #[.int .u64 a,.int .u64 b,.int .u64 c,.int .u64 d] 25 (0,0))):=hh (by rw [hw1,hY];exact heap_alloc_new _ _);have hb:Below w.heap.size w w1:=by rw [hw1];exact a0c _ _
 clear hw1 hY;replace L:=hh (L.out.later hb);clear hb;intro R a1 hR;have WR:=mGe hR L.out.keep.size;have NYR:=mNe hR HY;have HR:=hh hR.out.cells;have hbR:=hR.out.below;clear hR;replace L:=hh (L.out.later hbR);replace HY:=bA hbR HY;clear hbR;go_wp2_with fail
 cases hi:infF (getP s.t) g with
 | none=>
  have HW:Hid (redE s g fr m=8∧s.red g fr m=s∧redV s g fr m=0):=hh ⟨by unfold redE;rw [hi],by unfold PS.red;rw [hi],by unfold redV;rw [hi]⟩;refine (b0C (L.out.look) HF0.out.f HG.out hi).mono ?_;rintro e a2 ⟨rfl,hb⟩;replace L:=hh (L.out.later hb);replace HY:=bA hb HY;replace HR:=bA hb HR;clear hb
  go_wp2_with (refine sA _ Tryz.zeroSg ?_)
  intro J a3 hJ;have WJ:=mGe hJ L.out.keep.size;have NYJ:=mNe hJ HY;have NRJ:=mNe hJ HR;have HJ:=hh hJ.out.cells;have hbJ:=hJ.out.below;clear hJ;replace L:=hh (L.out.later hbJ);replace HR:=bA hbJ HR;clear hbJ
  go_wp2_with (refine sR 76 #[.pointer none,.int .i64 0,.int .i64 0,.bool false] HJ Tryz.sizeSg ?_)
  intro a4 hxJ kJ zJ;clear zJ;replace L:=hh (a0n L.out HJ.out rfl kJ WJ.out);replace HR:=ka1 kJ HR NRJ;clear hxJ kJ;clear hi
  go_wp2_with (refine a0a (t:=25) (old:=u0) rfl 25 _ _ rfl R u0 rfl rfl HR.out Tryz.sizeU rfl (a0j _ _ _ _) ?_)
  intro a5 hxR kR zR;clear zR;replace L:=hh (a0n L.out HR.out rfl kR WR.out);replace HR:=hh hxR;clear hxR kR;go_wp2_with fail
  exact bR rfl rfl HR Tryz.underlying25 Tryz.sizeU (by rw [HW.out.1,HW.out.2.1,HW.out.2.2,a0H];exact L.out.ret)
 | some p=>
  obtain ⟨t,on⟩:=p;have HT:Hid (I64 t):=hh (by have h9:=a0z hi;unfold I64;omega);have HE:Hid (redE s g fr m=(if goodB 1 fr=false then 2 else outE s t g (kAcc t fr) m)∧s.red g fr m=(if goodB 1 fr=false then s else s.out t g (kAcc t fr) m)∧redV s g fr m=if goodB 1 fr=false then 0 else outV s t g (kAcc t fr) m):=hh ⟨by unfold redE;rw [hi],by unfold PS.red;rw [hi],by unfold redV;rw [hi]⟩;refine (b0x (L.out.look) HF0.out.f HG.out hi).mono ?_;rintro e a2 ⟨rfl,hb⟩;replace L:=hh (L.out.later hb);replace HY:=bA hb HY;replace HR:=bA hb HR;clear hb
  go_wp2_with (refine sA _ Tryz.zeroSg ?_)
  intro J a3 hJ;have WJ:=mGe hJ L.out.keep.size;have NYJ:=mNe hJ HY;have NRJ:=mNe hJ HR;have HJ:=hh hJ.out.cells;have hbJ:=hJ.out.below;clear hJ;replace L:=hh (L.out.later hbJ);replace HY:=bA hbJ HY;replace HR:=bA hbJ HR;clear hbJ
  go_wp2_with (refine sR 76 #[.pointer (some ⟨g0,0,none⟩),.int .i64 g,.int .i64 t,.bool on] HJ Tryz.sizeSg ?_)
  intro a4 hxJ kJ zJ;clear zJ;replace L:=hh (a0n L.out HJ.out rfl kJ WJ.out);replace HY:=ka1 kJ HY NYJ;replace HR:=ka1 kJ HR NRJ;replace HJ:=hh hxJ;clear hxJ kJ;clear hi;go_wp2_with fail;refine (f0M fr _).mono ?_;rw [← HGQ.out];rintro e _ ⟨rfl,rfl⟩
  cases gq with
  | false=>
   have HW:Hid (redE s g fr m=2∧s.red g fr m=s∧redV s g fr m=0):=hh ⟨by rw [HE.out.1,← HGQ.out,if_pos rfl],by rw [HE.out.2.1,← HGQ.out,if_pos rfl],by rw [HE.out.2.2,← HGQ.out,if_pos rfl]⟩
   go_wp2_with (refine a0a (t:=25) (old:=u0) rfl 25 _ _ rfl R u0 rfl rfl HR.out Tryz.sizeU rfl (a0j _ _ _ _) ?_)
   intro a5 hxR kR zR;clear zR;replace L:=hh (a0n L.out HR.out rfl kR WR.out);replace HR:=hh hxR;clear hxR kR;go_wp2_with fail
   exact bR rfl rfl HR Tryz.underlying25 Tryz.sizeU (by rw [HW.out.1,HW.out.2.1,HW.out.2.2,a0H];exact L.out.ret)
  | true=>
   have HW0:Hid (redE s g fr m=outE s t g (kAcc t fr) m∧s.red g fr m=s.out t g (kAcc t fr) m∧redV s g fr m=outV s t g (kAcc t fr) m):=hh ⟨by rw [HE.out.1,← HGQ.out,if_neg (by decide)],by rw [HE.out.2.1,← HGQ.out,if_neg (by decide)],by rw [HE.out.2.2,← HGQ.out,if_neg (by decide)]⟩;obtain ⟨x,hx⟩:=nm (outV s t g (kAcc t fr) m);obtain ⟨er,her⟩:=nm (outE s t g (kAcc t fr) m);obtain ⟨s2,hs2⟩:=nm (s.out t g (kAcc t fr) m);have HX:=hh hx;have HER:=hh her;have HS2:=hh hs2;have HW:Hid (redE s g fr m=er∧s.red g fr m=s2∧redV s g fr m=x):=hh ⟨by rw [HW0.out.1,her],by rw [HW0.out.2.1,hs2],by rw [HW0.out.2.2,hx]⟩;clear hx her hs2;go_wp2_with fail;obtain ⟨a5,hwz,hbz⟩:=dr a4;replace L:=hh (L.out.later hbz);replace HY:=bA hbz HY;replace HR:=bA hbz HR;replace HJ:=bA hbz HJ;clear hbz;refine rg2 11 11 hwz HJ HY fun hS=>?_
   clear hwz;refine tl 0 (some 27) (fun _ h=>h.1) Tryz.underlying76 Tryz.sizeSg hS ?_;go_frame;refine tA1 1 28 hS ?_;go_frame;refine tk 2 (some 29) rfl rfl (.inl ⟨by rfl,fun w' hS'=>(by have hc:w'.cell? ⟨J,2,none⟩=some (.int .i64 t):=Lib.cell_of_heap (hS'.1) 2;go_simp;rfl)⟩) hS ?_;go_frame;refine tA1 3 30 hS ?_;go_frame;refine tl 5 (some 32) (fun _ h=>h.2) Tryz.underlying25 Tryz.sizeU hS ?_;go_frame;refine t1 4 fun K hK=>?_
   simp only [gA,jB,gC];go_simp;refine (d0U HT.out HFR.out _).mono ?_;rintro e a6 ⟨rfl,hb⟩;replace L:=hh (L.out.later hb);replace HY:=bA hb HY;replace HR:=bA hb HR;replace HJ:=bA hb HJ;clear hb;replace hS:=And.intro HJ.out HY.out;refine hK _ _ (fun _ _=>hS) ?_;clear hK;refine t1 6 fun K hK=>?_
   simp only [gA,jB,gC];go_simp;refine (L.out.call fun F hs=>h0T hs HZ0.out HF0.out HG.out HT.out on (kAcc t fr) HU.out).mono ?_;rw [← HX.out,← HER.out,← HS2.out];rintro e a7 ⟨rfl,o,hoth⟩;replace L:=hh o;replace HY:=oA hoth HY;replace HR:=oA hoth HR;replace HJ:=oA hoth HJ;clear o hoth;replace hS:=And.intro HJ.out HY.out;refine hK _ _ (fun _ _=>hS) ?_;clear hK;refine tA1 7 34 hS ?_;go_frame;refine tA1 8 35 hS ?_;go_frame;refine t1 9 fun K hK=>?_
   simp only [gA,jB,gC];refine wR1 25 #[.int .u64 (uw0 x),.int .u64 (uw1 x),.int .u64 (uw2 x),.int .u64 (uw3 x)] HR Tryz.sizeU ?_;intro a8 hxR kR zR;clear zR;replace L:=hh (a0n L.out HR.out rfl kR WR.out);replace HY:=ka1 kR HY NYR;replace HJ:=kb1 kR HJ NRJ;replace HR:=hh hxR;clear hxR kR;replace hS:=And.intro HJ.out HY.out;refine hK _ _ (fun _ _=>hS) ?_;clear hK;refine tA1 10 9 hS ?_;go_frame;refine tD ?_;clear hS;go_wp2_with fail
   exact bR rfl rfl HR Tryz.underlying25 Tryz.sizeU (by rw [HW.out.1,HW.out.2.1,HW.out.2.2];exact L.out.ret)

theorem l0w {w:World} {g0:Nat} {s:PS} {F:List Nat} (h:St w g0 s F) (hz:s.sz < 1000000) (hf:Fit s) {g:Int} (hg:I64 g) {a b c d:Int} {m:Nat} (hu:UIs a b c d m):Calls Tryz.prog 30 #[.pointer (some ⟨g0,0,none⟩),.int .i64 g,.agg #[.int .u64 a,.int .u64 b,.int .u64 c,.int .u64 d]] w (StRet w g0 F (s.bur g m) (.tuple #[.agg #[.int .u64 (uw0 (burV s g m)),.int .u64 (uw1 (burV s g m)),.int .u64 (uw2 (burV s g m)),.int .u64 (uw3 (burV s g m))],.int .i64 (burE s g m)])):=by
 have L:=hh (Liv.start h);have HZ0:=hh hz;have HF0:=hh hf;have HG:=hh hg;have HU:=hh hu;clear h hz hf hg hu
 go_enter Tryz.func30,Tryz.ntmps30
 go_wp2_with (refine sA _ Tryz.zeroUz ?_)
 obtain ⟨w1,hw1⟩:=nm (w.alloc (.cells #[.int .u64 a,.int .u64 b,.int .u64 c,.int .u64 d] 25));obtain ⟨Y,hY⟩:=nm (w.heap.size);rw [← hw1,← hY];have HY:Hid (w1.heap[Y]? = some (.cells #[.int .u64 a,.int .u64 b,.int .u64 c,.int .u64 d] 25 (0,0))):=hh (by rw [hw1,hY];exact heap_alloc_new _ _);have hb:Below w.heap.size w w1:=by rw [hw1];exact a0c _ _
 clear hw1 hY;replace L:=hh (L.out.later hb);clear hb;intro R a1 hR;have WR:=mGe hR L.out.keep.size;have NYR:=mNe hR HY;have HR:=hh hR.out.cells;have hbR:=hR.out.below;clear hR;replace L:=hh (L.out.later hbR);replace HY:=bA hbR HY;clear hbR;go_wp2_with fail
 cases hi:infF (getP s.t) g with
 | none=>
  have HW:Hid (burE s g m=8∧s.bur g m=s∧burV s g m=0):=hh ⟨by unfold burE;rw [hi],by unfold PS.bur;rw [hi],by unfold burV;rw [hi]⟩;refine (b0C (L.out.look) HF0.out.f HG.out hi).mono ?_;rintro e a2 ⟨rfl,hb⟩;replace L:=hh (L.out.later hb);replace HY:=bA hb HY;replace HR:=bA hb HR;clear hb
  go_wp2_with (refine sA _ Tryz.zeroSg ?_)
  intro J a3 hJ;have WJ:=mGe hJ L.out.keep.size;have NYJ:=mNe hJ HY;have NRJ:=mNe hJ HR;have HJ:=hh hJ.out.cells;have hbJ:=hJ.out.below;clear hJ;replace L:=hh (L.out.later hbJ);replace HR:=bA hbJ HR;clear hbJ
  go_wp2_with (refine sR 76 #[.pointer none,.int .i64 0,.int .i64 0,.bool false] HJ Tryz.sizeSg ?_)
  intro a4 hxJ kJ zJ;clear zJ;replace L:=hh (a0n L.out HJ.out rfl kJ WJ.out);replace HR:=ka1 kJ HR NRJ;clear hxJ kJ;clear hi
  go_wp2_with (refine a0a (t:=25) (old:=u0) rfl 25 _ _ rfl R u0 rfl rfl HR.out Tryz.sizeU rfl (a0j _ _ _ _) ?_)
  intro a5 hxR kR zR;clear zR;replace L:=hh (a0n L.out HR.out rfl kR WR.out);replace HR:=hh hxR;clear hxR kR;go_wp2_with fail
  exact bR rfl rfl HR Tryz.underlying25 Tryz.sizeU (by rw [HW.out.1,HW.out.2.1,HW.out.2.2,a0H];exact L.out.ret)
 | some p=>
  obtain ⟨t,on⟩:=p;have HT:Hid (I64 t):=hh (by have h9:=a0z hi;unfold I64;omega);have HE:Hid (burE s g m=(outE s t g (kSink t) m)∧s.bur g m=(s.out t g (kSink t) m)∧burV s g m=outV s t g (kSink t) m):=hh ⟨by unfold burE;rw [hi],by unfold PS.bur;rw [hi],by unfold burV;rw [hi]⟩;refine (b0x (L.out.look) HF0.out.f HG.out hi).mono ?_;rintro e a2 ⟨rfl,hb⟩;replace L:=hh (L.out.later hb);replace HY:=bA hb HY;replace HR:=bA hb HR;clear hb
  go_wp2_with (refine sA _ Tryz.zeroSg ?_)
  intro J a3 hJ;have WJ:=mGe hJ L.out.keep.size;have NYJ:=mNe hJ HY;have NRJ:=mNe hJ HR;have HJ:=hh hJ.out.cells;have hbJ:=hJ.out.below;clear hJ;replace L:=hh (L.out.later hbJ);replace HY:=bA hbJ HY;replace HR:=bA hbJ HR;clear hbJ
  go_wp2_with (refine sR 76 #[.pointer (some ⟨g0,0,none⟩),.int .i64 g,.int .i64 t,.bool on] HJ Tryz.sizeSg ?_)
  intro a4 hxJ kJ zJ;clear zJ;replace L:=hh (a0n L.out HJ.out rfl kJ WJ.out);replace HY:=ka1 kJ HY NYJ;replace HR:=ka1 kJ HR NRJ;replace HJ:=hh hxJ;clear hxJ kJ;clear hi;go_wp2_with fail;have HW0:Hid (burE s g m=outE s t g (kSink t) m∧s.bur g m=s.out t g (kSink t) m∧burV s g m=outV s t g (kSink t) m):=hh ⟨by rw [HE.out.1],by rw [HE.out.2.1],by rw [HE.out.2.2]⟩;obtain ⟨x,hx⟩:=nm (outV s t g (kSink t) m);obtain ⟨er,her⟩:=nm (outE s t g (kSink t) m);obtain ⟨s2,hs2⟩:=nm (s.out t g (kSink t) m);have HX:=hh hx;have HER:=hh her;have HS2:=hh hs2;have HW:Hid (burE s g m=er∧s.bur g m=s2∧burV s g m=x):=hh ⟨by rw [HW0.out.1,her],by rw [HW0.out.2.1,hs2],by rw [HW0.out.2.2,hx]⟩;clear hx her hs2;go_wp2_with fail;obtain ⟨a5,hwz,hbz⟩:=dr a4;replace L:=hh (L.out.later hbz);replace HY:=bA hbz HY;replace HR:=bA hbz HR;replace HJ:=bA hbz HJ;clear hbz;refine rg2 10 10 hwz HJ HY fun hS=>?_
  clear hwz;refine tl 0 (some 19) (fun _ h=>h.1) Tryz.underlying76 Tryz.sizeSg hS ?_;go_frame;refine tA1 1 20 hS ?_;go_frame;refine tk 2 (some 21) rfl rfl (.inl ⟨by rfl,fun w' hS'=>(by have hc:w'.cell? ⟨J,2,none⟩=some (.int .i64 t):=Lib.cell_of_heap (hS'.1) 2;go_simp;rfl)⟩) hS ?_;go_frame;refine tl 4 (some 23) (fun _ h=>h.2) Tryz.underlying25 Tryz.sizeU hS ?_;go_frame;refine t1 3 fun K hK=>?_
  simp only [gA,jB,gC];go_simp;refine (k0p HT.out _).mono ?_;rintro e a6 ⟨rfl,hb⟩;replace L:=hh (L.out.later hb);replace HY:=bA hb HY;replace HR:=bA hb HR;replace HJ:=bA hb HJ;clear hb;replace hS:=And.intro HJ.out HY.out;refine hK _ _ (fun _ _=>hS) ?_;clear hK;refine t1 5 fun K hK=>?_
  simp only [gA,jB,gC];go_simp;refine (L.out.call fun F hs=>h0T hs HZ0.out HF0.out HG.out HT.out on (kSink t) HU.out).mono ?_;rw [← HX.out,← HER.out,← HS2.out];rintro e a7 ⟨rfl,o,hoth⟩;replace L:=hh o;replace HY:=oA hoth HY;replace HR:=oA hoth HR;replace HJ:=oA hoth HJ;clear o hoth;replace hS:=And.intro HJ.out HY.out;refine hK _ _ (fun _ _=>hS) ?_;clear hK;refine tA1 6 25 hS ?_;go_frame;refine tA1 7 26 hS ?_;go_frame;refine t1 8 fun K hK=>?_
  simp only [gA,jB,gC];refine wR1 25 #[.int .u64 (uw0 x),.int .u64 (uw1 x),.int .u64 (uw2 x),.int .u64 (uw3 x)] HR Tryz.sizeU ?_;intro a8 hxR kR zR;clear zR;replace L:=hh (a0n L.out HR.out rfl kR WR.out);replace HY:=ka1 kR HY NYR;replace HJ:=kb1 kR HJ NRJ;replace HR:=hh hxR;clear hxR kR;replace hS:=And.intro HJ.out HY.out;refine hK _ _ (fun _ _=>hS) ?_;clear hK;refine tA1 9 7 hS ?_;go_frame;refine tD ?_;clear hS;go_wp2_with fail
  exact bR rfl rfl HR Tryz.underlying25 Tryz.sizeU (by rw [HW.out.1,HW.out.2.1,HW.out.2.2];exact L.out.ret)
end Go.Proofs.YtabminbgoclnkaaGreat
