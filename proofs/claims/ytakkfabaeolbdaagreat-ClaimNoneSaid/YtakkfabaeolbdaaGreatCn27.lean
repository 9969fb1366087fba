/- What stands under a key behind a Set or a Delete: no condition. (The same facts stand in LawH: never import both.) Small pieces that the texts of 28 and 32 hold too (never import both): literal slices, keys, stores. No condition. -/
import Derived.Test.YtakkfabaeolbdaaGreatCn23
import Derived.Test.YtakkfabaeolbdaaGreatCn26
namespace Go.Proofs.YtakkfabaeolbdaaGreat
section
open Go.RowKit

theorem q0w (s:PS) (k v q:Txt):getP (s.set k v).t q=if k=q∧k≠[] then some v else getP s.t q:=by
 unfold PS.set
 by_cases h:k = []∨getP s.t k=some v
 ·rw [if_pos h]
  by_cases h2:k=q∧k≠[]
  ·rw [if_pos h2]
   rcases h with h | h
   ·exact absurd h h2.2
   ·rw [← h2.1];exact h
  ·rw [if_neg h2]
 ·rw [if_neg h];have h1:k≠[]:=fun e=>h (.inl e)
  show getP (layP s.t k v true) q=_
  rw [f0d]
  by_cases h2:k=q
  ·have h3:k=q∧k≠[]:=⟨h2,h1⟩;rw [if_pos h2,if_pos h3];rfl
  ·rw [if_neg h2,if_neg fun e=>h2 e.1]
theorem n0Y (s:PS) (k q:Txt):getP (s.del k).t q=if k=q then none else getP s.t q:=by
 unfold PS.del
 by_cases h:getP s.t k=none
 ·rw [if_pos h]
  by_cases h2:k=q
  ·rw [if_pos h2,← h2];exact h
  ·rw [if_neg h2]
 ·rw [if_neg h]
  show getP (layP s.t k [] false) q=_
  rw [f0d];rfl
theorem e0M (a b:Txt):((bs a).toList == (bs b).toList)=decide (a=b):=by
 rw [a0j,a0j,Bool.eq_iff_iff,beq_iff_eq,decide_eq_true_iff]

theorem d0S (s:PS) (k v q:Txt):valF (getP (s.set k v).t) q=if k=q∧k≠[] then v else valF (getP s.t) q:=by
 unfold valF
 rw [q0w]
 split<;>rfl
theorem i0o (s:PS) (k q:Txt):valF (getP (s.del k).t) q=if k=q then [] else valF (getP s.t) q:=by
 unfold valF
 rw [n0Y]
 split<;>rfl
theorem g0g (s:PS) (k v q:Txt) (hk:k≠[]):valF (getP (s.putv k v).t) q=if k=q then v else valF (getP s.t) q:=by
 unfold PS.putv
 split
 ·rename_i h;rw [i0o,h]
 ·rw [d0S]
  by_cases h:k=q
  ·rw [if_pos ⟨h,hk⟩,if_pos h]
  ·rw [if_neg fun e=>h e.1,if_neg h]
theorem c0R {t:Int} {ids:List Int} (h1:1≤t) (h2:t≤255) (h:∀ x∈ids,0≤x):keyF t ids≠[]:=by
 unfold keyF
 rw [if_neg]
 ·simp
 ·rintro (h3 | h3 | ⟨x,hx,h3⟩)
  ·omega
  ·omega
  ·have:=h x hx;omega
end
section
open Go.RowKit

theorem j0r (l:List Int):l.flatMap intE=l.map (Value.int .i64):=by
 induction l with
 | nil=>rfl
 | cons x l ih=>rw [List.flatMap_cons,ih];rfl
theorem a0H {w:World} {g B:Nat} {l:List Int} (hg:w.heap[g]? = some (.cells (l.map (Value.int .i64)).toArray 3 (0,0))) (hB:B≤g) (hl:l.length≤maxLen):Own w B 3 intE 1 (.slice (some ⟨g,0,none⟩) l.length l.length) l:=by
 refine ⟨by rw [j0r];simp,.inr ⟨g,l.length,_,rfl,hB,hg,Nat.le_refl _,hl,by simp,?_⟩⟩;rw [j0r,List.take_of_length_le (by simp)]
theorem a0e {a b:World} (h:Below a.heap.size a b) {k:Nat} {o:Obj} (ho:a.heap[k]? = some o):b.heap[k]? = some o:=(Keep.of_below (S:=fun _=>False) h).at ho id
theorem I64s.one {n:Int} (h:-9223372036854775808≤n∧n < 9223372036854775808):I64s [n]:=by
 intro x hx;simp only [List.mem_singleton] at hx;rw [hx];exact h
theorem lit1 (w:World) (n:Int):Rd (w.alloc (.cells #[.int .i64 n] 3)) intE 1 (.slice (some ⟨w.heap.size,0,none⟩) 1 1) [n]:=
 RowRet.rd (w:=w) (a0H (l:=[n]) (heap_alloc_new _ _) (Nat.le_refl _) (by unfold maxLen;simp))
theorem a0d (w:World) (o:Obj):Below w.heap.size w (w.alloc o):=(Below.refl _ _).alloc (Nat.le_refl _) o
theorem lit2 (w:World) (a b:Int):Rd (w.alloc (.cells #[.int .i64 a,.int .i64 b] 3)) intE 1 (.slice (some ⟨w.heap.size,0,none⟩) 2 2) [a,b]:=
 RowRet.rd (w:=w) (a0H (l:=[a,b]) (heap_alloc_new _ _) (Nat.le_refl _) (by unfold maxLen;simp))
theorem I64s.two {a b:Int} (h1:-9223372036854775808≤a∧a < 9223372036854775808) (h2:-9223372036854775808≤b∧b < 9223372036854775808):I64s [a,b]:=by
 intro x hx;simp only [List.mem_cons,List.not_mem_nil,or_false] at hx
 rcases hx with rfl | rfl
 ·exact h1
 ·exact h2
theorem c0c {S:Nat→Prop} {a b:World} (h:Keep S a b) {k o:Nat} {v:Value} (hv:a.cell? ⟨k,o,none⟩=some v) (hn:¬ S k):b.cell? ⟨k,o,none⟩=some v:=by
 have hk:k < a.heap.size:=block_lt_of_cell hv;rw [← hv]
 unfold World.cell?
 simp only [h.block k hk hn]
theorem l0V {P:Program} {o:Oper} {a:Act} {w:World} {K:Act→World→Prop} {Q:Exit→Act→World→Prop} (ty:TypeId) (ho:o.op = .alloc ty)
  (z:Value) (cs:Array Value) (hz:∀ w,(zeroValue ty).run P w = .ok z w) (hc:z.cells=cs)
  (h:∀ g w',Hid (Made w g cs ty w')→K (a.put o.dst (.pointer (some ⟨g,0,none⟩))) w'):o.wp P a w K Q:=by
 unfold Oper.wp execOp
 simp only [ho,Instr.alloc,Sem.run_bind,Sem.run_pure,Result.andThen_ok,hz w];have:(newVar ty z).run P w = .ok ⟨w.heap.size,0,none⟩ (w.alloc (.cells cs ty)):=by
  rw [← hc];rfl
 simp only [this,Result.andThen_ok]
 exact h _ _ (g0N w cs ty)
theorem t0v {P:Program} {w:World} {g:Nat} {t ty:TypeId} {cs:Array Value} {fr:Nat × Nat} {d:TypeDesc} (hg:w.heap[g]? = some (.cells cs t fr))
  (hu:P.underlying ty=some d) (hd:(match d with | .struct _ | .array _ _=>true | _=>false)=true) (hi:(P.info? ty).map (·.size)=some cs.size) :
  (Instr.loadAt ty (.pointer (some ⟨g,0,none⟩))).run P w = .ok (.agg cs) w:=by
 have h:=run_loadVar_row (P:=P) w g t ty cs fr d hg hu hd hi
 exact h
theorem Oth.trans {a b c:World} (h1:Oth a b) (h2:Oth b c):Oth a c:=⟨Nat.le_trans h1.1 h2.1,fun R o ho h3 h4=>h2.2 R o (h1.2 R o ho h3 h4) h3 h4⟩
theorem Oth.of_below {a b:World} (h:Below a.heap.size a b):Oth a b:=⟨h.size,fun _ _ ho _ _=>a0e h ho⟩
theorem c0S {t:Int} {ids:List Int} (h1:1≤t) (h2:t≤255) (h:∀ x∈ids,0≤x):keyF t ids=UInt8.ofNat t.toNat :: ids.flatMap numL:=by
 unfold keyF
 rw [if_neg];rintro (h3 | h3 | ⟨x,hx,h3⟩)
 ·omega
 ·omega
 ·have:=h x hx;omega
theorem l0e {t i:Int} (h1:1≤t) (h2:t≤255) (h:0≤i):keyF t [i]=UInt8.ofNat t.toNat :: numL i:=by
 rw [c0S h1 h2 (by intro x hx;simp only [List.mem_singleton] at hx;omega)];simp
theorem e0U {t i j:Int} (h1:1≤t) (h2:t≤255) (hi:0≤i) (hi2:i < 18446744073709551616) (hj:0≤j) (hj2:j < 18446744073709551616) (h:keyF t [i]=keyF t [j]):i=j:=by
 rw [l0e h1 h2 hi,l0e h1 h2 hj] at h;have h3:=(List.cons.inj h).2;rw [← h0J i hi hi2,← h0J j hj hj2,h3]
theorem c0e {t u:Int} {l m:List Int} (h1:1≤t) (h2:t≤255) (h3:1≤u) (h4:u≤255) (h:t≠u) (hl:keyF t l≠[]):keyF t l≠keyF u m:=by
 have e1:keyF t l=UInt8.ofNat t.toNat :: l.flatMap numL:=by
  unfold keyF at hl ⊢
  split
  ·rename_i hc;rw [if_pos hc] at hl;exact absurd rfl hl
  ·rfl
 rw [e1]
 unfold keyF
 split
 ·simp
 ·intro e;have e2:=(List.cons.inj e).1;have e3:=congrArg UInt8.toNat e2;rw [UInt8.toNat_ofNat',UInt8.toNat_ofNat'] at e3
  omega
theorem f0K {n:Int} (h0:0≤n) (h1:n < 9223372036854775808):rowF (numL n) = [n]:=by
 have:=i0I (l:=[n]) (by intro x hx;simp only [List.mem_singleton] at hx;omega)
 simpa using this
theorem k0y (s:PS) (k q:Txt) {n:Int} (hk:k≠[]) (hn:1≤n):valF (getP (s.setInt k n).t) q=if k=q then numL n else valF (getP s.t) q:=by
 unfold PS.setInt
 rw [if_neg (by omega),d0S]
 by_cases h:k=q
 ·rw [if_pos ⟨h,hk⟩,if_pos h]
 ·rw [if_neg fun e=>h e.1,if_neg h]

theorem wA1 {P:Program} {o:Oper} {a:Act} {w:World} {K:Act→World→Prop} {Q:Exit→Act→World→Prop} (ty:TypeId) {z:Value} {cs:Array Value} (hz:∀ w,(zeroValue ty).run P w = .ok z w)
    (h:∀ g w',Hid (Made w g cs ty w')→K (a.put o.dst (.pointer (some ⟨g,0,none⟩))) w') (ho:o.op = .alloc ty:=by rfl) (hc:z.cells=cs:=by rfl):o.wp P a w K Q:=l0V ty ho z cs hz hc h
end
end Go.Proofs.YtakkfabaeolbdaaGreat
