/- What stands under a key behind a Set or a Delete: no condition. (The same facts stand in LawH: never import both.) Small pieces that the texts of 28 and 32 hold too (never import both): literal slices, keys, stores. No condition. -/
import Derived.Test.YtabminbgoclnkaaGreatVaCelP
import Derived.Test.YtabminbgoclnkaaGreatVa10
namespace Go.Proofs.YtabminbgoclnkaaGreat
section
open Go.RowKit

theorem l0K (s:PS) (k v q:Txt):getP (s.set k v).t q=if k=q∧k≠[] then some v else getP s.t q:=by
 unfold PS.set
 by_cases h:k = []∨getP s.t k=some v
 ·rw [if_pos h]
  by_cases h2:k=q∧k≠[]
  ·rw [if_pos h2]
   rcases h with h | h
   ·exact absurd h h2.2
   ·rw [← h2.1];exact h
  ·rw [if_neg h2]
 ·rw [if_neg h];have h1:k≠[]:=fun e=>h (.inl e)
  show getP (layP s.t k v true) q=_
  rw [d0T]
  by_cases h2:k=q
  ·have h3:k=q∧k≠[]:=⟨h2,h1⟩;rw [if_pos h2,if_pos h3];rfl
  ·rw [if_neg h2,if_neg fun e=>h2 e.1]
theorem k0e (s:PS) (k q:Txt):getP (s.del k).t q=if k=q then none else getP s.t q:=by
 unfold PS.del
 by_cases h:getP s.t k=none
 ·rw [if_pos h]
  by_cases h2:k=q
  ·rw [if_pos h2,← h2];exact h
  ·rw [if_neg h2]
 ·rw [if_neg h]
  show getP (layP s.t k [] false) q=_
  rw [d0T];rfl
theorem d0I (a b:Txt):((bs a).toList == (bs b).toList)=decide (a=b):=by
 rw [a0g,a0g,Bool.eq_iff_iff,beq_iff_eq,decide_eq_true_iff]

theorem i0C (s:PS) (k v q:Txt):valF (getP (s.set k v).t) q=if k=q∧k≠[] then v else valF (getP s.t) q:=by
 unfold valF
 rw [l0K]
 split<;>rfl
theorem h0P (s:PS) (k q:Txt):valF (getP (s.del k).t) q=if k=q then [] else valF (getP s.t) q:=by
 unfold valF
 rw [k0e]
 split<;>rfl
theorem n0S (s:PS) (k v q:Txt) (hk:k≠[]):valF (getP (s.putv k v).t) q=if k=q then v else valF (getP s.t) q:=by
 unfold PS.putv
 split
 ·rename_i h;rw [h0P,h]
 ·rw [i0C]
  by_cases h:k=q
  ·rw [if_pos ⟨h,hk⟩,if_pos h]
  ·rw [if_neg fun e=>h e.1,if_neg h]
theorem n0M (s:PS) (k q:Txt) {l:List Int} (hk:k≠[]) (h:∀ x∈l,0≤x∧x < 9223372036854775808):rowF (valF (getP (s.setRow k l).t) q)=if k=q then l else rowF (valF (getP s.t) q):=by
 unfold PS.setRow
 rw [if_neg (by rintro ⟨x,hx,h1⟩;have:=(h x hx).1;omega),n0S _ _ _ _ hk]
 split
 ·exact k0t h
 ·rfl
theorem k0A {t:Int} {ids:List Int} (h1:1≤t) (h2:t≤255) (h:∀ x∈ids,0≤x):keyF t ids≠[]:=by
 unfold keyF
 rw [if_neg]
 ·simp
 ·rintro (h3 | h3 | ⟨x,hx,h3⟩)
  ·omega
  ·omega
  ·have:=h x hx;omega
end
section
open Go.RowKit

theorem g0T (l:List Int):l.flatMap intE=l.map (Value.int .i64):=by
 induction l with
 | nil=>rfl
 | cons x l ih=>rw [List.flatMap_cons,ih];rfl
theorem a0w {w:World} {g B:Nat} {l:List Int} (hg:w.heap[g]? = some (.cells (l.map (Value.int .i64)).toArray 3 (0,0))) (hB:B≤g) (hl:l.length≤maxLen):Own w B 3 intE 1 (.slice (some ⟨g,0,none⟩) l.length l.length) l:=by
 refine ⟨by rw [g0T];simp,.inr ⟨g,l.length,_,rfl,hB,hg,Nat.le_refl _,hl,by simp,?_⟩⟩;rw [g0T,List.take_of_length_le (by simp)]
theorem a0d {a b:World} (h:Below a.heap.size a b) {k:Nat} {o:Obj} (ho:a.heap[k]? = some o):b.heap[k]? = some o:=(Keep.of_below (S:=fun _=>False) h).at ho id
theorem I64s.one {n:Int} (h:-9223372036854775808≤n∧n < 9223372036854775808):I64s [n]:=by
 intro x hx;simp only [List.mem_singleton] at hx;rw [hx];exact h
theorem a0c (w:World) (o:Obj):Below w.heap.size w (w.alloc o):=(Below.refl _ _).alloc (Nat.le_refl _) o
theorem I64s.two {a b:Int} (h1:-9223372036854775808≤a∧a < 9223372036854775808) (h2:-9223372036854775808≤b∧b < 9223372036854775808):I64s [a,b]:=by
 intro x hx;simp only [List.mem_cons,List.not_mem_nil,or_false] at hx
 rcases hx with rfl | rfl
 ·exact h1
 ·exact h2
theorem i0O {P:Program} {o:Oper} {a:Act} {w:World} {K:Act→World→Prop} {Q:Exit→Act→World→Prop} (ty:TypeId) (ho:o.op = .alloc ty)
  (z:Value) (cs:Array Value) (hz:∀ w,(zeroValue ty).run P w = .ok z w) (hc:z.cells=cs)
  (h:∀ g w',Hid (Made w g cs ty w')→K (a.put o.dst (.pointer (some ⟨g,0,none⟩))) w'):o.wp P a w K Q:=by
 unfold Oper.wp execOp
 simp only [ho,Instr.alloc,Sem.run_bind,Sem.run_pure,Result.andThen_ok,hz w];have:(newVar ty z).run P w = .ok ⟨w.heap.size,0,none⟩ (w.alloc (.cells cs ty)):=by
  rw [← hc];rfl
 simp only [this,Result.andThen_ok]
 exact h _ _ (f0h w cs ty)
theorem n0z {P:Program} {w:World} {g:Nat} {t ty:TypeId} {cs:Array Value} {fr:Nat × Nat} {d:TypeDesc} (hg:w.heap[g]? = some (.cells cs t fr))
  (hu:P.underlying ty=some d) (hd:(match d with | .struct _ | .array _ _=>true | _=>false)=true) (hi:(P.info? ty).map (·.size)=some cs.size) :
  (Instr.loadAt ty (.pointer (some ⟨g,0,none⟩))).run P w = .ok (.agg cs) w:=by
 have h:=run_loadVar_row (P:=P) w g t ty cs fr d hg hu hd hi
 exact h
theorem Oth.trans {a b c:World} (h1:Oth a b) (h2:Oth b c):Oth a c:=⟨Nat.le_trans h1.1 h2.1,fun R o ho h3 h4=>h2.2 R o (h1.2 R o ho h3 h4) h3 h4⟩
theorem Oth.of_below {a b:World} (h:Below a.heap.size a b):Oth a b:=⟨h.size,fun _ _ ho _ _=>a0d h ho⟩
theorem c0C {t:Int} {ids:List Int} (h1:1≤t) (h2:t≤255) (h:∀ x∈ids,0≤x):keyF t ids=UInt8.ofNat t.toNat :: ids.flatMap numL:=by
 unfold keyF
 rw [if_neg];rintro (h3 | h3 | ⟨x,hx,h3⟩)
 ·omega
 ·omega
 ·have:=h x hx;omega
theorem i0t {t i:Int} (h1:1≤t) (h2:t≤255) (h:0≤i):keyF t [i]=UInt8.ofNat t.toNat :: numL i:=by
 rw [c0C h1 h2 (by intro x hx;simp only [List.mem_singleton] at hx;omega)];simp
theorem l0T {t i j:Int} (h1:1≤t) (h2:t≤255) (hi:0≤i) (hi2:i < 18446744073709551616) (hj:0≤j) (hj2:j < 18446744073709551616) (h:keyF t [i]=keyF t [j]):i=j:=by
 rw [i0t h1 h2 hi,i0t h1 h2 hj] at h;have h3:=(List.cons.inj h).2;rw [← f0N i hi hi2,← f0N j hj hj2,h3]
theorem j0x {t u:Int} {l m:List Int} (h1:1≤t) (h2:t≤255) (h3:1≤u) (h4:u≤255) (h:t≠u) (hl:keyF t l≠[]):keyF t l≠keyF u m:=by
 have e1:keyF t l=UInt8.ofNat t.toNat :: l.flatMap numL:=by
  unfold keyF at hl ⊢
  split
  ·rename_i hc;rw [if_pos hc] at hl;exact absurd rfl hl
  ·rfl
 rw [e1]
 unfold keyF
 split
 ·simp
 ·intro e;have e2:=(List.cons.inj e).1;have e3:=congrArg UInt8.toNat e2;rw [UInt8.toNat_ofNat',UInt8.toNat_ofNat'] at e3
  omega
theorem g0J {n:Int} (h0:0≤n) (h1:n < 9223372036854775808):rowF (numL n) = [n]:=by
 have:=k0t (l:=[n]) (by intro x hx;simp only [List.mem_singleton] at hx;omega)
 simpa using this

theorem wA1 {P:Program} {o:Oper} {a:Act} {w:World} {K:Act→World→Prop} {Q:Exit→Act→World→Prop} (ty:TypeId) {z:Value} {cs:Array Value} (hz:∀ w,(zeroValue ty).run P w = .ok z w)
    (h:∀ g w',Hid (Made w g cs ty w')→K (a.put o.dst (.pointer (some ⟨g,0,none⟩))) w') (ho:o.op = .alloc ty:=by rfl) (hc:z.cells=cs:=by rfl):o.wp P a w K Q:=i0O ty ho z cs hz hc h
end
end Go.Proofs.YtabminbgoclnkaaGreat
