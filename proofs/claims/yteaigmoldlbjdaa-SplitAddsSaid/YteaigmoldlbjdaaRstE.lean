/- Under of the document's store: no condition. -/
import Derived.Test.YteaigmoldlbjdaaRstD
namespace Go.Proofs.Yteaigmoldlbjdaa
open Go.RowKit

theorem Try.zeroPairE (w : World) : (zeroValue 121).run Try.prog w = .ok (.agg #[.string (bs []), .string (bs [])]) w := by kernel_rfl
theorem prefix_take (a b : Txt) : ((bs (a.take b.length)).toList == (bs b).toList) = b.isPrefixOf a := by
  rw [toList_bs, toList_bs, Bool.eq_iff_iff, beq_iff_eq, List.isPrefixOf_iff_prefix, List.prefix_iff_eq_take]
  exact ⟨fun h => h.symm, fun h => h.symm⟩
theorem under_take {t : Tab} {b : Txt} {i : Nat} (hi : i < t.length) : underP (t.take (i + 1)) b = underP (t.take i) b ++ (if b.isPrefixOf t[i].1 then [t[i]] else []) := by
  rw [List.take_succ_eq_append_getElem hi, under_append]
  congr 1
  unfold underP
  rw [List.filter_cons]
  rfl

end Go.Proofs.Yteaigmoldlbjdaa
