/- Laws of chapter 28: acts on numbers, and what they come to. Plain. No condition. -/
import Derived.Test.YtohedljdkfmkdaaDelD
import Derived.Test.YtohedljdkfmkdaaStoG
namespace Go.Proofs.Ytohedljdkfmkdaa
open Go.RowKit

/-- An act: a number is set. -/
structure Act28 where
  ad : Option Addr
  cap : Nat
  ids : List Int
  v : Int
  b : Int
  wt : Int
def act28E (a : Act28) : List Value := [.slice a.ad a.ids.length a.cap, .int .i64 a.v, .int .i64 a.b, .int .i64 a.wt]
theorem act28E_len (a : Act28) : (act28E a).length = 4 := rfl
structure Good28 (w : World) (a : Act28) : Prop where
  rd : Rd w intE 1 (.slice a.ad a.ids.length a.cap) a.ids
  i64 : I64s a.ids
  short : a.ids.length ≤ 17592186044032
theorem Good28.later {w w' : World} {a : Act28} (h : Good28 w a) (hb : Below w.heap.size w w') : Good28 w' a := ⟨h.rd.later hb, h.i64, h.short⟩
theorem Rd.act28 {w : World} {ad : Option Addr} {n cap : Nat} {t : List Act28} (h : Rd w act28E 4 (.slice ad n cap) t) (i : Nat) (hi : i < t.length) :
    ∃ g off, ad = some ⟨g, off, none⟩ ∧ g < w.heap.size ∧ w.cell? ⟨g, off + i * 4, none⟩ = some (.slice t[i].ad t[i].ids.length t[i].cap) ∧ w.cell? ⟨g, off + i * 4 + 1, none⟩ = some (.int .i64 t[i].v) ∧ w.cell? ⟨g, off + i * 4 + 2, none⟩ = some (.int .i64 t[i].b) ∧ w.cell? ⟨g, off + i * 4 + 3, none⟩ = some (.int .i64 t[i].wt) := by
  have hne : t ≠ [] := by rintro rfl; simp at hi
  obtain ⟨ax, cx, e3, _, _, h3⟩ := h
  obtain ⟨b, off, e4, hb, h5⟩ := h3 hne
  exact ⟨b, off, (Value.slice.inj e3).1.trans e4, hb, h5 i hi 0 (by decide), h5 i hi 1 (by decide), h5 i hi 2 (by decide), h5 i hi 3 (by decide)⟩
theorem Try.zeroAct28 (w : World) : (zeroValue 45).run Try.prog w = .ok (.agg #[.slice none 0 0, .int .i64 0, .int .i64 0, .int .i64 0]) w := by kernel_rfl
theorem Try.sizeAct28 : (Try.prog.info? 45).map (·.size) = some 4 := by kernel_rfl

def doD (t : Int) (s : PS) (a : Act28) : PS := putD s t a.ids a.v a.b a.wt
def doDs (t : Int) (s : PS) (l : List Act28) : PS := l.foldl (doD t) s
theorem doDs_take {t : Int} {s : PS} {l : List Act28} {i : Nat} (hi : i < l.length) : doDs t s (l.take (i + 1)) = doD t (doDs t s (l.take i)) l[i] := by
  unfold doDs
  rw [List.take_succ_eq_append_getElem hi, List.foldl_append]
  rfl
theorem sz_doDs (t : Int) : ∀ (l : List Act28) (s : PS), (doDs t s l).sz ≤ s.sz + 2 * l.length
  | [], _ => Nat.le_refl _
  | a :: l, s => by
    have h1 := sz_doDs t l (doD t s a)
    have h2 := sz_putD s t a.ids a.v a.b a.wt
    have h3 : doDs t s (a :: l) = doDs t (doD t s a) l := rfl
    have h4 : (doD t s a).sz ≤ s.sz + 2 := h2
    rw [h3, List.length_cons]
    omega
theorem Fit.doDs (t : Int) : ∀ (l : List Act28) {s : PS}, Fit s → Fit (doDs t s l)
  | [], _, h => h
  | a :: l, _, h => Fit.doDs t l (h.putD t a.ids a.v a.b a.wt)
/-- The acts of DelayWaits: all on one number. -/
def do1 (s : PS) (a : Act28) : PS := putD s 25 [1] a.v a.b a.wt
def do1s (s : PS) (l : List Act28) : PS := l.foldl do1 s
theorem do1s_take {s : PS} {l : List Act28} {i : Nat} (hi : i < l.length) : do1s s (l.take (i + 1)) = do1 (do1s s (l.take i)) l[i] := by
  unfold do1s
  rw [List.take_succ_eq_append_getElem hi, List.foldl_append]
  rfl
theorem sz_do1s : ∀ (l : List Act28) (s : PS), (do1s s l).sz ≤ s.sz + 2 * l.length
  | [], _ => Nat.le_refl _
  | a :: l, s => by
    have h1 := sz_do1s l (do1 s a)
    have h4 : (do1 s a).sz ≤ s.sz + 2 := sz_putD s 25 [1] a.v a.b a.wt
    have h3 : do1s s (a :: l) = do1s (do1 s a) l := rfl
    rw [h3, List.length_cons]
    omega
theorem Fit.do1s : ∀ (l : List Act28) {s : PS}, Fit s → Fit (do1s s l)
  | [], _, h => h
  | a :: l, _, h => Fit.do1s l (h.putD 25 [1] a.v a.b a.wt)

theorem readD_row (v : DV) : readD (rowD v) = v := by
  obtain ⟨h, n, x, t, m⟩ := v
  cases h <;> cases m <;> rfl
theorem Bd.bounds {v : DV} (h : Bd v) : ∀ x ∈ rowD v, 0 ≤ x ∧ x < 9223372036854775808 := by
  have h1 := bitD_bd v.has
  have h2 := bitD_bd v.more
  have h3 := h.now; have h4 := h.next; have h5 := h.at_
  intro x hx
  simp only [rowD, List.mem_cons, List.not_mem_nil, or_false] at hx
  rcases hx with rfl | rfl | rfl | rfl | rfl <;> omega
/-- What was set is read. -/
theorem getD_putD {s : PS} {t : Int} {ids : List Int} {v b wt : Int} (h : badD t ids v b wt = false) : getD (getP (putD s t ids v b wt).t) t ids = nextD (getD (getP s.t) t ids) v b wt := by
  have hk : keyF t ids ≠ [] ∧ goodB v = true ∧ goodB b = true ∧ goodB wt = true := by
    unfold badD at h
    simp only [Bool.or_eq_false_iff, Bool.not_eq_false'] at h
    obtain ⟨⟨⟨h1, h2⟩, h3⟩, h4⟩ := h
    exact ⟨by simpa using h1, h2, h3, h4⟩
  obtain ⟨h1, h2, h3, h4⟩ := hk
  rw [(putD_ok (s := s) h).1]
  have hb := ((Bd.get (getP s.t) t ids).nextD h2 h3 h4).bounds
  show readD (rowF (valF (getP _) (keyF t ids))) = _
  rw [rowF_setRow _ _ _ h1 hb, if_pos rfl, readD_row]
theorem next_at {u : DV} {v b wt q : Int} (hw : 0 ≤ wt) (hq : b + wt ≤ q) : settleD (nextD u v b wt) q = ⟨true, v, 0, 0, false⟩ := by
  unfold nextD
  obtain ⟨x, hx⟩ : ∃ x : DV, x = ⟨(settleD u b).has, (settleD u b).now, v, b + wt, true⟩ := ⟨_, rfl⟩
  rw [← hx]
  have e1 : x.at_ = b + wt := by rw [hx]
  have e2 : x.more = true := by rw [hx]
  have e3 : x.next = v := by rw [hx]
  by_cases h : wt = 0
  · rw [settleD_do (b := b) e2 (by omega), settleD_no rfl, e3]
  · rw [settleD_wait (v := x) (b := b) (by omega), settleD_do (b := q) e2 (by omega), e3]
theorem next_before {u : DV} {v b wt : Int} (hw : 0 < wt) : (settleD (nextD u v b wt) (b + wt - 1)).now = (settleD u b).now ∧ (settleD (nextD u v b wt) (b + wt - 1)).has = (settleD u b).has := by
  unfold nextD
  obtain ⟨x, hx⟩ : ∃ x : DV, x = ⟨(settleD u b).has, (settleD u b).now, v, b + wt, true⟩ := ⟨_, rfl⟩
  rw [← hx]
  have e1 : x.at_ = b + wt := by rw [hx]
  rw [settleD_wait (v := x) (b := b) (by omega), settleD_wait (v := x) (b := b + wt - 1) (by omega), hx]
  exact ⟨rfl, rfl⟩
theorem good_30 {n : Int} (h0 : 0 ≤ n) (h1 : n ≤ 1073741824) : goodB n = true := goodB_yes.2 ⟨h0, by omega⟩
theorem bad_25 {v b wt : Int} (h1 : goodB v = true) (h2 : goodB b = true) (h3 : goodB wt = true) : badD 25 [1] v b wt = false := by
  unfold badD
  rw [h1, h2, h3]
  have : keyF 25 [1] ≠ [] := keyF_ne (by decide) (by decide) (by simp)
  simpa using this
/-- What the law says of the last number that was set. -/
theorem waits_law {s : PS} {v b wt : Int} (hv : 0 ≤ v ∧ v ≤ 1073741824) (hb : 0 ≤ b ∧ b ≤ 1073741824) (hw : 0 ≤ wt ∧ wt ≤ 1073741824) :
    putDE 25 [1] v b wt = 0 ∧ (∀ q, b + wt ≤ q → settleD (getD (getP (putD s 25 [1] v b wt).t) 25 [1]) q = ⟨true, v, 0, 0, false⟩) ∧
    (0 < wt → (settleD (getD (getP (putD s 25 [1] v b wt).t) 25 [1]) (b + wt - 1)).now = (settleD (getD (getP s.t) 25 [1]) b).now ∧ (settleD (getD (getP (putD s 25 [1] v b wt).t) 25 [1]) (b + wt - 1)).has = (settleD (getD (getP s.t) 25 [1]) b).has) := by
  have hbad := bad_25 (good_30 hv.1 hv.2) (good_30 hb.1 hb.2) (good_30 hw.1 hw.2)
  refine ⟨(putD_ok (s := s) hbad).2, fun q hq => ?_, fun h0 => ?_⟩
  · rw [getD_putD hbad, next_at hw.1 hq]
  · rw [getD_putD hbad]; exact next_before h0

/-! ### the document's example -/
theorem lvE : putDE 25 [7] 5 10 3 = 0 := by kernel_rfl
theorem lvD : getD (getP (putD PS.new 25 [7] 5 10 3).t) 25 [7] = ⟨false, 0, 5, 13, true⟩ := by kernel_rfl
end Go.Proofs.Ytohedljdkfmkdaa
