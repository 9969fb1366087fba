/- The reference's Levels. The reference's Root; tallagelaw06.light, same. tallagelaw06.same. tallagelaw06.lives. tallagelaw06.MerkleNodes: its walk. -/
import Derived.Test.YtmclmccgghnglaaGreatLfMerkL
import Derived.Lib.SlBytesConst
namespace Go.Proofs.YtmclmccgghnglaaGreat
section
open Go.RowKit

theorem Own.hashes {w : World} {B : Nat} {v : Value} {l : List (List UInt8)} (h : Own w B 36 hE 32 v l) : HashBlk w v := fun _ hk => h.at hk
/-- The tree and the row, when i leaves are laid. -/
def LayT (w : World) (g : Nat) (a : Option Nat) (texts T : List (List UInt8)) (i : Nat) (x : Value) (wr : World) : Prop :=
  ∃ a', Tr wr g a' (texts ++ T.take i) ∧ Grew w g a wr a' ∧ Own wr w.heap.size 36 hE 32 x ((T.take i).map shaF)
theorem Grew.below {w w' : World} {g : Nat} {a a' : Option Nat} {B : Nat} (h : Grew w g a w' a') (hB : B ≤ w.heap.size) (hg : B ≤ g) (ha : ∀ k, a = some k → B ≤ k) : Below B w w' :=
  h.1.below (fun k hk e => by
    rcases e with e | e
    · omega
    · have := ha k e; omega) hB

/-- All texts up to row j. -/
def noteTo (k : Nat) (T G : List (List UInt8)) (j : Nat) : List (List UInt8) := T ++ (List.range j).flatMap fun q => upT k (rowAt k G q)
/-- The tree and the rows, ahead of row j. -/
def LevT (w : World) (g : Nat) (a : Option Nat) (texts : List (List UInt8)) (k : Nat) (T G : List (List UInt8)) (j : Nat) (rv ov : Value) (wr : World) : Prop :=
  ∃ a', Tr wr g a' (texts ++ noteTo k T G j) ∧ Grew w g a wr a' ∧ Rd wr hE 32 rv (rowAt k G j) ∧ HashBlk wr rv ∧ RowsOwn wr w.heap.size ov ((List.range (j + 1)).map (rowAt k G))
/-- The rows that are laid so far, all in blocks below U. -/
def RowsUnder (w : World) (B U : Nat) (v : Value) (rows : List (List (List UInt8))) : Prop :=
  ∃ vs : List Value, Own w B 42 slE 1 v vs ∧ vs.length = rows.length ∧ (∀ q, v.ownBlock = some q → q < U) ∧ ∀ (i : Nat) u r, vs[i]? = some u → rows[i]? = some r → Rd w hE 32 u r ∧ HashBlk w u ∧ ∀ q, u.ownBlock = some q → q < U
theorem RowsOwn.under {w : World} {B : Nat} {v : Value} {rows : List (List (List UInt8))} (h : RowsOwn w B v rows) : RowsUnder w B w.heap.size v rows := by
  obtain ⟨vs, h1, h2, h3⟩ := h
  exact ⟨vs, h1, h2, fun q hq => (h1.lt q hq).2, fun i u r p q => ⟨(h3 i u r p q).1, (h3 i u r p q).2, fun x hx => by obtain ⟨cs, fr, hc⟩ := (h3 i u r p q).2 x hx; exact heap_lt hc⟩⟩
theorem RowsUnder.own {w : World} {B U : Nat} {v : Value} {rows : List (List (List UInt8))} (h : RowsUnder w B U v rows) : RowsOwn w B v rows := by
  obtain ⟨vs, h1, h2, _, h3⟩ := h
  exact ⟨vs, h1, h2, fun i u r p q => ⟨(h3 i u r p q).1, (h3 i u r p q).2.1⟩⟩
theorem RowsUnder.keep {w w' : World} {S : Nat → Prop} {B U : Nat} {v : Value} {rows : List (List (List UInt8))} (hr : RowsUnder w B U v rows) (hk : Keep S w w') (hS : ∀ x, S x → U ≤ x) : RowsUnder w' B U v rows := by
  obtain ⟨vs, h1, h2, h3, h4⟩ := hr
  refine ⟨vs, h1.keep hk (fun x hx e => by have := hS x e; have := h3 x hx; omega), h2, h3, fun i u r p q => ?_⟩
  obtain ⟨r1, r2, r3⟩ := h4 i u r p q
  have hn : ∀ x, u.ownBlock = some x → ¬ S x := fun x hx e => by have := hS x e; have := r3 x hx; omega
  exact ⟨r1.keep hk (fun x hx _ => hn x hx), fun x hx => by obtain ⟨cs, fr, hc⟩ := r2 x hx; exact ⟨cs, fr, hk.at hc (hn x hx)⟩, r3⟩
/-- The same, when i nodes above row j are laid. -/
def InT (w : World) (g : Nat) (a : Option Nat) (texts : List (List UInt8)) (k : Nat) (T G : List (List UInt8)) (j : Nat) (rv ov : Value) (B i : Nat) (up : Value) (wr : World) : Prop :=
  ∃ a', Tr wr g a' (texts ++ (noteTo k T G j ++ (upT k (rowAt k G j)).take i)) ∧ Grew w g a wr a' ∧ Rd wr hE 32 rv (rowAt k G j) ∧ HashBlk wr rv ∧ (∀ q, rv.ownBlock = some q → q < B) ∧ B ≤ wr.heap.size ∧ RowsUnder wr w.heap.size B ov ((List.range (j + 1)).map (rowAt k G)) ∧ Own wr B 36 hE 32 up (((upT k (rowAt k G j)).take i).map shaF)
theorem RowsOwn.keep {w w' : World} {S : Nat → Prop} {B : Nat} {v : Value} {rows : List (List (List UInt8))} (hr : RowsOwn w B v rows) (hk : Keep S w w') (hS : ∀ x, x < w.heap.size → S x → False) : RowsOwn w' B v rows := by
  obtain ⟨vs, h1, h2, h3⟩ := hr
  refine ⟨vs, h1.keep hk (fun x hx => fun e => hS x (h1.lt x hx).2 e), h2, fun i u r p q => ?_⟩
  obtain ⟨r1, r2⟩ := h3 i u r p q
  exact ⟨r1.keep hk (fun x hx _ e => by obtain ⟨cs, fr, hc⟩ := r2 x hx; exact hS x (heap_lt hc) e), fun x hx => by obtain ⟨cs, fr, hc⟩ := r2 x hx; exact ⟨cs, fr, hk.at hc (fun e => hS x (heap_lt hc) e)⟩⟩
end
section
open Go.RowKit

def notesV (k : Int) (l : List (List UInt8)) : List (List UInt8) := if whyF k l.length = 0 then notesF k.toNat l else []
/-- How many bytes these have. -/
def total (l : List (List UInt8)) : Nat := l.flatten.length
/-- Are they not more than are looked at? -/
def lightB (l : List (List UInt8)) : Bool := decide (l.length ≤ 40 ∧ total l ≤ 2000)
end
section
open Go.RowKit

theorem RowsAt.at {w : World} {ad : Option Addr} {n cap : Nat} {rows : List (List (List UInt8))} (h : RowsAt w (.slice ad n cap) rows) (i : Nat) (hi : i < rows.length) :
    ∃ b off u, ad = some ⟨b, off, none⟩ ∧ b < w.heap.size ∧ w.cell? ⟨b, off + i, none⟩ = some u ∧ Rd w hE 32 u rows[i] := by
  obtain ⟨vs, h1, h2, h3⟩ := h
  obtain ⟨b, off, h4, h5, h6⟩ := h1.at i (by omega)
  exact ⟨b, off, vs[i], h4, h5, h6, h3 i _ _ (List.getElem?_eq_getElem (by omega)) (List.getElem?_eq_getElem hi)⟩
theorem RowsAt.shape {w : World} {v : Value} {rows : List (List (List UInt8))} (h : RowsAt w v rows) : ∃ ad cap, v = .slice ad rows.length cap ∧ rows.length ≤ cap ∧ cap ≤ 9223372036854775807 := by
  obtain ⟨vs, h1, h2, _⟩ := h
  rw [← h2]; exact h1.shape
theorem RowsAt.nil (w : World) : RowsAt w (.slice none 0 0) [] := ⟨[], Rd.nil _ _ _, rfl, fun i u r p _ => by simp at p⟩
end
section
open Go.RowKit
end
section
open Go.RowKit

/-- The law's tree, and all else as it was. -/
def TreeOnly (wb : World) (g : Nat) (w' : World) : Prop := ∃ a tx, Tr w' g a tx ∧ tx.length < 100000 ∧ Grew wb g none w' a
/-- The same, with fewer than n texts. -/
def TreeFew (n : Nat) (wb : World) (g : Nat) (w' : World) : Prop := ∃ a tx, Tr w' g a tx ∧ tx.length < n ∧ Grew wb g none w' a
theorem TreeFew.only {n : Nat} {wb w' : World} {g : Nat} (h : TreeFew n wb g w') (hn : n ≤ 100000) : TreeOnly wb g w' := by
  obtain ⟨a, tx, h1, h2, h3⟩ := h; exact ⟨a, tx, h1, by omega, h3⟩
theorem TreeFew.below {n : Nat} {wb w' w'' : World} {g : Nat} (h : TreeFew n wb g w') (hb : Below w'.heap.size w' w'') : TreeFew n wb g w'' := by
  obtain ⟨a, tx, h1, h2, h3⟩ := h; exact ⟨a, tx, h1.later hb, h2, h3.trans (Grew.of_below g a hb)⟩
theorem TreeOnly.keep {wb w' : World} {g : Nat} (h : TreeOnly wb g w') : Keep (· = g) wb w' := by
  obtain ⟨a, tx, _, _, h3⟩ := h
  exact h3.1.mono (fun k _ e => e.elim id (fun e => by cases e))
end
end Go.Proofs.YtmclmccgghnglaaGreat
