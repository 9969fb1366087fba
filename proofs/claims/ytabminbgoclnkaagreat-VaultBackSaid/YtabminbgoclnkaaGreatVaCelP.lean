/- Plain facts on numbers in a store: no condition. -/
import Derived.Test.YtabminbgoclnkaaGreatVaKeysK
import Derived.Test.YtabminbgoclnkaaGreatVaStoU
namespace Go.Proofs.YtabminbgoclnkaaGreat
open Go.RowKit

theorem f0N (n:Int) (h0:0≤n) (h1:n < 18446744073709551616):(be (numL n):Int)=n:=by
 have e:∀ i:Nat,((UInt8.ofNat (n / 256 ^ i % 256).toNat).toNat:Int)=n / 256 ^ i % 256:=fun i=>u8_of _ (Int.emod_nonneg _ (by decide)) (Int.emod_lt_of_pos _ (by decide))
 have e0:=e 0;have e1:=e 1;have e2:=e 2;have e3:=e 3;have e4:=e 4;have e5:=e 5;have e6:=e 6;have e7:=e 7;have hb:be (numL n)=((((((((0*256+(UInt8.ofNat (n / 256 ^ 7 % 256).toNat).toNat)*256+(UInt8.ofNat (n / 256 ^ 6 % 256).toNat).toNat)*256+(UInt8.ofNat (n / 256 ^ 5 % 256).toNat).toNat)*256+(UInt8.ofNat (n / 256 ^ 4 % 256).toNat).toNat)*256+(UInt8.ofNat (n / 256 ^ 3 % 256).toNat).toNat)*256+(UInt8.ofNat (n / 256 ^ 2 % 256).toNat).toNat)*256+(UInt8.ofNat (n / 256 ^ 1 % 256).toNat).toNat)*256+(UInt8.ofNat (n / 256 ^ 0 % 256).toNat).toNat):=rfl;rw [hb]
 generalize (UInt8.ofNat (n / 256 ^ 0 % 256).toNat).toNat=c0 at *
 generalize (UInt8.ofNat (n / 256 ^ 1 % 256).toNat).toNat=c1 at *
 generalize (UInt8.ofNat (n / 256 ^ 2 % 256).toNat).toNat=c2 at *
 generalize (UInt8.ofNat (n / 256 ^ 3 % 256).toNat).toNat=c3 at *
 generalize (UInt8.ofNat (n / 256 ^ 4 % 256).toNat).toNat=c4 at *
 generalize (UInt8.ofNat (n / 256 ^ 5 % 256).toNat).toNat=c5 at *
 generalize (UInt8.ofNat (n / 256 ^ 6 % 256).toNat).toNat=c6 at *
 generalize (UInt8.ofNat (n / 256 ^ 7 % 256).toNat).toNat=c7 at *
 omega

theorem b0O (l:List Int):(l.flatMap numL).length=8*l.length:=by
 induction l with
 | nil=>rfl
 | cons x l ih=>rw [List.flatMap_cons,List.length_append,ih,a0q,List.length_cons];omega
theorem j0a (l:List Int):∀ k,(l.flatMap numL).drop (8*k)=(l.drop k).flatMap numL:=by
 induction l with
 | nil=>intro k;simp
 | cons x l ih=>
  intro k
  cases k with
  | zero=>simp
  | succ k=>
   rw [List.flatMap_cons,List.drop_append,a0q,List.drop_of_length_le (by rw [a0q];omega),show 8*(k+1) - 8=8*k by omega,ih k]
   simp
theorem h0E (l:List Int) (k:Nat) (hk:k < l.length):chunk (l.flatMap numL) k=numL l[k]:=by
 unfold chunk
 rw [j0a,List.drop_eq_getElem_cons hk,List.flatMap_cons,List.take_append,a0q]
 simp [List.take_of_length_le,a0q]
theorem g0k (l:List Int) (h:∀ x∈l,0≤x∧x < 9223372036854775808):∀ k,k≤l.length→numsTo (l.flatMap numL) k=some (l.take k):=by
 intro k
 induction k with
 | zero=>intro _;rfl
 | succ k ih=>
  intro hk;have hk2:k < l.length:=by omega
  have hb:=h l[k] (List.getElem_mem hk2);have e:=f0N l[k] hb.1 (by omega);rw [numsTo,ih (by omega)];simp only [h0E l k hk2,e];rw [if_pos (by omega),List.take_succ_eq_append_getElem hk2]
theorem h0B (l:List Int) (h:∀ x∈l,0≤x∧x < 9223372036854775808):numsF (l.flatMap numL)=some l:=by
 refine e0v (k:=l.length) (by rw [b0O];omega) (by rw [b0O]) ?_;rw [g0k l h _ (Nat.le_refl _),List.take_length]

def rowF (v:Txt):List Int:=(numsF v).getD []
def valF (f:Txt→Option Txt) (k:Txt):Txt:=(f k).getD []
theorem d0C {l:List UInt8}:∀ {k:Nat} {xs:List Int},numsTo l k=some xs→∀ x∈xs,0≤x∧x < 9223372036854775808
 | 0,xs,h=>by simp [numsTo] at h;subst h;simp
 | k+1,xs,h=>by
  unfold numsTo at h
  cases h2:numsTo l k with
  | none=>simp [h2] at h
  | some ys=>
   rw [h2] at h;simp only at h
   split at h
   ·rename_i hlt
    cases h
    intro x hx
    rcases List.mem_append.1 hx with hx | hx
    ·exact d0C h2 x hx
    ·simp at hx;subst hx;exact ⟨by omega,by omega⟩
   ·cases h
theorem f0t (v:Txt):∀ x∈rowF v,0≤x∧x < 9223372036854775808:=by
 intro x hx
 unfold rowF at hx
 cases h:numsF v with
 | none=>rw [h] at hx;simp at hx
 | some xs=>
  rw [h] at hx
  unfold numsF at h
  split at h
  ·exact d0C h x hx
  ·cases h
theorem k0t {l:List Int} (h:∀ x∈l,0≤x∧x < 9223372036854775808):rowF (l.flatMap numL)=l:=by
 unfold rowF;rw [h0B l h];rfl
theorem n0V:rowF [] = []:=by kernel_rfl
def PS.putv (s:PS) (k v:Txt):PS:=if v = [] then s.del k else s.set k v
def PS.setRow (s:PS) (k:Txt) (l:List Int):PS:=if ∃ x∈l,x < 0 then s else s.putv k (l.flatMap numL)
def PS.sz (s:PS):Nat:=s.t.length+s.past.length
theorem m0C (s:PS) (k v:Txt) (b:Bool):(s.put k v b).sz≤s.sz+2:=by
 unfold PS.put PS.sz
 have:=d0g s.t k v b;simp only [List.length_append,List.length_cons,List.length_nil]
 omega
theorem k0l (s:PS) (k v:Txt):(s.set k v).sz≤s.sz+2:=by
 unfold PS.set
 split
 ·omega
 ·exact m0C _ _ _ _
theorem k0s (s:PS) (k:Txt):(s.del k).sz≤s.sz+2:=by
 unfold PS.del
 split
 ·omega
 ·exact m0C _ _ _ _
theorem m0X (s:PS) (k v:Txt):(s.putv k v).sz≤s.sz+2:=by
 unfold PS.putv
 split
 ·exact k0s _ _
 ·exact k0l _ _ _
theorem g0w (s:PS) (k:Txt) (l:List Int):(s.setRow k l).sz≤s.sz+2:=by
 unfold PS.setRow
 split
 ·omega
 ·exact m0X _ _ _
def Fit (s:PS):Prop:=∀ p∈s.t,p.2.length≤1000000
theorem Fit.new:Fit PS.new:=fun _ h=>by cases h
theorem Fit.get {s:PS} (h:Fit s) {k v:Txt} (hk:getP s.t k=some v):v.length≤1000000:=h _ (d0i hk)
theorem Fit.set {s:PS} (h:Fit s) (k:Txt) {v:Txt} (hv:v.length≤1000000):Fit (s.set k v):=by
 unfold PS.set
 split
 ·exact h
 ·intro p hp
  rcases k0j (show p∈insP s.t k v from hp) with h1 | h1
  ·rw [h1];exact hv
  ·exact h p h1
theorem Fit.del {s:PS} (h:Fit s) (k:Txt):Fit (s.del k):=by
 unfold PS.del
 split
 ·exact h
 ·intro p hp;have hp2:p∈delP s.t k:=hp
  unfold delP at hp2
  exact h p (List.mem_filter.1 hp2).1
theorem Fit.putv {s:PS} (h:Fit s) (k:Txt) {v:Txt} (hv:v.length≤1000000):Fit (s.putv k v):=by
 unfold PS.putv
 split
 ·exact h.del k
 ·exact h.set k hv
theorem Fit.setRow {s:PS} (h:Fit s) (k:Txt) {l:List Int} (hl:l.length≤100000):Fit (s.setRow k l):=by
 unfold PS.setRow
 split
 ·exact h
 ·exact h.putv k (by rw [b0O];omega)
theorem Fit.val {s:PS} (h:Fit s) (k:Txt):(valF (getP s.t) k).length≤1000000:=by
 unfold valF
 cases hk:getP s.t k with
 | none=>simp
 | some v=>exact h.get hk
def FitF (f:Txt→Option Txt):Prop:=∀ k,(valF f k).length≤1000000
theorem Fit.f {s:PS} (h:Fit s):FitF (getP s.t):=fun k=>h.val k
theorem FitF.none:FitF (fun _=>none):=fun k=>by simp [valF]
end Go.Proofs.YtabminbgoclnkaaGreat
