/- keys.ToAmount, keys.Amount: their contracts. No condition. u256: words with carries. No condition. -/
import Derived.Test.YtakkfabaeolbdaaGreatCnUn
import Derived.Test.YtakkfabaeolbdaaGreatCn23
import Derived.Laws.BitsAll
namespace Go.Proofs.YtakkfabaeolbdaaGreat
section
set_option maxHeartbeats 1000000
set_option maxRecDepth 100000
open Go.RowKit

theorem i0S (s:ByteArray) (w:World) (hs:s.size≤1000000000) :
  Calls Tryz.prog 96 #[.string s] w (Ret w (.tuple #[.agg (uArr s.data.toList),.bool (decide (s.size=32))])):=by
 have hdl:Hid (s.data.toList.length=s.size):=by unfold Hid;simp
 go_enter Tryz.func96,Tryz.ntmps96
 go_wp2_with (first | (refine l0B rfl _ _ _ rfl Tryz.underlying9 Tryz.underlying122 Tryz.underlying5 s rfl (by omega) ?_;intro ad cap w1 hrd hb1 hcap) | fail)
 have hz1:=hb1.size;have hd1:w1.heap[w.heap.size]? = some (.cells u0 25 (0,0)):=(hb1.block _ (by simp)).trans (heap_alloc_new _ _);refine (i0p _ _ _ hrd).mono ?_;rintro e w2 ⟨rfl,hb2⟩;rw [hdl.out];have hd2:w2.heap[w.heap.size]? = some (.cells u0 25 (0,0)):=(hb2.block _ (by simp at hz1;omega)).trans hd1;have hb:Below w.heap.size w w2:=(((Below.refl _ _).alloc (Nat.le_refl _) _).trans (hb1.mono (by simp))).trans (hb2.mono (by simp at hz1;omega));clear hd1 hb1 hb2 hrd
 go_wp2_with (refine wpList_store_row (t:=25) (old:=u0) rfl 25 (.tmp 2) _ rfl w.heap.size (uArr s.data.toList) rfl rfl hd2 (d0X _) (by rw [g0r];rfl) (l0h _) ?_)
 refine bodyPost_ret (b0m rfl _ _ w.heap.size _ (uArr s.data.toList) _ _ rfl (setRow_heap _ _ _ _ _ _ hd2) Tryz.underlying25 rfl (d0X _)) rfl ⟨rfl,below_setRow hb (Nat.le_refl _) _⟩

theorem m0D (a0 a1 a2 a3:Int) (w:World) (h0:0≤a0) (h0':a0 < 18446744073709551616) (h1:0≤a1) (h1':a1 < 18446744073709551616) (h2:0≤a2) (h2':a2 < 18446744073709551616) (h3:0≤a3) (h3':a3 < 18446744073709551616) :
  Calls Tryz.prog 165 #[uV a0 a1 a2 a3] w (Ret w (.string (bs (ubytes (w4 a0 a1 a2 a3))))):=by
 unfold uV
 go_enter Tryz.func165,Tryz.ntmps165
 go_wp2_with fail;refine (j0e a0 a1 a2 a3 _ h0 h0' h1 h1' h2 h2' h3 h3').mono ?_;rintro e w1 ⟨v,rfl,hown,hb⟩;have hcv:=g0m (dst:=9) Tryz.underlying122 Tryz.underlying5 Tryz.underlying9 (hown.rd (fun _=>rfl))
 go_wp2
 go_ret
 exact ⟨rfl,((Below.refl _ _).alloc (Nat.le_refl _) _).trans (hb.mono (by simp))⟩


def ToAmtRet (w:World) (l:List UInt8) (e:Ending) (w':World):Prop:=∃ a b c d:Int,UIs a b c d (amtF l)∧e = .returned (.tuple #[.agg #[.int .u64 a,.int .u64 b,.int .u64 c,.int .u64 d],.bool (decide (l.length=32))])∧Below w.heap.size w w'
theorem o0B (l:List UInt8) (w:World) (hs:l.length≤1000000000):Calls Tryz.prog 96 #[.string (bs l)] w (ToAmtRet w l):=by
 refine (i0S (bs l) w (by rw [b0e];exact hs)).mono ?_;rintro e w' ⟨rfl,hb⟩;obtain ⟨a,b,c,d,h1,h2⟩:=p0b l;refine ⟨a,b,c,d,h2,?_,hb⟩;rw [i0t,b0e,h1]
theorem s0t {a b c d:Int} {n:Nat} (h:UIs a b c d n) (w:World):Calls Tryz.prog 165 #[.agg #[.int .u64 a,.int .u64 b,.int .u64 c,.int .u64 d]] w (Ret w (.string (bs (amtB n)))):=by
 have h1:=m0D a b c d w h.1.1 h.1.2 h.2.1.1 h.2.1.2 h.2.2.1.1 h.2.2.1.2 h.2.2.2.1.1 h.2.2.2.1.2;rw [g0q h] at h1
 exact h1
end
section
set_option maxHeartbeats 1000000
open Go.RowKit

theorem h0v (x y:Nat):(x &&& y) / 9223372036854775808=(x / 9223372036854775808) &&& (y / 9223372036854775808):=by
 have:=Nat.shiftRight_and_distrib (a:=x) (b:=y) (i:=63)
 simpa [Nat.shiftRight_eq_div_pow] using this
theorem l0y (x y:Nat):(x ||| y) / 9223372036854775808=(x / 9223372036854775808) ||| (y / 9223372036854775808):=by
 have:=Nat.shiftRight_or_distrib (a:=x) (b:=y) (i:=63)
 simpa [Nat.shiftRight_eq_div_pow] using this
theorem o0d {a b c:Nat} (ha:a < 18446744073709551616) (hb:b < 18446744073709551616) (hc:c≤1) :
  ((a &&& b) ||| ((a ||| b) &&& (18446744073709551615 - (a+b+c) % 18446744073709551616))) / 9223372036854775808=(a+b+c) / 18446744073709551616:=by
 rw [l0y,h0v,h0v,l0y];have h1:a / 9223372036854775808=0∨a / 9223372036854775808=1:=by omega
 have h2:b / 9223372036854775808=0∨b / 9223372036854775808=1:=by omega
 have h3:(18446744073709551615 - (a+b+c) % 18446744073709551616) / 9223372036854775808=0∨(18446744073709551615 - (a+b+c) % 18446744073709551616) / 9223372036854775808=1:=by omega
 rcases h1 with h1 | h1<;>rcases h2 with h2 | h2<;>rcases h3 with h3 | h3<;>rw [h1,h2,h3]<;>simp<;>omega
theorem n0c {a b c d:Nat} (ha:a < 18446744073709551616) (hb:b < 18446744073709551616) (hc:c≤1) (hd:d < 18446744073709551616) (h:d+b+c=a∨d+b+c=a+18446744073709551616) :
  (((18446744073709551615 - a) &&& b) ||| (((18446744073709551615 - a) ||| b) &&& d)) / 9223372036854775808=if a < b+c then 1 else 0:=by
 rw [l0y,h0v,h0v,l0y];have h1:(18446744073709551615 - a) / 9223372036854775808=0∨(18446744073709551615 - a) / 9223372036854775808=1:=by omega
 have h2:b / 9223372036854775808=0∨b / 9223372036854775808=1:=by omega
 have h3:d / 9223372036854775808=0∨d / 9223372036854775808=1:=by omega
 rcases h1 with h1 | h1<;>rcases h2 with h2 | h2<;>rcases h3 with h3 | h3<;>rw [h1,h2,h3]<;>simp<;>omega

theorem p0V {a b c s k:Nat} (_ha:a < 18446744073709551616) (_hb:b < 18446744073709551616) (_hc:c≤1) (hs:s < 18446744073709551616) (h:s+18446744073709551616*k=a+b+c):IntKind.u64.wrap (IntKind.u64.wrap ((a:Int)+(b:Int))+(c:Int))=(s:Int):=by
 rw [IntKind.wrap_u64,IntKind.wrap_u64];omega
theorem m0s {a b c s k:Nat} (ha:a < 18446744073709551616) (hb:b < 18446744073709551616) (hc:c≤1) (hs:s < 18446744073709551616) (h:s+18446744073709551616*k=a+b+c) :
  bits BinOp.or IntKind.u64 (bits BinOp.and IntKind.u64 (a:Int) (b:Int)) (bits BinOp.andNot IntKind.u64 (bits BinOp.or IntKind.u64 (a:Int) (b:Int)) (s:Int)) / 9223372036854775808=(k:Int):=by
 have h1:a &&& b < 18446744073709551616:=Nat.and_lt_two_pow (n:=64) _ hb;have h2:a ||| b < 18446744073709551616:=Nat.or_lt_two_pow (n:=64) ha hb;have h3:(a ||| b) &&& (18446744073709551615 - s) < 18446744073709551616:=Nat.and_lt_two_pow (n:=64) _ (by omega);rw [u64_and_nat a b ha hb,u64_or_nat a b ha hb,u64_andNot_nat _ s h2 hs,u64_or_nat _ _ h1 h3];have h4:=o0d ha hb hc;rw [show (a+b+c) % 18446744073709551616=s by omega,show (a+b+c) / 18446744073709551616=k by omega] at h4
 omega
theorem k0B (a:Nat) (ha:a < 18446744073709551616):bits BinOp.xor IntKind.u64 IntKind.u64.max (a:Int)=((18446744073709551615 - a:Nat):Int):=by
 have h1:BitVec.ofInt 64 IntKind.u64.max=BitVec.allOnes 64:=by decide
 show IntKind.u64.wrap ((BitVec.ofInt 64 IntKind.u64.max ^^^ BitVec.ofInt 64 (a:Int)).toNat:Int)=_
 rw [h1,BitVec.allOnes_xor,BitVec.toNat_not,ofInt_u64 a ha,IntKind.wrap_u64]
 omega
theorem p0f {a b c d k:Nat} (_ha:a < 18446744073709551616) (_hb:b < 18446744073709551616) (_hc:c≤1) (hd:d < 18446744073709551616) (h:d+b+c=a+18446744073709551616*k):IntKind.u64.wrap (IntKind.u64.wrap ((a:Int) - (b:Int)) - (c:Int))=(d:Int):=by
 rw [IntKind.wrap_u64,IntKind.wrap_u64];omega
theorem k0K {a b c d k:Nat} (ha:a < 18446744073709551616) (hb:b < 18446744073709551616) (hc:c≤1) (hd:d < 18446744073709551616) (h:d+b+c=a+18446744073709551616*k) :
  bits BinOp.or IntKind.u64 (bits BinOp.and IntKind.u64 (bits BinOp.xor IntKind.u64 IntKind.u64.max (a:Int)) (b:Int)) (bits BinOp.and IntKind.u64 (bits BinOp.or IntKind.u64 (bits BinOp.xor IntKind.u64 IntKind.u64.max (a:Int)) (b:Int)) (d:Int)) / 9223372036854775808=(k:Int):=by
 rw [k0B a ha];have h0:18446744073709551615 - a < 18446744073709551616:=by omega
 have h1:(18446744073709551615 - a) &&& b < 18446744073709551616:=Nat.and_lt_two_pow (n:=64) _ hb;have h2:(18446744073709551615 - a) ||| b < 18446744073709551616:=Nat.or_lt_two_pow (n:=64) h0 hb;have h3:((18446744073709551615 - a) ||| b) &&& d < 18446744073709551616:=Nat.and_lt_two_pow (n:=64) _ hd;rw [u64_and_nat _ b h0 hb,u64_or_nat _ b h0 hb,u64_and_nat _ d h2 hd,u64_or_nat _ _ h1 h3];have hk:k≤1:=by omega
 have h4:=n0c ha hb hc hd (by omega);have h5:(if a < b+c then 1 else 0)=k:=by
  split<;>omega
 rw [h5] at h4
 omega

theorem e0c {a b c s k:Nat} (ha:a < 18446744073709551616) (hb:b < 18446744073709551616) (hc:c≤1) (hs:s < 18446744073709551616) (h:s+18446744073709551616*k=a+b+c) (w:World) :
  Calls Tryz.prog 235 #[.int .u64 a,.int .u64 b,.int .u64 c] w fun e w'=>e = .returned (.tuple #[.int .u64 s,.int .u64 k])∧w=w':=by
 have e1:=p0V ha hb hc hs h;have e2:=m0s ha hb hc hs h;have E2:=hh e2;clear ha hb hc hs h e2
 go_enter Tryz.func235,Tryz.ntmps235
 go_wp2_with fail
 go_ret2
 exact ⟨by rw [E2.out];rfl,rfl⟩
theorem d0k {a b c d k:Nat} (ha:a < 18446744073709551616) (hb:b < 18446744073709551616) (hc:c≤1) (hd:d < 18446744073709551616) (h:d+b+c=a+18446744073709551616*k) (w:World) :
  Calls Tryz.prog 164 #[.int .u64 a,.int .u64 b,.int .u64 c] w fun e w'=>e = .returned (.tuple #[.int .u64 d,.int .u64 k])∧w=w':=by
 have e1:=p0f ha hb hc hd h;have e2:=k0K ha hb hc hd h;have E2:=hh e2;have hsg:IntKind.u64.signed=false:=rfl;clear ha hb hc hd h e2
 go_enter Tryz.func164,Tryz.ntmps164
 go_wp2_with fail
 go_ret2
 exact ⟨by rw [E2.out];rfl,rfl⟩
end
end Go.Proofs.YtakkfabaeolbdaaGreat
