/- merkle.Depth, why; the reference's Depth, Why. The reference's tree: sum. The reference's tree: Leaf. The reference's tree: Node. -/
import Derived.Test.YtakkfabaeolbdaaGreatCn11
import Derived.Test.YtakkfabaeolbdaaGreatCn10
import Derived.Lib.SlBytesConst
import Derived.Test.YtakkfabaeolbdaaGreatCn2
namespace Go.Proofs.YtakkfabaeolbdaaGreat
section
set_option maxHeartbeats 1000000
open Go.RowKit

theorem p0e (m:Nat) (h:0 < m):bitsN m=bitsN (m / 2)+1:=c0K m h
theorem k0L (n:Int) (h:n≤1):depthF n.toNat=0:=by unfold depthF;rw [show n.toNat - 1=0 by omega,a0V]
theorem o0u (n:Nat) (h:n≤9223372036854775807):depthF n≤63:=i0F n 63 (Nat.le_trans h (by decide))
theorem c0g (n:Nat) (h:n≤1024):depthF n≤10:=i0F n 10 (Nat.le_trans h (by decide))

theorem m0G (n:Int) (h2:n < 9223372036854775808) (w:World):Calls Tryz.prog 221 #[.int .i64 n] w fun e w'=>e = .returned (.int .i64 (depthF n.toNat))∧w=w':=by
 by_cases h:n≤1
 ·rw [k0L n h]
  rcases (show n=1∨n < 1 by omega) with rfl | h1
  all_goals
   go_enter Tryz.func221,Tryz.ntmps221
   go_wp2_with fail
   go_loop [0,3] (fun x y=>x = .int .i64 0∧y = .int .i64 0) (fun _ _=>0)
   case atStart=>exact ⟨rfl,rfl⟩
   case round=>
    obtain ⟨rfl,rfl⟩:=hrel;go_wp2_with fail
    go_ret
    exact ⟨rfl,rfl⟩
 ·obtain ⟨m,rfl⟩:=Int.eq_ofNat_of_zero_le (show 0≤n by omega);rw [Int.toNat_natCast];have hm1:(1:Int) < (m:Int):=by omega
  have hm2:(1:Int)≤(m:Int):=by omega
  have h63:=o0u m (by omega);have hst:(m:Int) - 1=((m - 1:Nat):Int):=by omega
  obtain ⟨D,hD⟩:∃ D,D=depthF m:=⟨_,rfl⟩;rw [← hD] at h63 ⊢;have HD:=Lib.hid hD;have HST:=Lib.hid hst;clear hD hst h
  go_enter Tryz.func221,Tryz.ntmps221
  go_wp2_with fail;rw [HST.out]
  go_loop [0,3] (fun x y=>∃ k j:Nat,k≤m∧x = .int .i64 k∧y = .int .i64 j∧Hid (j+bitsN k=D)) (fun x _=>(intOf x).toNat)
  case atStart=>exact ⟨m - 1,0,by omega,rfl,rfl,Lib.hid (by rw [HD.out,Nat.zero_add];rfl)⟩
  case round=>
   obtain ⟨k,j,hk,rfl,rfl,hj⟩:=hrel
   by_cases h0:0 < k
   ·have hb:=p0e k h0;have hj2:=hj.out;have hj3:j < 63:=by omega
    have hk2:(k:Int) / 2=((k / 2:Nat):Int):=by omega
    have HB:=Lib.hid hb;have HK2:=Lib.hid hk2;clear hb hj2 hk2;go_wp2_with fail
    go_round
    case rel=>exact ⟨k / 2,j+1,by omega,by rw [← HK2.out],by go_num,Lib.hid (by have:=HB.out;have:=hj.out;omega)⟩
    case measure=>simp [intOf];omega
   ·obtain rfl:k=0:=by omega
    have:=hj.out;rw [a0V] at this;obtain rfl:j=D:=by omega
    go_wp2_with fail
    go_ret
    exact ⟨rfl,rfl⟩

def whyF (k:Int) (n:Nat):Int:=if k=1∨k=2 then (if n=0 then 8 else if 1024 < n then 19 else 0) else 2
theorem h0L (k:Int) (ad:Option Addr) (n cap:Nat) (w:World):Calls Tryz.prog 153 #[.int .i64 k,.slice ad n cap] w fun e w'=>e = .returned (.int .i64 (whyF k n))∧w=w':=by
 rcases (show (k=1∨k=2)∨(¬ k=1∧¬ k=2) by omega) with hk | ⟨h1,h2⟩
 ·have hkb:=f0X hk;have hw:whyF k n=if n=0 then 8 else if 1024 < n then 19 else 0:=by unfold whyF;rw [if_pos hk]
  rw [hw];clear hk hw
  rcases (show n=0∨(0 < n∧n≤1024)∨(0 < n∧1024 < n) by omega) with rfl | ⟨g1,g2⟩ | ⟨g1,g2⟩
  all_goals
   first | rw [if_pos rfl] | rw [if_neg (by omega),if_neg (by omega)] | rw [if_neg (by omega),if_pos (by omega)]
  ·go_enter Tryz.func153,Tryz.ntmps153
   go_wp2_with fail;refine (d0D _ _).mono ?_;rintro e w2 ⟨rfl,rfl⟩;go_wp2_with fail
   go_ret
   exact ⟨rfl,rfl⟩
  all_goals
   have e1:((n:Int) == 0)=false:=by rw [beq_eq_false_iff_ne];omega
   go_enter Tryz.func153,Tryz.ntmps153
   go_wp2_with fail;refine (d0D _ _).mono ?_;rintro e w2 ⟨rfl,rfl⟩;go_wp2_with fail
   go_ret
   exact ⟨rfl,rfl⟩
 ·have hkb:=e0Y h1 h2;have hw:whyF k n=2:=by unfold whyF;rw [if_neg (by omega)]
  rw [hw];clear hw
  go_enter Tryz.func153,Tryz.ntmps153
  go_wp2_with fail;refine (d0D _ _).mono ?_;rintro e w2 ⟨rfl,rfl⟩;go_wp2_with fail
  go_ret
  exact ⟨rfl,rfl⟩
end
section
open Go.RowKit

def ByteBlk (w:World) (u:Value):Prop:=∀ k,u.ownBlock=some k→∃ cs fr,w.heap[k]? = some (.cells cs 5 fr)
theorem ByteBlk.keep {w w':World} {u:Value} {S:Nat→Prop} (h:ByteBlk w u) (k:Keep S w w') (hn:∀ x cs fr,w.heap[x]? = some (.cells cs 5 fr)→¬ S x):ByteBlk w' u:=fun x hx=>by
 obtain ⟨cs,fr,h1⟩:=h x hx
 exact ⟨cs,fr,k.at h1 (hn x cs fr h1)⟩
theorem ByteBlk.ne {w:World} {u:Value} (h:ByteBlk w u) {g:Nat} {cs:Array Value} {T:TypeId} {fr:Nat × Nat} (hg:w.heap[g]? = some (.cells cs T fr)) (hT:T≠5):u.ownBlock≠some g:=fun e=>by
 obtain ⟨cs',fr',h1⟩:=h g e;rw [hg] at h1
 simp at h1
 exact hT h1.2.1
def Tr (w:World) (g:Nat) (a:Option Nat) (texts:List (List UInt8)):Prop:=
 ∃ (v:Value) (vs:List Value),w.heap[g]? = some (.cells #[v] 59 (0,0))∧Own w 0 122 slE 1 v vs∧v.ownBlock=a∧vs.length=texts.length ∧
  ∀ (i:Nat) u l,vs[i]? = some u→texts[i]? = some l→Rd w u8E 1 u l∧ByteBlk w u
def Grew (w:World) (g:Nat) (a:Option Nat) (w':World) (a':Option Nat):Prop:=
 Keep (fun k=>k=g∨a=some k) w w'∧(a'=a∨∃ k,a'=some k∧w.heap.size≤k)
theorem Grew.of_below {w w':World} (g:Nat) (a:Option Nat) (h:Below w.heap.size w w'):Grew w g a w' a:=⟨Keep.of_below h,.inl rfl⟩
theorem Grew.trans {w w1 w2:World} {g:Nat} {a a1 a2:Option Nat} (h:Grew w g a w1 a1) (k:Grew w1 g a1 w2 a2):Grew w g a w2 a2:=by
 obtain ⟨h1,h2⟩:=h;obtain ⟨k1,k2⟩:=k;refine ⟨h1.then k1 fun x hx=>?_,?_⟩
 ·rcases hx with hx | hx
  ·exact .inl (.inl hx)
  ·rcases h2 with h2 | ⟨y,h2,h3⟩
   ·exact .inl (.inr (h2▸hx))
   ·rw [h2] at hx;cases hx;exact .inr h3
 ·rcases k2 with k2 | ⟨y,k2,k3⟩
  ·rw [k2];exact h2
  ·exact .inr ⟨y,k2,Nat.le_trans h1.size k3⟩
theorem Tr.lt {w:World} {g:Nat} {a:Option Nat} {texts:List (List UInt8)} (h:Tr w g a texts):g < w.heap.size∧∀ k,a=some k→k < w.heap.size:=by
 obtain ⟨v,vs,h1,h2,h3,_⟩:=h
 exact ⟨a0b h1,fun k hk=>(h2.lt k (by rw [h3];exact hk)).2⟩
theorem Tr.later {w w':World} {g:Nat} {a:Option Nat} {texts:List (List UInt8)} (h:Tr w g a texts) (hb:Below w.heap.size w w'):Tr w' g a texts:=by
 obtain ⟨v,vs,h1,h2,h3,h4,h5⟩:=h
 exact ⟨v,vs,(hb.block g (a0b h1)).trans h1,h2.later hb,h3,h4,fun i u l p q=>⟨(h5 i u l p q).1.later hb,(h5 i u l p q).2.keep (S:=fun _=>False) (Keep.of_below hb) (fun _ _ _ _ e=>e)⟩⟩
theorem Own.type {α:Type} {w:World} {B:Nat} {e T:TypeId} {enc:α→List Value} {sz:Nat} {v:Value} {l:List α} (h:Own w B e enc sz v l) {g:Nat} {cs:Array Value} {fr:Nat × Nat} (hg:w.heap[g]? = some (.cells cs T fr)) (hT:T≠e):v.ownBlock≠some g:=by
 intro hv
 rcases h.2 with ⟨h,_⟩ | ⟨g',cap',cur,h,_,hhq,_⟩
 ·rw [h] at hv;simp [Value.ownBlock] at hv
 ·rw [h] at hv
  simp [Value.ownBlock] at hv
  subst hv;rw [hg] at hhq
  simp at hhq
  exact hT hhq.2.1
theorem Own.at {α:Type} {w:World} {B:Nat} {e:TypeId} {enc:α→List Value} {sz:Nat} {v:Value} {l:List α} (h:Own w B e enc sz v l) {k:Nat} (hk:v.ownBlock=some k):∃ cs fr,w.heap[k]? = some (.cells cs e fr):=by
 rcases h.2 with ⟨h,_⟩ | ⟨g',cap',cur,h,_,hhq,_⟩
 ·rw [h] at hk;simp [Value.ownBlock] at hk
 ·rw [h] at hk
  simp [Value.ownBlock] at hk
  subst hk
  exact ⟨_,_,hhq⟩
theorem Tr.keep {w w':World} {g:Nat} {a:Option Nat} {texts:List (List UInt8)} {S:Nat→Prop} (h:Tr w g a texts) (k:Keep S w w') (hS:∀ x cs T fr,w.heap[x]? = some (.cells cs T fr)→S x→T≠5∧T≠122∧T≠59):Tr w' g a texts:=by
 obtain ⟨v,vs,h1,h2,h3,h4,h5⟩:=h;refine ⟨v,vs,k.at h1 (fun e=>(hS _ _ _ _ h1 e).2.2 rfl),h2.keep k (fun x hx e=>?_),h3,h4,fun i u l p q=>?_⟩
 ·obtain ⟨cs,fr,h6⟩:=h2.at hx
  exact (hS _ _ _ _ h6 e).2.1 rfl
 ·obtain ⟨r1,r2⟩:=h5 i u l p q;refine ⟨r1.keep k fun x hx _ e=>?_,r2.keep k fun x cs fr h6 e=>(hS _ _ _ _ h6 e).1 rfl⟩;obtain ⟨cs,fr,h6⟩:=r2 x hx
  exact (hS _ _ _ _ h6 e).1 rfl
end
section
open Go.RowKit

theorem Grew.from {w w1 w2:World} {g:Nat} {a a2:Option Nat} (h:Below w.heap.size w w1) (k:Grew w1 g a w2 a2):Grew w g a w2 a2:=(Grew.of_below g a h).trans k
theorem Grew.to {w w1 w2:World} {g:Nat} {a a1:Option Nat} (h:Grew w g a w1 a1) {R:Nat} (hR:w.heap.size≤R) (k:Keep (· = R) w1 w2):Grew w g a w2 a1:=⟨h.1.then k (fun x hx=>.inr (by omega)),h.2⟩
theorem Own.bytes {w:World} {B:Nat} {v:Value} {l:List UInt8} (h:Own w B 5 u8E 1 v l):ByteBlk w v:=fun _ hk=>h.at hk
end
section
open Go.RowKit

theorem Own.slice {α:Type} {w:World} {B:Nat} {e:TypeId} {enc:α→List Value} {sz:Nat} {v:Value} {l:List α} (h:Own w B e enc sz v l):∃ ad n cap,v = .slice ad n cap:=by
 rcases h.2 with ⟨h,_⟩ | ⟨g',cap',cur,h,_⟩
 ·exact ⟨_,_,_,h⟩
 ·exact ⟨_,_,_,h⟩
end
end Go.Proofs.YtakkfabaeolbdaaGreat
