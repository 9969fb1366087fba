/- keys.Key and its reference: their contracts. -/
import Derived.Test.YtabminbgoclnkaaGreatVaKeysB
import Derived.Test.YtabminbgoclnkaaGreatVaBuilder
namespace Go.Proofs.YtabminbgoclnkaaGreat
set_option maxHeartbeats 1000000
open Go.RowKit

def keyF (t:Int) (l:List Int):List UInt8:=if t < 1∨255 < t∨∃ x∈l,x < 0 then [] else UInt8.ofNat t.toNat :: l.flatMap numL
def keyTo (t:Int) (l:List Int) (k:Nat):List UInt8:=UInt8.ofNat t.toNat :: (l.take k).flatMap numL
theorem d0Q (t:Int) (l:List Int) (h:t < 1∨255 < t):keyF t l = []:=by
 unfold keyF;rw [if_pos (by rcases h with h | h;exact .inl h;exact .inr (.inl h))]
theorem i0i (t:Int) (l:List Int) (k:Nat) (hk:k < l.length) (h:l[k] < 0):keyF t l = []:=by
 unfold keyF;rw [if_pos (.inr (.inr ⟨_,List.getElem_mem hk,h⟩))]
theorem g0E (t:Int) (l:List Int) (k:Nat) (hk:¬ k < l.length) (h1:¬ t < 1) (h2:¬ 255 < t) (hp:∀ x∈l.take k,0≤x):keyTo t l k=keyF t l:=by
 have ht:l.take k=l:=List.take_of_length_le (by omega);rw [ht] at hp
 unfold keyTo keyF
 rw [ht,if_neg];rintro (h | h | ⟨x,hx,h⟩)
 ·exact h1 h
 ·exact h2 h
 ·have:=hp x hx;omega
theorem e0R (t:Int) (l:List Int):keyTo t l 0 = [] ++ [UInt8.ofNat t.toNat]:=by simp [keyTo]
theorem e0W (t:Int) (l:List Int) (k:Nat) (hk:k < l.length):keyTo t l (k+1)=keyTo t l k ++ numL l[k]:=by
 unfold keyTo;rw [List.take_succ_eq_append_getElem hk,List.flatMap_append];simp
theorem g0j (t:Int) (l:List Int) (k:Nat):(keyTo t l k).length≤8*l.length+1:=by
 have h:∀ m:List Int,(m.flatMap numL).length=8*m.length:=by
  intro m;induction m with
  | nil=>rfl
  | cons x m ih=>rw [List.flatMap_cons,List.length_append,ih,a0q,List.length_cons];omega
 rw [keyTo,List.length_cons,h,List.length_take];omega
theorem c0a {l:List Int} {k:Nat} (hk:k < l.length) (h:∀ x∈l.take k,0≤x) (h0:0≤l[k]):∀ x∈l.take (k+1),0≤x:=by
 rw [List.take_succ_eq_append_getElem hk];intro x hx
 rcases List.mem_append.1 hx with h1 | h1
 ·exact h x h1
 ·simp at h1;subst h1;exact h0

theorem b0b (t:Int) (l:List Int) (v:Value) (w:World) (hl:l.length≤100000000) (hi:I64s l) (hrd:Rd w intE 1 v l) :
  Calls Tryz.prog 68 #[.int .i64 t,v] w (Ret w (.string (bs (keyF t l)))):=by
 obtain ⟨ad,cap,rfl,hc1,hc2⟩:=hrd.shape
 by_cases h1:t < 1
 ·go_enter Tryz.func68,Tryz.ntmps68
  go_wp2
  go_ret
  exact ⟨by rw [d0Q _ _ (.inl h1)];rfl,Below.refl _ _⟩
 by_cases h2:255 < t
 ·go_enter Tryz.func68,Tryz.ntmps68
  go_wp2
  go_ret
  exact ⟨by rw [d0Q _ _ (.inr h2)];rfl,Below.refl _ _⟩
 have hw0:t % 256=t:=by omega
 go_enter Tryz.func68,Tryz.ntmps68
 go_wp2_with (go_at_call 117;refine (f0R w.heap.size w.heap.size [] t _ (by omega) (by omega) (Bld.fresh w _ (Nat.le_refl _)) (by simp) (by simp)).mono ?_;rintro e w1 ⟨rfl,hbl,hb1⟩)
 have hb2:=(Below.refl w.heap.size w).alloc (Nat.le_refl _) (.cells #[.pointer none,.slice none 0 0] 142) |>.trans hb1;rw [← e0R t l] at hbl;clear hb1
 go_loopw [19] (fun i wr=>∃ k:Nat,k≤l.length∧i = .int .i64 k∧Hid (∀ x∈l.take k,0≤x)∧Bld wr w.heap.size w.heap.size (keyTo t l k)∧Below w.heap.size w wr) (fun i _=>l.length - (intOf i).toNat)
 case atStart=>exact ⟨0,by omega,rfl,by simp [Hid],hbl,hb2⟩
 case round=>
  clear hbl hb2;obtain ⟨k,hk,rfl,hp,hbl,hb⟩:=hrel;have hz:=hb.size
  by_cases hlt:k < l.length
  ·obtain ⟨b,off,rfl,hbb,hcell⟩:=(hrd.later hb).at k hlt;obtain ⟨n,hn⟩:∃ n,n=l[k]:=⟨_,rfl⟩;rw [← hn] at hcell;have hni:=hi n (by rw [hn];exact List.getElem_mem hlt);replace hcell:wr.cell? ⟨b,off+k,none⟩=some (.int .i64 n):=hcell;have hlen:=g0j t l k;have HN:=Lib.hid hn;clear hn
   by_cases hneg:n < 0
   ·go_wp2
    go_ret
    exact ⟨by rw [i0i t l k hlt (by rw [← HN.out];exact hneg)];rfl,hb⟩
   ·go_wp2_with (first | (go_at_call 119;refine (h0b n _ (by omega) hni.2).mono ?_;rintro e w1 ⟨rfl,hb1⟩;have hbl1:=hbl.later hb1;have hb2:=hb.trans (hb1.mono hz);have hz2:=hb2.size;clear hb1) | (go_at_call 118;refine (c0B w.heap.size w.heap.size _ _ _ hbl1 (by rw [b0o,a0q];omega) hz2).mono ?_;rintro e w2 ⟨rfl,hbl2,hb3⟩))
    have hkt:bs (numL n)=bs (numL l[k]):=by rw [HN.out]
    rw [show (bs (numL n)).data.toList=numL l[k] by rw [HN.out];rfl,← e0W t l k hlt] at hbl2;have hp2:=c0a hlt hp.out (by rw [← HN.out];omega)
    go_roundw
    case rel=>exact ⟨k+1,by omega,by go_num,hp2,hbl2,hb2.trans hb3⟩
    case measure=>simp [intOf];omega
  ·have hke:=g0E t l k hlt (by omega) (by omega) hp.out;rw [hke] at hbl;clear hke
   go_wp2_with (go_at_call 120;refine (e0a w.heap.size w.heap.size _ _ hbl hz).mono ?_;rintro e w1 ⟨rfl,hb1⟩)
   go_ret
   exact ⟨rfl,hb.trans hb1⟩

theorem a0O (t:Int) (l:List Int) (v:Value) (w:World) (hl:l.length≤100000000) (hi:I64s l) (hrd:Rd w intE 1 v l) :
  Calls Tryz.prog 70 #[.int .i64 t,v] w (Ret w (.string (bs (keyF t l)))):=by
 obtain ⟨ad,cap,rfl,hc1,hc2⟩:=hrd.shape
 by_cases h1:t < 1
 ·go_enter Tryz.func70,Tryz.ntmps70
  go_wp2
  go_ret
  exact ⟨by rw [d0Q _ _ (.inl h1)];rfl,Below.refl _ _⟩
 by_cases h2:255 < t
 ·go_enter Tryz.func70,Tryz.ntmps70
  go_wp2
  go_ret
  exact ⟨by rw [d0Q _ _ (.inr h2)];rfl,Below.refl _ _⟩
 have hw0:t % 256=t:=by omega
 have hcv:=i0h (P:=Tryz.prog) (w.alloc (.cells #[.int .u8 t] 5)) 140 9 5 Tryz.underlying140 Tryz.underlying5 Tryz.underlying9 w.heap.size 0 1 1 [UInt8.ofNat t.toNat] rfl _ _ _ (heap_alloc_new _ _) (by simp [byteV_of t (by omega) (by omega)])
 go_enter Tryz.func70,Tryz.ntmps70
 go_wp2
 clear hcv
 go_loopw [5,20] (fun s i wr=>∃ k:Nat,k≤l.length∧i = .int .i64 k∧Hid (∀ x∈l.take k,0≤x)∧s = .string (bs (keyTo t l k))∧Below w.heap.size w wr) (fun _ i _=>l.length - (intOf i).toNat)
 case atStart=>exact ⟨0,by omega,rfl,by simp [Hid],by rw [e0R];rfl,(Below.refl _ _).alloc (Nat.le_refl _) _⟩
 case round=>
  obtain ⟨k,hk,rfl,hp,rfl,hb⟩:=hrel;have hz:=hb.size
  by_cases hlt:k < l.length
  ·obtain ⟨b,off,rfl,hbb,hcell⟩:=(hrd.later hb).at k hlt;obtain ⟨n,hn⟩:∃ n,n=l[k]:=⟨_,rfl⟩;rw [← hn] at hcell;have hni:=hi n (by rw [hn];exact List.getElem_mem hlt);replace hcell:wr.cell? ⟨b,off+k,none⟩=some (.int .i64 n):=hcell;have hlen:=g0j t l k;have HN:=Lib.hid hn;clear hn
   by_cases hneg:n < 0
   ·go_wp2
    go_ret
    exact ⟨by rw [i0i t l k hlt (by rw [← HN.out];exact hneg)];rfl,hb⟩
   ·have hsz:=b0o (keyTo t l k);have hszn:(bs (numL n)).size=8:=by rw [b0o,a0q]
    go_wp2_with (first | (go_at_call 121;refine (d0s n _ (by omega) hni.2).mono ?_;rintro e w1 ⟨rfl,hb1⟩;have hb2:=hb.trans (hb1.mono hz);have hz2:=hb2.size;clear hb1))
    have hp2:=c0a hlt hp.out (by rw [← HN.out];omega)
    go_roundw
    case rel=>exact ⟨k+1,by omega,by go_num,hp2,by rw [g0B,e0W t l k hlt,HN.out],hb2⟩
    case measure=>simp [intOf];omega
  ·have hke:=g0E t l k hlt (by omega) (by omega) hp.out;have HK:=Lib.hid hke;clear hke
   go_wp2
   go_ret
   exact ⟨by rw [← HK.out];rfl,hb⟩

end Go.Proofs.YtabminbgoclnkaaGreat
