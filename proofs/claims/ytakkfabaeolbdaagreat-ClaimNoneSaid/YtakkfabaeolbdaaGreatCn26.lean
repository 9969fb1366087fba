/- cell.Row, put, SetRow, and the document's Row, SetRow: their contracts. cell.Int, SetInt, Next, and the document's: their contracts. -/
import Derived.Test.YtakkfabaeolbdaaGreatCn23
import Derived.Test.YtakkfabaeolbdaaGreatCn25
namespace Go.Proofs.YtakkfabaeolbdaaGreat
section
set_option maxHeartbeats 1000000
open Go.RowKit

def RowRet (w:World) (l:List Int) (e:Ending) (w':World):Prop:=∃ v,e = .returned v∧Own w' w.heap.size 3 intE 1 v l∧Below w.heap.size w w'
theorem RowRet.rd {w w':World} {l:List Int} {v:Value} (h:Own w' w.heap.size 3 intE 1 v l):Rd w' intE 1 v l:=h.rd fun _=>rfl
theorem l0R {w w':World} {t:Txt} {e:Ending} (h:NumsSays w t e w'):∃ v b,e = .returned (.tuple #[v,.bool b])∧Own w' w.heap.size 3 intE 1 v (rowF t)∧Below w.heap.size w w'∧(b=false→v = .slice none 0 0):=by
 obtain ⟨hb,h⟩:=h
 unfold rowF
 split at h
 ·rename_i xs hx;obtain ⟨v,rfl,ho⟩:=h;rw [hx];exact ⟨v,true,rfl,ho,hb,fun h=>by cases h⟩
 ·rename_i hx;subst h;rw [hx];exact ⟨_,false,rfl,Own.nil _ _ _ _ _,hb,fun _=>rfl⟩
theorem bs_le {t:Txt} {n:Nat} (h:t.length≤n):(bs t).size≤n:=by rw [b0e];exact h

theorem p0v {w:World} {x:Option Addr} {m:Bool} {f:Txt→Option Txt} (h:Look w x m f) (hf:FitF f) (k:Txt) :
  Calls Tryz.prog 94 #[.pointer x,.string (bs k)] w (RowRet w (rowF (valF f k))):=by
 have H:=hh h;have HV:=hh (hf k);clear h hf;obtain ⟨v,hv⟩:=nm (valF f k);have HVV:=hh hv;rw [← hv] at HV ⊢;clear hv
 go_enter Tryz.func94,Tryz.ntmps94
 go_wp2_with fail;refine (h0K H.out k).mono ?_;rintro e w1 ⟨rfl,rfl⟩;obtain ⟨b0,hb0⟩:=nm ((f k).isSome);rw [← hb0,show (f k).getD []=valF f k from rfl,← HVV.out];clear hb0;go_wp2_with fail;refine (r0v (bs v) _ (Nat.le_trans (bs_le HV.out) (by decide))).mono ?_;intro e w1 hr;obtain ⟨u,b,rfl,ho,hb,hn⟩:=l0R hr;have HO:=hh ho;have HB:=hh hb;clear hr ho hb
 cases b with
 | true=>
  clear hn;go_wp2_with fail
  go_ret
  exact ⟨_,rfl,HO.out,HB.out⟩
 | false=>
  obtain rfl:=hn rfl;clear hn;go_wp2_with fail
  go_ret
  exact ⟨_,rfl,HO.out,HB.out⟩

theorem r0g {w:World} {g:Nat} {s:PS} {F:List Nat} (h:RS w g s F) (hz:s.sz < 1099511627776) (hf:Fit s) (k:Txt) :
  Calls Tryz.prog 146 #[.pointer (some ⟨g,0,none⟩),.string (bs k)] w (RowRet w (rowF (valF (getP s.t) k))):=by
 have H:=hh h;have HV:=hh (hf.val k);have hz2:s.t.length < 4611686018427387904:=by unfold PS.sz at hz;omega
 have HZ:=hh hz2;clear h hf hz hz2;obtain ⟨v,hv⟩:=nm (valF (getP s.t) k);have HVV:=hh hv;rw [← hv] at HV ⊢;clear hv
 go_enter Tryz.func146,Tryz.ntmps146
 go_wp2_with fail;refine (d0i H.out HZ.out k).mono ?_;rintro e w1 ⟨rfl,rfl⟩;obtain ⟨b0,hb0⟩:=nm ((getP s.t k).isSome);rw [← hb0,show (getP s.t k).getD []=valF (getP s.t) k from rfl,← HVV.out];clear hb0;go_wp2_with fail;refine (k0G (bs v) _ (Nat.le_trans (bs_le HV.out) (by decide))).mono ?_;intro e w1 hr;obtain ⟨u,b,rfl,ho,hb,hn⟩:=l0R hr;have HO:=hh ho;have HB:=hh hb;clear hr ho hb
 cases b with
 | true=>
  clear hn;go_wp2_with fail
  go_ret
  exact ⟨_,rfl,HO.out,HB.out⟩
 | false=>
  obtain rfl:=hn rfl;clear hn;go_wp2_with fail
  go_ret
  exact ⟨_,rfl,HO.out,HB.out⟩

theorem g0A {w:World} {g:Nat} {s:PS} {F:List Nat} (h:St w g s F) (hz:s.sz < 1099511627776) (k v:Txt) :
  Calls Tryz.prog 89 #[.pointer (some ⟨g,0,none⟩),.string (bs k),.string (bs v)] w (StRet w g F (s.putv k v) (.tuple #[])):=by
 have L:=hh (Liv.start h);have HZ:=hh hz;clear h hz
 by_cases hv:v = []
 ·subst hv;have j1:(bs ([]:Txt)).toList = []:=a0j _;have j2:(bs ([]:Txt)).toList.isEmpty=true:=by rw [a0j];rfl
  have hp:s.putv k []=s.del k:=by unfold PS.putv;rw [if_pos rfl]
  rw [hp];clear hp
  go_enter Tryz.func89,Tryz.ntmps89
  go_wp2_with fail;refine (L.out.call fun F h=>q0z h (by have:=HZ.out;unfold PS.sz at this;omega) (by have:=HZ.out;unfold PS.sz at this;omega) k).mono ?_;rintro e w1 ⟨rfl,L1,_⟩;have L1:=hh L1;go_wp2_with fail
  go_end0
  exact L1.out.ret
 ·have j1:(bs v).toList≠[]:=by rw [a0j];exact hv
  have j2:(bs v).toList.isEmpty=false:=by rw [a0j];cases v<;>simp_all
  have j3:((bs v).toList == [])=false:=by rw [a0j];cases v<;>simp_all
  have hp:s.putv k v=s.set k v:=by unfold PS.putv;rw [if_neg hv]
  rw [hp];clear hp hv
  go_enter Tryz.func89,Tryz.ntmps89
  go_wp2_with fail;refine (L.out.call fun F h=>l0j h (by have:=HZ.out;unfold PS.sz at this;omega) (by have:=HZ.out;unfold PS.sz at this;omega) k v).mono ?_;rintro e w1 ⟨rfl,L1,_⟩;have L1:=hh L1;go_wp2_with fail
  go_end0
  exact L1.out.ret

def flatT (l:List Int) (k:Nat):Txt:=(l.take k).flatMap numL
theorem g0R (l:List Int):flatT l 0 = []:=rfl
theorem h0d (l:List Int) (k:Nat) (hk:k < l.length):flatT l (k+1)=flatT l k ++ numL l[k]:=by
 unfold flatT;rw [List.take_succ_eq_append_getElem hk,List.flatMap_append];simp
theorem j0p (l:List Int) (k:Nat):(flatT l k).length≤8*l.length:=by
 unfold flatT;rw [b0y,List.length_take];omega
theorem h0a {s:PS} {k:Txt} {l:List Int} {i:Nat} (hi:i < l.length) (h:l[i] < 0):s.setRow k l=s:=by
 unfold PS.setRow;rw [if_pos ⟨_,List.getElem_mem hi,h⟩]
theorem f0l {s:PS} {k:Txt} {l:List Int} (h:∀ x∈l,0≤x):s.setRow k l=s.putv k (l.flatMap numL):=by
 unfold PS.setRow;rw [if_neg]
 rintro ⟨x,hx,h1⟩;have:=h x hx;omega
theorem g0f {s:PS} {k:Txt} {l:List Int} {i:Nat} (hi:¬ i < l.length) (h:∀ x∈l.take i,0≤x):s.setRow k l=s.putv k (flatT l i):=by
 unfold flatT
 rw [List.take_of_length_le (by omega)] at h ⊢
 exact f0l h

theorem m0L {w:World} {g:Nat} {s:PS} {F:List Nat} (h:St w g s F) (hz:s.sz < 1099511627776) (k:Txt) {l:List Int} {v:Value} (hl:l.length≤100000000) (hi:I64s l) (hrd:Rd w intE 1 v l) :
  Calls Tryz.prog 121 #[.pointer (some ⟨g,0,none⟩),.string (bs k),v] w (StRet w g F (s.setRow k l) (.tuple #[])):=by
 have L:=hh (Liv.start h);have HZ:=hh hz;obtain ⟨ad,cap,rfl,hc1,hc2⟩:=hrd.shape;clear h hz
 go_enter Tryz.func121,Tryz.ntmps121
 go_wp2_with fail;have hb2:=(Below.refl w.heap.size w).alloc (Nat.le_refl _) (.cells #[.pointer none,.slice none 0 0] 165);have hbl:=Bld.fresh w _ (Nat.le_refl w.heap.size);rw [← g0R l] at hbl
 go_loopw [11] (fun i wr=>∃ k:Nat,k≤l.length∧i = .int .i64 k∧Hid (∀ x∈l.take k,0≤x)∧Bld wr w.heap.size w.heap.size (flatT l k)∧Below w.heap.size w wr) (fun i _=>l.length - (intOf i).toNat)
 case atStart=>exact ⟨0,by omega,rfl,by simp [Hid],hbl,hb2⟩
 case round=>
  clear hbl hb2;obtain ⟨i,hk,rfl,hp,hbl,hb⟩:=hrel;have hz:=hb.size
  by_cases hlt:i < l.length
  ·obtain ⟨b,off,rfl,hbb,hcell⟩:=(hrd.later hb).at i hlt;obtain ⟨n,hn⟩:=nm (l[i]);rw [← hn] at hcell;have hni:=hi n (by rw [hn];exact List.getElem_mem hlt);replace hcell:wr.cell? ⟨b,off+i,none⟩=some (.int .i64 n):=hcell;have hlen:=j0p l i;have HN:=hh hn;clear hn
   by_cases hneg:n < 0
   ·have hs:s.setRow k l=s:=h0a hlt (by rw [← HN.out];exact hneg);have HS:=hh hs;clear hs
    go_wp2
    go_end0
    have h1:=(L.out.later hb).ret (v:=.tuple #[]);rw [HS.out]
    exact h1
   ·go_wp2_with (first | (go_at_call 90;refine (j0S n _ (by omega) hni.2).mono ?_;rintro e w1 ⟨rfl,hb1⟩;have hbl1:=hbl.later hb1;have hb2:=hb.trans (hb1.mono hz);have hz2:=hb2.size;clear hb1) | (go_at_call 92;refine (c0I w.heap.size w.heap.size _ _ _ hbl1 (by rw [b0e,a0s];omega) hz2).mono ?_;rintro e w2 ⟨rfl,hbl2,hb3⟩))
    have hkt:bs (numL n)=bs (numL l[i]):=by rw [HN.out]
    rw [show (bs (numL n)).data.toList=numL l[i] by rw [HN.out];rfl,← h0d l i hlt] at hbl2;have hp2:=c0v hlt hp.out (by rw [← HN.out];omega)
    go_roundw
    case rel=>exact ⟨i+1,by omega,by go_num,hp2,hbl2,hb2.trans hb3⟩
    case measure=>simp [intOf];omega
  ·have hke:=g0f (s:=s) (k:=k) hlt hp.out;have HKE:=hh hke;clear hke
   go_wp2_with (go_at_call 93;refine (g0h w.heap.size w.heap.size _ _ hbl hz).mono ?_;rintro e w1 ⟨rfl,hb1⟩)
   have L1:=hh (L.out.later (hb.trans hb1));clear hb hb1 hbl;refine (L1.out.call fun F h=>g0A h HZ.out k (flatT l i)).mono ?_;rintro e w2 ⟨rfl,L2,_⟩;have L2:=hh L2;go_wp2_with fail
   go_end0
   rw [HKE.out]
   exact L2.out.ret

theorem j0X {w:World} {g:Nat} {s:PS} {F:List Nat} (h:RS w g s F) (hz0:s.sz < 1099511627776) (k:Txt) {l:List Int} {v:Value} (hl:l.length≤100000000) (hi:I64s l) (hrd:Rd w intE 1 v l) :
  Calls Tryz.prog 125 #[.pointer (some ⟨g,0,none⟩),.string (bs k),v] w (RRet w g F (s.setRow k l) (.tuple #[])):=by
 have L:=hh (RLiv.start h);have HZ:=hh hz0;obtain ⟨ad,cap,rfl,hc1,hc2⟩:=hrd.shape;clear h hz0
 go_enter Tryz.func125,Tryz.ntmps125
 go_wp2_with fail
 go_loopw [6,11] (fun s i wr=>∃ k:Nat,k≤l.length∧i = .int .i64 k∧Hid (∀ x∈l.take k,0≤x)∧s = .string (bs (flatT l k))∧Below w.heap.size w wr) (fun _ i _=>l.length - (intOf i).toNat)
 case atStart=>exact ⟨0,by omega,rfl,by simp [Hid],by rw [g0R];rfl,Below.refl _ _⟩
 case round=>
  obtain ⟨i,hk,rfl,hp,rfl,hb⟩:=hrel;have hz:=hb.size
  by_cases hlt:i < l.length
  ·obtain ⟨b,off,rfl,hbb,hcell⟩:=(hrd.later hb).at i hlt;obtain ⟨n,hn⟩:=nm (l[i]);rw [← hn] at hcell;have hni:=hi n (by rw [hn];exact List.getElem_mem hlt);replace hcell:wr.cell? ⟨b,off+i,none⟩=some (.int .i64 n):=hcell;have hlen:=j0p l i;have HN:=hh hn;clear hn
   by_cases hneg:n < 0
   ·have hs:s.setRow k l=s:=h0a hlt (by rw [← HN.out];exact hneg);have HS:=hh hs;clear hs
    go_wp2
    go_end0
    have h1:=(L.out.later hb).ret (v:=.tuple #[]);rw [HS.out]
    exact h1
   ·have hsz:=b0e (flatT l i);have hszn:(bs (numL n)).size=8:=by rw [b0e,a0s]
    go_wp2_with (first | (go_at_call 147;refine (e0t n _ (by omega) hni.2).mono ?_;rintro e w1 ⟨rfl,hb1⟩;have hb2:=hb.trans (hb1.mono hz);have hz2:=hb2.size;clear hb1))
    have hp2:=c0v hlt hp.out (by rw [← HN.out];omega)
    go_roundw
    case rel=>exact ⟨i+1,by omega,by go_num,hp2,by rw [j0t,h0d l i hlt,HN.out],hb2⟩
    case measure=>simp [intOf];omega
  ·have hke:=g0f (s:=s) (k:=k) hlt hp.out;have L1:=hh (L.out.later hb);obtain ⟨x,hx⟩:=nm (flatT l i);rw [← hx] at hke ⊢;have HKE:=hh hke;clear hke hx hb hp
   by_cases hv:x = []
   ·subst hv;have j1:(bs ([]:Txt)).toList = []:=a0j _;have j2:(bs ([]:Txt)).toList.isEmpty=true:=by rw [a0j];rfl
    have hq:s.setRow k l=s.del k:=by rw [HKE.out];unfold PS.putv;rw [if_pos rfl]
    have HQ:=hh hq;clear hq;go_wp2_with fail;refine (L1.out.call fun F h=>h0V h (by have:=HZ.out;unfold PS.sz at this;omega) (by have:=HZ.out;unfold PS.sz at this;omega) k).mono ?_;rintro e w1 ⟨rfl,L2,_⟩;have L2:=hh L2;go_wp2_with fail
    go_end0
    rw [HQ.out]
    exact L2.out.ret
   ·have j1:(bs x).toList≠[]:=by rw [a0j];exact hv
    have j2:(bs x).toList.isEmpty=false:=by rw [a0j];cases x<;>simp_all
    have j3:((bs x).toList == [])=false:=by rw [a0j];cases x<;>simp_all
    have hq:s.setRow k l=s.set k x:=by rw [HKE.out];unfold PS.putv;rw [if_neg hv]
    have HQ:=hh hq;clear hq hv;go_wp2_with fail;refine (L1.out.call fun F h=>f0e h (by have:=HZ.out;unfold PS.sz at this;omega) (by have:=HZ.out;unfold PS.sz at this;omega) k x).mono ?_;rintro e w1 ⟨rfl,L2,_⟩;have L2:=hh L2;go_wp2_with fail
    go_end0
    rw [HQ.out]
    exact L2.out.ret
end
section
set_option maxHeartbeats 1000000
open Go.RowKit

def intF:List Int→Int
 | [n]=>n
 | _=>0
theorem k0n {l:List Int} (h:¬ l.length=1):intF l=0:=by
 unfold intF
 split
 ·exact absurd rfl h
 ·rfl
theorem o0I {l:List Int} (h:l.length=1):∃ a,l = [a]:=by
 match l,h with
 | [a],_=>exact ⟨a,rfl⟩
def getI (f:Txt→Option Txt) (k:Txt):Int:=intF (rowF (valF f k))
theorem b0d (f:Txt→Option Txt) (k:Txt):0≤getI f k∧getI f k < 9223372036854775808:=by
 unfold getI
 have h:=h0s (valF f k)
 generalize rowF (valF f k)=l at h
 by_cases h1:l.length=1
 ·obtain ⟨a,rfl⟩:=o0I h1
  exact h a (by simp)
 ·rw [k0n h1];exact ⟨Int.le_refl _,by decide⟩
def PS.setInt (s:PS) (k:Txt) (n:Int):PS:=if n < 1 then s.del k else s.set k (numL n)
theorem g0t (s:PS) (k:Txt) (n:Int):(s.setInt k n).sz≤s.sz+2:=by
 unfold PS.setInt
 split
 ·exact p0F _ _
 ·exact l0w _ _ _
theorem Fit.setInt {s:PS} (h:Fit s) (k:Txt) (n:Int):Fit (s.setInt k n):=by
 unfold PS.setInt
 split
 ·exact h.del k
 ·exact h.set k (by rw [a0s];omega)
def nextI (n:Int):Int:=if n < 9223372036854775807 then n+1 else n

theorem h0C {w:World} {x:Option Addr} {m:Bool} {f:Txt→Option Txt} (h:Look w x m f) (hf:FitF f) (k:Txt) :
  Calls Tryz.prog 40 #[.pointer x,.string (bs k)] w (Ret w (.int .i64 (getI f k))):=by
 go_enter Tryz.func40,Tryz.ntmps40
 go_wp2_with fail;refine (p0v h hf k).mono ?_;rintro e w3 ⟨v,rfl,ho,hb3⟩;obtain ⟨l,hll⟩:=nm (rowF (valF f k));rw [← hll] at ho;have HG:Hid (getI f k=intF l):=hh (by rw [hll];rfl);have hrd:=RowRet.rd ho;have HB:=hh hb3;clear ho hll hb3;obtain ⟨ad,cap,rfl,c1,c2⟩:=hrd.shape;obtain ⟨n,hn⟩:=nm (l.length);rw [← hn] at c1 ⊢
 by_cases h5:n=1
 ·subst h5;obtain ⟨a,rfl⟩:=o0I hn.symm;obtain ⟨q,off,rfl,hq,t0⟩:=hrd.at 0 (by simp);replace t0:w3.cell? ⟨q,off,none⟩=some (.int .i64 a):=t0;clear hrd hn;go_wp2_with fail
  go_ret
  exact ⟨by rw [HG.out];rfl,HB.out⟩
 ·have h5':((n:Int) == 1)=false:=beq_eq_false_iff_ne.2 (by omega);have HG0:Hid (getI f k=0):=hh (by rw [HG.out,k0n (by omega)]);clear h5 hn hrd;go_wp2_with fail
  go_ret
  exact ⟨by rw [HG0.out];rfl,HB.out⟩

theorem h0N {w:World} {g:Nat} {s:PS} {F:List Nat} (h:RS w g s F) (hz:s.sz < 1099511627776) (hf:Fit s) (k:Txt) :
  Calls Tryz.prog 67 #[.pointer (some ⟨g,0,none⟩),.string (bs k)] w (Ret w (.int .i64 (getI (getP s.t) k))):=by
 go_enter Tryz.func67,Tryz.ntmps67
 go_wp2_with fail;refine (r0g h hz hf k).mono ?_;rintro e w3 ⟨v,rfl,ho,hb3⟩;obtain ⟨l,hll⟩:=nm (rowF (valF (getP s.t) k));rw [← hll] at ho;have HG:Hid (getI (getP s.t) k=intF l):=hh (by rw [hll];rfl);have hrd:=RowRet.rd ho;have HB:=hh hb3;clear ho hll hb3;obtain ⟨ad,cap,rfl,c1,c2⟩:=hrd.shape;obtain ⟨n,hn⟩:=nm (l.length);rw [← hn] at c1 ⊢
 by_cases h5:n=1
 ·subst h5;obtain ⟨a,rfl⟩:=o0I hn.symm;obtain ⟨q,off,rfl,hq,t0⟩:=hrd.at 0 (by simp);replace t0:w3.cell? ⟨q,off,none⟩=some (.int .i64 a):=t0;clear hrd hn;go_wp2_with fail
  go_ret
  exact ⟨by rw [HG.out];rfl,HB.out⟩
 ·have h5':((n:Int) != 1)=true:=by rw [bne_iff_ne];omega
  have HG0:Hid (getI (getP s.t) k=0):=hh (by rw [HG.out,k0n (by omega)]);clear h5 hn hrd;go_wp2_with fail
  go_ret
  exact ⟨by rw [HG0.out];rfl,HB.out⟩

theorem e0y {w:World} {g:Nat} {s:PS} {F:List Nat} (h:St w g s F) (hz:s.sz < 1099511627776) (k:Txt) (n:Int) (hn:n < 9223372036854775808) :
  Calls Tryz.prog 38 #[.pointer (some ⟨g,0,none⟩),.string (bs k),.int .i64 n] w (StRet w g F (s.setInt k n) (.tuple #[])):=by
 have L:=hh (Liv.start h);have HZ:=hh hz;clear h hz
 by_cases h1:n < 1
 ·have hp:s.setInt k n=s.putv k []:=by unfold PS.setInt PS.putv;rw [if_pos h1,if_pos rfl]
  rw [hp];clear hp
  go_enter Tryz.func38,Tryz.ntmps38
  go_wp2_with fail;refine (L.out.call fun F h=>g0A h HZ.out k []).mono ?_;rintro e w1 ⟨rfl,L1,_⟩;have L1:=hh L1;go_wp2_with fail
  go_end0
  exact L1.out.ret
 ·have hp:s.setInt k n=s.putv k (numL n):=by
   unfold PS.setInt PS.putv
   rw [if_neg h1,if_neg (by intro e;have:=a0s n;rw [e] at this;cases this)]
  rw [hp];clear hp
  go_enter Tryz.func38,Tryz.ntmps38
  go_wp2_with fail;refine (j0S n _ (by omega) hn).mono ?_;rintro e w1 ⟨rfl,hb1⟩;have L1:=hh (L.out.later hb1);clear hb1 L;go_wp2_with fail;refine (L1.out.call fun F h=>g0A h HZ.out k (numL n)).mono ?_;rintro e w1 ⟨rfl,L1,_⟩;have L1:=hh L1;go_wp2_with fail
  go_end0
  exact L1.out.ret

theorem d0y {w:World} {g:Nat} {s:PS} {F:List Nat} (h:RS w g s F) (hz:s.sz < 1099511627776) (k:Txt) (n:Int) (hn:n < 9223372036854775808) :
  Calls Tryz.prog 100 #[.pointer (some ⟨g,0,none⟩),.string (bs k),.int .i64 n] w (RRet w g F (s.setInt k n) (.tuple #[])):=by
 have L:=hh (RLiv.start h);have HZ:=hh hz;clear h hz
 by_cases h1:n < 1
 ·have hp:s.setInt k n=s.del k:=by unfold PS.setInt;rw [if_pos h1]
  rw [hp];clear hp
  go_enter Tryz.func100,Tryz.ntmps100
  go_wp2_with fail;refine (L.out.call fun F h=>h0V h (by have:=HZ.out;unfold PS.sz at this;omega) (by have:=HZ.out;unfold PS.sz at this;omega) k).mono ?_;rintro e w1 ⟨rfl,L1,_⟩;have L1:=hh L1;go_wp2_with fail
  go_end0
  exact L1.out.ret
 ·have hp:s.setInt k n=s.set k (numL n):=by unfold PS.setInt;rw [if_neg h1]
  rw [hp];clear hp
  go_enter Tryz.func100,Tryz.ntmps100
  go_wp2_with fail;refine (e0t n _ (by omega) hn).mono ?_;rintro e w1 ⟨rfl,hb1⟩;have L1:=hh (L.out.later hb1);clear hb1 L;go_wp2_with fail;refine (L1.out.call fun F h=>f0e h (by have:=HZ.out;unfold PS.sz at this;omega) (by have:=HZ.out;unfold PS.sz at this;omega) k (numL n)).mono ?_;rintro e w1 ⟨rfl,L1,_⟩;have L1:=hh L1;go_wp2_with fail
  go_end0
  exact L1.out.ret

theorem q0E {w:World} {g:Nat} {s:PS} {F:List Nat} (h:St w g s F) (hz:s.sz < 1099511627776) (hf:Fit s) (k:Txt) :
  Calls Tryz.prog 120 #[.pointer (some ⟨g,0,none⟩),.string (bs k)] w (StRet w g F (s.setInt k (nextI (getI (getP s.t) k))) (.int .i64 (nextI (getI (getP s.t) k)))):=by
 have L:=hh (Liv.start h);have HZ:=hh hz
 go_enter Tryz.func120,Tryz.ntmps120
 go_wp2_with fail;refine (h0C (Look.of_st h) hf.f k).mono ?_;rintro e w1 ⟨rfl,hb1⟩;have L1:=hh (L.out.later hb1);have hbd:=b0d (getP s.t) k;obtain ⟨n,hn⟩:=nm (getI (getP s.t) k);rw [← hn] at hbd;have HN:=hh hn;rw [← hn];clear hn hb1 h hf hz L
 by_cases hm:n < 9223372036854775807
 ·have hx:nextI n=n+1:=if_pos hm;have HX:=hh hx;clear hx;go_wp2_with fail;refine (L1.out.call fun F h=>e0y h HZ.out k (n+1) (by omega)).mono ?_;rintro e w1 ⟨rfl,L1,_⟩;have L1:=hh L1;go_wp2_with fail
  go_ret
  rw [← HN.out,HX.out]
  exact L1.out.ret
 ·have hx:nextI n=n:=if_neg hm;have HX:=hh hx;clear hx;go_wp2_with fail;refine (L1.out.call fun F h=>e0y h HZ.out k n (by omega)).mono ?_;rintro e w1 ⟨rfl,L1,_⟩;have L1:=hh L1;go_wp2_with fail
  go_ret
  rw [← HN.out,HX.out]
  exact L1.out.ret

theorem p0r {w:World} {g:Nat} {s:PS} {F:List Nat} (h:RS w g s F) (hz:s.sz < 1099511627776) (hf:Fit s) (k:Txt) :
  Calls Tryz.prog 124 #[.pointer (some ⟨g,0,none⟩),.string (bs k)] w (RRet w g F (s.setInt k (nextI (getI (getP s.t) k))) (.int .i64 (nextI (getI (getP s.t) k)))):=by
 have L:=hh (RLiv.start h);have HZ:=hh hz
 go_enter Tryz.func124,Tryz.ntmps124
 go_wp2_with fail;refine (h0N h hz hf k).mono ?_;rintro e w1 ⟨rfl,hb1⟩;have L1:=hh (L.out.later hb1);have hbd:=b0d (getP s.t) k;obtain ⟨n,hn⟩:=nm (getI (getP s.t) k);rw [← hn] at hbd;have HN:=hh hn;rw [← hn];clear hn hb1 h hf hz L
 by_cases hm:n < 9223372036854775807
 ·have hx:nextI n=n+1:=if_pos hm;have HX:=hh hx;clear hx;go_wp2_with fail;refine (L1.out.call fun F h=>d0y h HZ.out k (n+1) (by omega)).mono ?_;rintro e w1 ⟨rfl,L1,_⟩;have L1:=hh L1;go_wp2_with fail
  go_ret
  rw [← HN.out,HX.out]
  exact L1.out.ret
 ·have hx:nextI n=n:=if_neg hm;have HX:=hh hx;clear hx;go_wp2_with fail;refine (L1.out.call fun F h=>d0y h HZ.out k n (by omega)).mono ?_;rintro e w1 ⟨rfl,L1,_⟩;have L1:=hh L1;go_wp2_with fail
  go_ret
  rw [← HN.out,HX.out]
  exact L1.out.ret
end
end Go.Proofs.YtakkfabaeolbdaaGreat
