/- The document's store in memory; place, Get, lay: no condition. lay, Set and Delete of the document's store: no condition. Set, Delete and Undo of the document's store: no condition. Undo of the document's store: no condition. Copy of the document's store: no condition. Same of the document's store: no condition. -/
import Derived.Test.YtakkfabaeolbdaaGreatCn23
namespace Go.Proofs.YtakkfabaeolbdaaGreat
section
set_option maxHeartbeats 1000000
open Go.RowKit

structure RAt (w:World) (g:Nat) (s:PS) (vL vP:Value):Prop where
 head:w.heap[g]? = some (.cells #[vL,vP] 85 (0,0))
 list:LO w 135 pairE 2 vL s.t
 past:LO w 259 wasE 3 vP s.past
 up:Up s.t
def rfoot (g:Nat) (vL vP:Value):List Nat:=g :: (vL.ownBlock.toList ++ vP.ownBlock.toList)
def RS (w:World) (g:Nat) (s:PS) (F:List Nat):Prop:=∃ vL vP,RAt w g s vL vP∧F=rfoot g vL vP
theorem b0v (g:Nat) (vL vP:Value) (x:Nat):x∈rfoot g vL vP↔x=g∨vL.ownBlock=some x∨vP.ownBlock=some x:=by
 unfold rfoot
 simp only [List.mem_cons,List.mem_append,Option.mem_toList]
theorem RAt.keep {w w':World} {g:Nat} {s:PS} {vL vP:Value} (h:RAt w g s vL vP) {S:Nat→Prop} (hk:Keep S w w') (hS:∀ x∈rfoot g vL vP,¬ S x):RAt w' g s vL vP where
 head:=hk.at h.head (hS g ((b0v _ _ _ _).2 (.inl rfl)))
 list:=h.list.keep hk fun k e=>hS k ((b0v _ _ _ _).2 (.inr (.inl e)))
 past:=h.past.keep hk fun k e=>hS k ((b0v _ _ _ _).2 (.inr (.inr e)))
 up:=h.up
theorem RS.keep {w w':World} {g:Nat} {s:PS} {F:List Nat} (h:RS w g s F) {S:Nat→Prop} (hk:Keep S w w') (hS:∀ x∈F,¬ S x):RS w' g s F:=by
 obtain ⟨vL,vP,h,rfl⟩:=h
 exact ⟨vL,vP,h.keep hk hS,rfl⟩
theorem RS.later {w w':World} {g:Nat} {s:PS} {F:List Nat} (h:RS w g s F) (hb:Below w.heap.size w w'):RS w' g s F:=
 h.keep (Keep.of_below (S:=fun _=>False) hb) fun _ _=>id
def rstKind (o:Obj):Bool:=match o with
 | .cells _ e (0,0)=>e == 85 || e == 135 || e == 259
 | _=>false
theorem RS.kind {w:World} {g:Nat} {s:PS} {F:List Nat} (h:RS w g s F):∀ x∈F,∃ o,w.heap[x]? = some o∧rstKind o=true:=by
 obtain ⟨vL,vP,h,rfl⟩:=h;intro x hx;rw [b0v] at hx
 rcases hx with rfl | hx | hx
 ·exact ⟨_,h.head,rfl⟩
 ·obtain ⟨cs,hc⟩:=h.list.kind hx;exact ⟨_,hc,rfl⟩
 ·obtain ⟨cs,hc⟩:=h.past.kind hx;exact ⟨_,hc,rfl⟩
theorem RS.lt {w:World} {g:Nat} {s:PS} {F:List Nat} (h:RS w g s F):∀ x∈F,x < w.heap.size:=by
 intro x hx;obtain ⟨o,ho,_⟩:=h.kind x hx
 exact a0b ho
theorem RS.up {w:World} {g:Nat} {s:PS} {F:List Nat} (h:RS w g s F):Up s.t:=by
 obtain ⟨_,_,h,_⟩:=h;exact h.up
theorem j0P (o:Obj) (h1:stoKind o=true) (h2:rstKind o=true):False:=by
 unfold rstKind at h2
 split at h2
 ·rename_i e
  unfold stoKind at h1
  simp at h1 h2
  rcases h2 with (rfl | rfl) | rfl<;>revert h1<;>decide
 ·cases h2
theorem e0P {w:World} {g g':Nat} {s s':PS} {F F':List Nat} (h:St w g s F) (h':RS w g' s' F'):∀ x∈F,x ∉ F':=by
 intro x hx hx';obtain ⟨o,ho,k1⟩:=h.kind x hx;obtain ⟨o',ho',k2⟩:=h'.kind x hx';rw [ho] at ho'
 cases ho'
 exact j0P o k1 k2
def RRet (w:World) (g:Nat) (F:List Nat) (s':PS) (v:Value) (e:Ending) (w':World):Prop:=
 e = .returned v∧∃ F',RS w' g s' F'∧Keep (·∈F) w w'∧∀ x∈F',x∈F∨w.heap.size≤x

theorem LO.pair {w:World} {e:TypeId} {ad:Option Addr} {n cap:Nat} {t:Tab} (h:LO w e pairE 2 (.slice ad n cap) t) (i:Nat) (hi:i < t.length) :
  ∃ g,ad=some ⟨g,0,none⟩∧g < w.heap.size∧w.cell? ⟨g,i*2,none⟩=some (.string (bs t[i].1))∧w.cell? ⟨g,i*2+1,none⟩=some (.string (bs t[i].2)):=by
 have hne:t≠[]:=by rintro rfl;simp at hi
 obtain ⟨g,c,cur,e1,hg,_⟩:=h.opened hne;have e2:=(Value.slice.inj e1).1;subst e2;obtain ⟨ax,cx,e3,_,_,h3⟩:=h.rd a0v;obtain ⟨b,off,e4,_,h5⟩:=h3 hne;have e5:=(Value.slice.inj e3).1.trans e4;simp only [Option.some.injEq,Addr.mk.injEq] at e5;obtain ⟨rfl,rfl,_⟩:=e5;refine ⟨g,rfl,a0b hg,?_,?_⟩
 ·have:=h5 i hi 0 (by omega);simpa [pairE] using this
 ·have:=h5 i hi 1 (by omega);simpa [pairE] using this

def PlaceRet (w:World) (t:Tab) (k:Txt) (e:Ending) (w':World):Prop:=∃ i:Nat,e = .returned (.int .i64 i)∧At (keysP t) k i∧w=w'
theorem g0M {w:World} {g:Nat} {s:PS} {F:List Nat} (h:RS w g s F) (hl:s.t.length < 4611686018427387904) (k:Txt) :
  Calls Tryz.prog 192 #[.pointer (some ⟨g,0,none⟩),.string (bs k)] w (PlaceRet w s.t k):=by
 obtain ⟨vL,vP,h,_⟩:=h;obtain ⟨ad,cap,hvL,h1,h2⟩:=h.list.shape;obtain ⟨n,hn⟩:=nm (s.t.length);rw [← hn] at hvL h1 hl;subst hvL;have c0:w.cell? ⟨g,0,none⟩=some (.slice ad n cap):=Lib.cell_of_heap h.head 0;have H:=hh h;have HN:=hh hn;have hkl:(keysP s.t).length=n:=by unfold keysP;rw [List.length_map,hn]
 have HKL:=hh hkl;have hku:UpK (keysP s.t):=e0f.2 h.up;have HKU:=hh hku;clear h hn hkl hku
 go_enter Tryz.func192,Tryz.ntmps192
 go_wp2_with fail
 go_loop [5] (fun v=>∃ i:Nat,v = .int .i64 i∧i≤n∧Hid (∀ q (hq:q < (keysP s.t).length),q < i→less (keysP s.t)[q] k=true)) (fun v=>n - (intOf v).toNat)
 case atStart=>exact ⟨0,rfl,Nat.zero_le _,hh fun q hq h=>absurd h (Nat.not_lt_zero _)⟩
 case round=>
  obtain ⟨i,rfl,hin,L⟩:=hrel
  by_cases hlt:i < n
  ·have hil:i < s.t.length:=by rw [← HN.out];exact hlt
   obtain ⟨gL,rfl,hgL,q0,q1⟩:=H.out.list.pair i hil;have hkk:(keysP s.t)[i]'(by rw [HKL.out];exact hlt)=s.t[i].1:=by simp [keysP]
   obtain ⟨x,hx⟩:=nm (s.t[i].1);rw [← hx] at q0 hkk;have HKK:=hh hkk;clear q1 hgL hx hkk
   cases hxk:less x k with
   | true=>
    have g1:Op.bytesLess (bs x).toList (bs k).toList=true:=by rw [a0j,a0j];exact hxk
    have L2:Hid (∀ q (hq:q < (keysP s.t).length),q < i+1→less (keysP s.t)[q] k=true):=hh fun q hq h=>by
     rcases Nat.lt_or_ge q i with h' | h'
     ·exact L.out q hq h'
     ·obtain rfl:q=i:=by omega
      rw [HKK.out];exact hxk
    clear hxk;go_wp2_with fail
    go_round
    case rel=>exact ⟨i+1,by go_num,by omega,L2⟩
    case measure=>simp [intOf];omega
   | false=>
    have g1:Op.bytesLess (bs x).toList (bs k).toList=false:=by rw [a0j,a0j];exact hxk
    have hat:At (keysP s.t) k i:=⟨by rw [HKL.out];exact hin,L.out,fun q hq h=>by
     rcases Nat.lt_or_ge i q with h' | h'
     ·cases hb:less (keysP s.t)[q] k with
      | false=>rfl
      | true=>
       have:=a0G (HKU.out.ne hq h') hb;rw [HKK.out,hxk] at this;cases this
     ·obtain rfl:q=i:=by omega
      rw [HKK.out];exact hxk⟩
    have HA:=hh hat;clear hxk hat;go_wp2_with fail
    go_ret
    exact ⟨i,rfl,HA.out,rfl⟩
  ·have hat:At (keysP s.t) k i:=⟨by rw [HKL.out];exact hin,L.out,fun q hq h=>by rw [HKL.out] at hq;omega⟩;have HA:=hh hat;clear hat;go_wp2_with fail
   go_ret
   exact ⟨i,rfl,HA.out,rfl⟩

theorem p0w {t:Tab} {k:Txt} {i:Nat} (hu:Up t) (ha:At (keysP t) k i):(∃ hi:i < t.length,t[i].1=k∧getP t k=some t[i].2)∨((∀ hi:i < t.length,t[i].1≠k)∧getP t k=none):=by
 have hkl:(keysP t).length=t.length:=by unfold keysP;rw [List.length_map]
 by_cases hm:k∈keysP t
 ·obtain ⟨hi,e⟩:=ha.there (e0f.2 hu) hm
  left
  have hi':i < t.length:=by rw [← hkl];exact hi
  have e2:t[i].1=k:=by rw [← e];simp [keysP]
  exact ⟨hi',e2,f0x hu (by rw [← e2];exact List.getElem_mem _)⟩
 ·right
  refine ⟨fun hi e=>hm (List.mem_map.2 ⟨_,List.getElem_mem hi,e⟩),?_⟩
  cases hg:getP t k with
  | none=>rfl
  | some v=>exact absurd (h0D.2 (by rw [hg];simp)) hm
theorem d0i {w:World} {g:Nat} {s:PS} {F:List Nat} (h:RS w g s F) (hl:s.t.length < 4611686018427387904) (k:Txt) :
  Calls Tryz.prog 148 #[.pointer (some ⟨g,0,none⟩),.string (bs k)] w fun e w'=>e = .returned (.tuple #[.string (bs ((getP s.t k).getD [])),.bool (getP s.t k).isSome])∧w=w':=by
 have HS:=hh h;obtain ⟨vL,vP,h,_⟩:=h;obtain ⟨ad,cap,hvL,h1,h2⟩:=h.list.shape;obtain ⟨n,hn⟩:=nm (s.t.length);have HL:=hh hl;rw [← hn] at hvL h1 hl;subst hvL;have c0:w.cell? ⟨g,0,none⟩=some (.slice ad n cap):=Lib.cell_of_heap h.head 0;have H:=hh h;have HN:=hh hn;clear h hn
 go_enter Tryz.func148,Tryz.ntmps148
 go_wp2_with fail;refine (g0M HS.out HL.out k).mono ?_;rintro e w1 ⟨i,rfl,ha,rfl⟩
 rcases p0w H.out.up ha with ⟨hi,e1,e2⟩ | ⟨e1,e2⟩
 ·obtain ⟨gL,rfl,hgL,q0,q1⟩:=H.out.list.pair i hi;rw [e1] at q0;obtain ⟨v,hv⟩:=nm (s.t[i].2);rw [← hv] at q1 e2;have g1:((bs k).toList == (bs k).toList)=true:=by simp
  have hin:i < n:=by rw [HN.out];exact hi
  have E2:=hh e2;clear hgL hv ha hi e1 e2;go_wp2_with fail
  go_ret2
  rw [E2.out]
  exact ⟨rfl,rfl⟩
 ·have E2:=hh e2;have hle:i≤n:=by have:=ha.le;unfold keysP at this;rw [List.length_map] at this;rw [HN.out];exact this
  by_cases hin:i < n
  ·have hi:i < s.t.length:=by rw [← HN.out];exact hin
   obtain ⟨gL,rfl,hgL,q0,q1⟩:=H.out.list.pair i hi;have g1:((bs s.t[i].1).toList == (bs k).toList)=false:=by rw [a0j,a0j,beq_eq_false_iff_ne];exact e1 hi
   obtain ⟨x,hx⟩:=nm (s.t[i].1);rw [← hx] at q0 g1;clear hgL hx ha hi e1 e2 q1;go_wp2_with fail
   go_ret2
   rw [E2.out]
   exact ⟨rfl,rfl⟩
  ·clear ha e1 e2;go_wp2_with fail
   go_ret2
   rw [E2.out]
   exact ⟨rfl,rfl⟩
end
section
set_option maxHeartbeats 8000000
set_option maxRecDepth 100000
open Go.RowKit

theorem p0s {p:Txt × Txt} {t:Tab} {k:Txt} {i:Nat} (h:At (keysP (p :: t)) k (i+1)):less p.1 k=true∧At (keysP t) k i:=by
 refine ⟨h.lo 0 (by simp [keysP]) (Nat.succ_pos _),⟨?_,fun j hj hji=>?_,fun j hj hij=>?_⟩⟩
 ·have:=h.le;simp [keysP] at this ⊢;omega
 ·exact h.lo (j+1) (by simp [keysP] at hj ⊢;omega) (by omega)
 ·exact h.hi (j+1) (by simp [keysP] at hj ⊢;omega) (by omega)
theorem k0N:∀ {t:Tab} {k:Txt} {i:Nat} (v:Txt),Up t→At (keysP t) k i→insP t k v=t.take i ++ (k,v) :: t.drop (if (getP t k).isSome=true then i+1 else i)
 | [],k,i,v,_,h=>by
  have:i=0:=by have:=h.le;simpa [keysP] using this
  subst this;rfl
 | p :: t,k,0,v,hu,h=>by
  have hp:=List.pairwise_cons.1 hu;have h0:=h.hi 0 (by simp [keysP]) (Nat.le_refl _);have h0':less p.1 k=false:=h0
  unfold insP
  rcases d0M h0' with e | e
  ·rw [if_pos e,a0T,if_pos e];rfl
  ·have hne:p.1≠k:=(b0I e).symm;have hnone:getP (p :: t) k=none:=b0f.2 fun q hq e2=>by
    rcases List.mem_cons.1 hq with rfl | hq
    ·exact hne e2
    ·have:=a0G e (hp.1 q hq);rw [e2,a0r] at this;cases this
   rw [if_neg hne,if_neg (by rw [h0'];simp),hnone];rfl
 | p :: t,k,i+1,v,hu,h=>by
  have hp:=List.pairwise_cons.1 hu;obtain ⟨h1,h2⟩:=p0s h
  unfold insP
  rw [if_neg (b0I h1),if_pos h1,k0N v hp.2 h2,a0T,if_neg (b0I h1)]
  split<;>rfl
theorem k0V:∀ {t:Tab} {k:Txt} {i:Nat},Up t→At (keysP t) k i→delP t k=t.take i ++ t.drop (if (getP t k).isSome=true then i+1 else i)
 | [],k,i,_,h=>by
  have:i=0:=by have:=h.le;simpa [keysP] using this
  subst this;rfl
 | p :: t,k,0,hu,h=>by
  have hp:=List.pairwise_cons.1 hu;have h0':less p.1 k=false:=h.hi 0 (by simp [keysP]) (Nat.le_refl _)
  rcases d0M h0' with e | e
  ·have h1:delP t k=t:=c0q (b0f.2 fun q hq e2=>by have:=hp.1 q hq;rw [e,e2,a0r] at this;cases this);have h2:delP (p :: t) k=delP t k:=by unfold delP;rw [List.filter_cons_of_neg (by simp [e])]
   rw [h2,h1,a0T,if_pos e];rfl
  ·have hne:p.1≠k:=(b0I e).symm;have hnone:getP (p :: t) k=none:=b0f.2 fun q hq e2=>by
    rcases List.mem_cons.1 hq with rfl | hq
    ·exact hne e2
    ·have:=a0G e (hp.1 q hq);rw [e2,a0r] at this;cases this
   rw [c0q hnone,hnone];rfl
 | p :: t,k,i+1,hu,h=>by
  have hp:=List.pairwise_cons.1 hu;obtain ⟨h1,h2⟩:=p0s h;have h3:delP (p :: t) k=p :: delP t k:=by unfold delP;rw [List.filter_cons_of_pos (by simp [b0I h1])]
  rw [h3,k0V hp.2 h2,a0T,if_neg (b0I h1)]
  split<;>rfl
theorem Tryz.sizePair:(Tryz.prog.info? 135).map (·.size)=some 2:=by kernel_rfl
theorem Tryz.infoRWas:(Tryz.prog.info? 259).map (fun i=>(i.zero,i.size,i.bytes))=some (some (.agg #[.string ⟨#[]⟩,.string ⟨#[]⟩,.bool false]),3,40):=by kernel_rfl

theorem b0s {w w4 w5:World} {g:Nat} {vL vP vL':Value} {s:PS} {t':Tab} (h0:RAt w g s vL vP) (hb:Below w.heap.size w w4) (hl:LO w4 135 pairE 2 vL' t') (ho:∀ k,vL'.ownBlock=some k→w.heap.size≤k) (hu:Up t')
  (h5:w5.heap[g]? = some (.cells #[vL',vP] 85 (0,0))) (k45:Keep (· = g) w4 w5) :
  RAt w5 g ⟨t',s.past⟩ vL' vP∧Keep (·∈rfoot g vL vP) w w5∧∀ x∈rfoot g vL' vP,x∈rfoot g vL vP∨w.heap.size≤x:=by
 have hg4:=(hb.block g (a0b h0.head)).trans h0.head;refine ⟨⟨h5,hl.keep k45 fun k e e2=>hl.apart hg4 (by decide) (by rw [e,e2]),(h0.past.later hb).keep k45 fun k e e2=>(h0.past.later hb).apart hg4 (by decide) (by rw [e,e2]),hu⟩,?_,?_⟩
 ·exact (Keep.of_below hb).then k45 fun x hx=>.inl ((b0v _ _ _ _).2 (.inl hx))
 ·intro x hx;rw [b0v] at hx ⊢
  rcases hx with h | h | h
  ·exact .inl (.inl h)
  ·exact .inr (ho x h)
  ·exact .inl (.inr (.inr h))
theorem f0i {w:World} {g:Nat} {s:PS} {F:List Nat} (h:RS w g s F) (hl:s.t.length < 1099511627776) (k v:Txt) (there:Bool) :
  Calls Tryz.prog 176 #[.pointer (some ⟨g,0,none⟩),.string (bs k),.string (bs v),.bool there] w (RRet w g F ⟨layP s.t k v there,s.past⟩ (.tuple #[])):=by
 have HS:=hh h;obtain ⟨vL,vP,h,rfl⟩:=h;obtain ⟨ad,cap,hvL,h1,h2⟩:=h.list.shape;obtain ⟨n,hn⟩:=nm (s.t.length);have HL:=hh hl;rw [← hn] at hvL h1 hl;have HVL:=hh hvL;have c0:w.cell? ⟨g,0,none⟩=some vL:=Lib.cell_of_heap h.head 0;rw [hvL] at c0;have H:=hh h;have HN:=hh hn;obtain ⟨ok,hok⟩:=nm ((getP s.t k).isSome);have HOK:=hh hok;clear h hn hok hvL
 go_enter Tryz.func176,Tryz.ntmps176
 go_wp2_with fail;refine (g0M HS.out (by have:=HL.out;omega) k).mono ?_;rintro e w1 ⟨i,rfl,ha,rfl⟩;have HA:=hh ha;have hle:i≤n:=by have:=ha.le;unfold keysP at this;rw [List.length_map] at this;rw [HN.out];exact this
 obtain ⟨j,hj⟩:=nm (if ok=true then i+1 else i);have hjn:j≤s.t.length:=by
  rw [hj]
  rcases p0w H.out.up ha with ⟨hi,_,e2⟩ | ⟨_,e2⟩
  ·split<;>omega
  ·have:ok=false:=by rw [HOK.out,e2];rfl
   have h9:=HN.out;rw [this,if_neg (by simp)];omega
 obtain ⟨vA,hA1,hA2,hA3⟩:=(H.out.list.rd a0v).upto (P:=Tryz.prog) (t:=81) Tryz.underlying81 Tryz.sizePair i (by rw [← HN.out];exact hle);obtain ⟨vB,hB1,hB2,hB3⟩:=(H.out.list.rd a0v).from (P:=Tryz.prog) (t:=81) Tryz.underlying81 Tryz.sizePair j hjn;rw [HVL.out] at hA1 hB1;have HA1:=hh hA1;have HB1:=hh hB1;have HA2:=hh hA2;have HB2:=hh hB2;have HJ:=hh hj;have HJN:=hh hjn;have hcase:(∃ hi:i < s.t.length,ok=true∧s.t[i].1=k)∨(ok=false∧∀ hi:i < s.t.length,s.t[i].1≠k):=by
  rcases p0w H.out.up ha with ⟨hi,e1,e2⟩ | ⟨e1,e2⟩
  ·exact .inl ⟨hi,by rw [HOK.out,e2];rfl,e1⟩
  ·exact .inr ⟨by rw [HOK.out,e2];rfl,e1⟩
 clear ha hA1 hA2 hA3 hB1 hB2 hB3 hj hjn
 rcases hcase with ⟨hi,hokt,e1⟩ | ⟨hokf,e1⟩
 ·subst hokt;have hji:j=i+1:=by rw [HJ.out];rfl
  subst hji;obtain ⟨gL,hadL,hgL,q0,q1⟩:=(HVL.out▸H.out.list).pair i hi;subst hadL;rw [e1] at q0;have g1:((bs k).toList == (bs k).toList)=true:=by simp
  have hin:i < n:=by rw [HN.out];exact hi
  clear hgL q1 hi e1;have hA1:=HA1.out;have hB1:∀ (w:World) (kl:IntKind),(Instr.slice 81 (.slice (some ⟨gL,0,none⟩) n cap) (some (.int kl ((i:Int)+1))) none none).run Tryz.prog w = .ok vB w:=fun w kl=>by
   have:=HB1.out w kl
   rwa [show ((i+1:Nat):Int)=(i:Int)+1 by omega] at this
  cases there with
  | true=>
   go_wp2_with (at_builtin;refine a0y (l2:=s.t.take i) (enc:=pairE) rfl _ _ 81 81 rfl Tryz.underlying81 Tryz.underlying81 Tryz.infoPair rfl (by decide) a0v (a0x _) (LO.nil w _ pairE 2) rfl _ rfl HA2.out (by have:=HL.out;unfold maxLen;simp [List.length_take];omega) (by have:=HL.out;simp [List.length_take];omega) ?_)
   intro v1 w1 r1 k1 m1;have hb1:Below w.heap.size w w1:=k1.none fun q _ e=>by cases e
   have ho1:∀ q,v1.ownBlock=some q→w.heap.size≤q:=by
    intro q e
    rcases m1 with h | ⟨q',h,h'⟩
    ·rw [h] at e;cases e
    ·rw [e] at h;cases h;exact h'
   have R1:=hh r1;have B1:=hh hb1;have O1:=hh ho1;clear r1 k1 m1 hb1 ho1;have cc:w1.cell? ⟨g,0,none⟩=_:=(B1.out.cell (p:=⟨g,0,none⟩) (a0b H.out.head)).trans c0;have hbal:Below w1.heap.size w1 (w1.alloc (.cells #[.string (bs k),.string (bs v)] 135)):=(Below.refl _ _).alloc (Nat.le_refl _) _;have HBAL:=hh hbal;clear hbal
   go_wp2_with (at_builtin;refine d0x (enc:=pairE) rfl _ _ 81 81 rfl Tryz.underlying81 Tryz.underlying81 Tryz.infoPair rfl (by decide) a0v (R1.out.later HBAL.out) rfl (k,v) (a0x [(k,v)] _ List.mem_cons_self) w1.heap.size #[.string (bs k),.string (bs v)] 135 (heap_alloc_new _ _) rfl rfl (by have:=HL.out;unfold maxLen;simp [List.length_take];omega) (by have:=HL.out;simp [List.length_take];omega) ?_)
   intro v2 w2 r2 k2 m2;have hb2:Below w.heap.size w w2:=(B1.out.trans (HBAL.out.mono B1.out.size)).trans (k2.below (B:=w.heap.size) (fun q hq e=>by have:=O1.out q e;omega) (Nat.le_trans B1.out.size HBAL.out.size));have ho2:∀ q,v2.ownBlock=some q→w.heap.size≤q:=by
    intro q e
    rcases m2 with h | ⟨q',h,h'⟩
    ·exact O1.out q (by rw [← h];exact e)
    ·rw [e] at h;cases h;exact Nat.le_trans (Nat.le_trans B1.out.size HBAL.out.size) h'
   have R2:=hh r2;have B2:=hh hb2;have O2:=hh ho2;clear r2 k2 m2 hb2 ho2 cc;have cc:w2.cell? ⟨g,0,none⟩=_:=(B2.out.cell (p:=⟨g,0,none⟩) (a0b H.out.head)).trans c0
   go_wp2_with (at_builtin;refine a0y (l2:=s.t.drop (i+1)) (enc:=pairE) rfl _ _ 81 81 rfl Tryz.underlying81 Tryz.underlying81 Tryz.infoPair rfl (by decide) a0v (a0x _) R2.out rfl _ rfl (HB2.out.later B2.out) (by have:=HL.out;unfold maxLen;simp [List.length_take];omega) (by have:=HL.out;simp [List.length_take];omega) ?_)
   intro v3 w3 r3 k3 m3;have hb3:Below w.heap.size w w3:=B2.out.trans (k3.below (B:=w.heap.size) (fun q hq e=>by have:=O2.out q e;omega) B2.out.size);have ho3:∀ q,v3.ownBlock=some q→w.heap.size≤q:=by
    intro q e
    rcases m3 with h | ⟨q',h,h'⟩
    ·exact O2.out q (by rw [← h];exact e)
    ·rw [e] at h;cases h;exact Nat.le_trans B2.out.size h'
   have hlist:s.t.take i ++ (k,v) :: s.t.drop (i+1)=layP s.t k v true:=by
    unfold layP
    have h9:=HOK.out;rw [if_pos rfl,k0N v H.out.up HA.out,← h9]
    simp
   rw [hlist] at r3;have hg3:=(hb3.block g (a0b H.out.head)).trans H.out.head;obtain ⟨ad3,cap3,hv3,_,_⟩:=r3.shape;obtain ⟨n3,hn3⟩:=nm ((layP s.t k v true).length);rw [← hn3] at hv3;clear hn3;subst hv3;have R3:=hh r3;have B3:=hh hb3;have O3:=hh ho3;have G3:=hh hg3;clear r3 k3 m3 hb3 ho3 hlist hg3 cc
   go_wp2_with (refine a0h rfl 81 _ _ rfl g 0 _ rfl rfl rfl rfl 85 _ G3.out (by kernel_rfl) (by simp) _ rfl ?_)
   intro w5 h5 k5 _;have hcl:=b0s H.out B3.out R3.out O3.out (b0L H.out.up k v true) h5 k5;have HCL:=hh hcl;clear hcl h5 k5;go_wp2_with fail
   go_end0
   exact ⟨rfl,_,⟨_,_,HCL.out.1,rfl⟩,HCL.out.2.1,HCL.out.2.2⟩
  | false=>
   go_wp2_with (at_builtin;refine a0y (l2:=s.t.take i) (enc:=pairE) rfl _ _ 81 81 rfl Tryz.underlying81 Tryz.underlying81 Tryz.infoPair rfl (by decide) a0v (a0x _) (LO.nil w _ pairE 2) rfl _ rfl HA2.out (by have:=HL.out;unfold maxLen;simp [List.length_take];omega) (by have:=HL.out;simp [List.length_take];omega) ?_)
   intro v1 w1 r1 k1 m1;have hb1:Below w.heap.size w w1:=k1.none fun q _ e=>by cases e
   have ho1:∀ q,v1.ownBlock=some q→w.heap.size≤q:=by
    intro q e
    rcases m1 with h | ⟨q',h,h'⟩
    ·rw [h] at e;cases e
    ·rw [e] at h;cases h;exact h'
   have R1:=hh r1;have B1:=hh hb1;have O1:=hh ho1;clear r1 k1 m1 hb1 ho1;have cc:w1.cell? ⟨g,0,none⟩=_:=(B1.out.cell (p:=⟨g,0,none⟩) (a0b H.out.head)).trans c0;obtain ⟨v2,hv2⟩:=nm (v1);obtain ⟨w2,hw2⟩:=nm (w1);rw [← hv2,← hw2];have r2:LO w2 135 pairE 2 v2 (s.t.take i):=by rw [hv2,hw2];exact R1.out
   have hb2:Below w.heap.size w w2:=by rw [hw2];exact B1.out
   have ho2:∀ q,v2.ownBlock=some q→w.heap.size≤q:=by rw [hv2];exact O1.out
   clear hv2 hw2 cc;have R2:=hh r2;have B2:=hh hb2;have O2:=hh ho2;clear r2 hb2 ho2;have cc:w2.cell? ⟨g,0,none⟩=_:=(B2.out.cell (p:=⟨g,0,none⟩) (a0b H.out.head)).trans c0
   go_wp2_with (at_builtin;refine a0y (l2:=s.t.drop (i+1)) (enc:=pairE) rfl _ _ 81 81 rfl Tryz.underlying81 Tryz.underlying81 Tryz.infoPair rfl (by decide) a0v (a0x _) R2.out rfl _ rfl (HB2.out.later B2.out) (by have:=HL.out;unfold maxLen;simp [List.length_take];omega) (by have:=HL.out;simp [List.length_take];omega) ?_)
   intro v3 w3 r3 k3 m3;have hb3:Below w.heap.size w w3:=B2.out.trans (k3.below (B:=w.heap.size) (fun q hq e=>by have:=O2.out q e;omega) B2.out.size);have ho3:∀ q,v3.ownBlock=some q→w.heap.size≤q:=by
    intro q e
    rcases m3 with h | ⟨q',h,h'⟩
    ·exact O2.out q (by rw [← h];exact e)
    ·rw [e] at h;cases h;exact Nat.le_trans B2.out.size h'
   have hlist:s.t.take i ++ s.t.drop (i+1)=layP s.t k v false:=by
    unfold layP
    have h9:=HOK.out;rw [if_neg (by simp),k0V H.out.up HA.out,← h9]
    simp
   rw [hlist] at r3;have hg3:=(hb3.block g (a0b H.out.head)).trans H.out.head;obtain ⟨ad3,cap3,hv3,_,_⟩:=r3.shape;obtain ⟨n3,hn3⟩:=nm ((layP s.t k v false).length);rw [← hn3] at hv3;clear hn3;subst hv3;have R3:=hh r3;have B3:=hh hb3;have O3:=hh ho3;have G3:=hh hg3;clear r3 k3 m3 hb3 ho3 hlist hg3 cc
   go_wp2_with (refine a0h rfl 81 _ _ rfl g 0 _ rfl rfl rfl rfl 85 _ G3.out (by kernel_rfl) (by simp) _ rfl ?_)
   intro w5 h5 k5 _;have hcl:=b0s H.out B3.out R3.out O3.out (b0L H.out.up k v false) h5 k5;have HCL:=hh hcl;clear hcl h5 k5;go_wp2_with fail
   go_end0
   exact ⟨rfl,_,⟨_,_,HCL.out.1,rfl⟩,HCL.out.2.1,HCL.out.2.2⟩
 ·subst hokf;have hji:j=i:=by rw [HJ.out];rfl
  subst hji;have hA1:=HA1.out;have hB1:=HB1.out
  by_cases hin:j < n
  ·have hi:j < s.t.length:=by rw [← HN.out];exact hin
   obtain ⟨gL,hadL,hgL,q0,q1⟩:=(HVL.out▸H.out.list).pair j hi;subst hadL;have g1:((bs s.t[j].1).toList == (bs k).toList)=false:=by rw [a0j,a0j,beq_eq_false_iff_ne];exact e1 hi
   obtain ⟨x,hx⟩:=nm (s.t[j].1);rw [← hx] at q0 g1;clear hgL q1 hi e1 hx
   cases there with
   | true=>
    go_wp2_with (at_builtin;refine a0y (l2:=s.t.take j) (enc:=pairE) rfl _ _ 81 81 rfl Tryz.underlying81 Tryz.underlying81 Tryz.infoPair rfl (by decide) a0v (a0x _) (LO.nil w _ pairE 2) rfl _ rfl HA2.out (by have:=HL.out;unfold maxLen;simp [List.length_take];omega) (by have:=HL.out;simp [List.length_take];omega) ?_)
    intro v1 w1 r1 k1 m1;have hb1:Below w.heap.size w w1:=k1.none fun q _ e=>by cases e
    have ho1:∀ q,v1.ownBlock=some q→w.heap.size≤q:=by
     intro q e
     rcases m1 with h | ⟨q',h,h'⟩
     ·rw [h] at e;cases e
     ·rw [e] at h;cases h;exact h'
    have R1:=hh r1;have B1:=hh hb1;have O1:=hh ho1;clear r1 k1 m1 hb1 ho1;have cc:w1.cell? ⟨g,0,none⟩=_:=(B1.out.cell (p:=⟨g,0,none⟩) (a0b H.out.head)).trans c0;have hbal:Below w1.heap.size w1 (w1.alloc (.cells #[.string (bs k),.string (bs v)] 135)):=(Below.refl _ _).alloc (Nat.le_refl _) _;have HBAL:=hh hbal;clear hbal
    go_wp2_with (at_builtin;refine d0x (enc:=pairE) rfl _ _ 81 81 rfl Tryz.underlying81 Tryz.underlying81 Tryz.infoPair rfl (by decide) a0v (R1.out.later HBAL.out) rfl (k,v) (a0x [(k,v)] _ List.mem_cons_self) w1.heap.size #[.string (bs k),.string (bs v)] 135 (heap_alloc_new _ _) rfl rfl (by have:=HL.out;unfold maxLen;simp [List.length_take];omega) (by have:=HL.out;simp [List.length_take];omega) ?_)
    intro v2 w2 r2 k2 m2;have hb2:Below w.heap.size w w2:=(B1.out.trans (HBAL.out.mono B1.out.size)).trans (k2.below (B:=w.heap.size) (fun q hq e=>by have:=O1.out q e;omega) (Nat.le_trans B1.out.size HBAL.out.size));have ho2:∀ q,v2.ownBlock=some q→w.heap.size≤q:=by
     intro q e
     rcases m2 with h | ⟨q',h,h'⟩
     ·exact O1.out q (by rw [← h];exact e)
     ·rw [e] at h;cases h;exact Nat.le_trans (Nat.le_trans B1.out.size HBAL.out.size) h'
    have R2:=hh r2;have B2:=hh hb2;have O2:=hh ho2;clear r2 k2 m2 hb2 ho2 cc;have cc:w2.cell? ⟨g,0,none⟩=_:=(B2.out.cell (p:=⟨g,0,none⟩) (a0b H.out.head)).trans c0
    go_wp2_with (at_builtin;refine a0y (l2:=s.t.drop j) (enc:=pairE) rfl _ _ 81 81 rfl Tryz.underlying81 Tryz.underlying81 Tryz.infoPair rfl (by decide) a0v (a0x _) R2.out rfl _ rfl (HB2.out.later B2.out) (by have:=HL.out;unfold maxLen;simp [List.length_take];omega) (by have:=HL.out;simp [List.length_take];omega) ?_)
    intro v3 w3 r3 k3 m3;have hb3:Below w.heap.size w w3:=B2.out.trans (k3.below (B:=w.heap.size) (fun q hq e=>by have:=O2.out q e;omega) B2.out.size);have ho3:∀ q,v3.ownBlock=some q→w.heap.size≤q:=by
     intro q e
     rcases m3 with h | ⟨q',h,h'⟩
     ·exact O2.out q (by rw [← h];exact e)
     ·rw [e] at h;cases h;exact Nat.le_trans B2.out.size h'
    have hlist:s.t.take j ++ (k,v) :: s.t.drop j=layP s.t k v true:=by
     unfold layP
     have h9:=HOK.out;rw [if_pos rfl,k0N v H.out.up HA.out,← h9]
     simp
    rw [hlist] at r3;have hg3:=(hb3.block g (a0b H.out.head)).trans H.out.head;obtain ⟨ad3,cap3,hv3,_,_⟩:=r3.shape;obtain ⟨n3,hn3⟩:=nm ((layP s.t k v true).length);rw [← hn3] at hv3;clear hn3;subst hv3;have R3:=hh r3;have B3:=hh hb3;have O3:=hh ho3;have G3:=hh hg3;clear r3 k3 m3 hb3 ho3 hlist hg3 cc
    go_wp2_with (refine a0h rfl 81 _ _ rfl g 0 _ rfl rfl rfl rfl 85 _ G3.out (by kernel_rfl) (by simp) _ rfl ?_)
    intro w5 h5 k5 _;have hcl:=b0s H.out B3.out R3.out O3.out (b0L H.out.up k v true) h5 k5;have HCL:=hh hcl;clear hcl h5 k5;go_wp2_with fail
    go_end0
    exact ⟨rfl,_,⟨_,_,HCL.out.1,rfl⟩,HCL.out.2.1,HCL.out.2.2⟩
   | false=>
    go_wp2_with (at_builtin;refine a0y (l2:=s.t.take j) (enc:=pairE) rfl _ _ 81 81 rfl Tryz.underlying81 Tryz.underlying81 Tryz.infoPair rfl (by decide) a0v (a0x _) (LO.nil w _ pairE 2) rfl _ rfl HA2.out (by have:=HL.out;unfold maxLen;simp [List.length_take];omega) (by have:=HL.out;simp [List.length_take];omega) ?_)
    intro v1 w1 r1 k1 m1;have hb1:Below w.heap.size w w1:=k1.none fun q _ e=>by cases e
    have ho1:∀ q,v1.ownBlock=some q→w.heap.size≤q:=by
     intro q e
     rcases m1 with h | ⟨q',h,h'⟩
     ·rw [h] at e;cases e
     ·rw [e] at h;cases h;exact h'
    have R1:=hh r1;have B1:=hh hb1;have O1:=hh ho1;clear r1 k1 m1 hb1 ho1;have cc:w1.cell? ⟨g,0,none⟩=_:=(B1.out.cell (p:=⟨g,0,none⟩) (a0b H.out.head)).trans c0;obtain ⟨v2,hv2⟩:=nm (v1);obtain ⟨w2,hw2⟩:=nm (w1);rw [← hv2,← hw2];have r2:LO w2 135 pairE 2 v2 (s.t.take j):=by rw [hv2,hw2];exact R1.out
    have hb2:Below w.heap.size w w2:=by rw [hw2];exact B1.out
    have ho2:∀ q,v2.ownBlock=some q→w.heap.size≤q:=by rw [hv2];exact O1.out
    clear hv2 hw2 cc;have R2:=hh r2;have B2:=hh hb2;have O2:=hh ho2;clear r2 hb2 ho2;have cc:w2.cell? ⟨g,0,none⟩=_:=(B2.out.cell (p:=⟨g,0,none⟩) (a0b H.out.head)).trans c0
    go_wp2_with (at_builtin;refine a0y (l2:=s.t.drop j) (enc:=pairE) rfl _ _ 81 81 rfl Tryz.underlying81 Tryz.underlying81 Tryz.infoPair rfl (by decide) a0v (a0x _) R2.out rfl _ rfl (HB2.out.later B2.out) (by have:=HL.out;unfold maxLen;simp [List.length_take];omega) (by have:=HL.out;simp [List.length_take];omega) ?_)
    intro v3 w3 r3 k3 m3;have hb3:Below w.heap.size w w3:=B2.out.trans (k3.below (B:=w.heap.size) (fun q hq e=>by have:=O2.out q e;omega) B2.out.size);have ho3:∀ q,v3.ownBlock=some q→w.heap.size≤q:=by
     intro q e
     rcases m3 with h | ⟨q',h,h'⟩
     ·exact O2.out q (by rw [← h];exact e)
     ·rw [e] at h;cases h;exact Nat.le_trans B2.out.size h'
    have hlist:s.t=layP s.t k v false:=by
     unfold layP
     have h9:=HOK.out;rw [if_neg (by simp),k0V H.out.up HA.out,← h9]
     simp
    rw [hlist] at r3;have hg3:=(hb3.block g (a0b H.out.head)).trans H.out.head;obtain ⟨ad3,cap3,hv3,_,_⟩:=r3.shape;obtain ⟨n3,hn3⟩:=nm ((layP s.t k v false).length);rw [← hn3] at hv3;clear hn3;subst hv3;have R3:=hh r3;have B3:=hh hb3;have O3:=hh ho3;have G3:=hh hg3;clear r3 k3 m3 hb3 ho3 hlist hg3 cc
    go_wp2_with (refine a0h rfl 81 _ _ rfl g 0 _ rfl rfl rfl rfl 85 _ G3.out (by kernel_rfl) (by simp) _ rfl ?_)
    intro w5 h5 k5 _;have hcl:=b0s H.out B3.out R3.out O3.out (b0L H.out.up k v false) h5 k5;have HCL:=hh hcl;clear hcl h5 k5;go_wp2_with fail
    go_end0
    exact ⟨rfl,_,⟨_,_,HCL.out.1,rfl⟩,HCL.out.2.1,HCL.out.2.2⟩
  ·clear e1
   cases there with
   | true=>
    go_wp2_with (at_builtin;refine a0y (l2:=s.t.take j) (enc:=pairE) rfl _ _ 81 81 rfl Tryz.underlying81 Tryz.underlying81 Tryz.infoPair rfl (by decide) a0v (a0x _) (LO.nil w _ pairE 2) rfl _ rfl HA2.out (by have:=HL.out;unfold maxLen;simp [List.length_take];omega) (by have:=HL.out;simp [List.length_take];omega) ?_)
    intro v1 w1 r1 k1 m1;have hb1:Below w.heap.size w w1:=k1.none fun q _ e=>by cases e
    have ho1:∀ q,v1.ownBlock=some q→w.heap.size≤q:=by
     intro q e
     rcases m1 with h | ⟨q',h,h'⟩
     ·rw [h] at e;cases e
     ·rw [e] at h;cases h;exact h'
    have R1:=hh r1;have B1:=hh hb1;have O1:=hh ho1;clear r1 k1 m1 hb1 ho1;have cc:w1.cell? ⟨g,0,none⟩=_:=(B1.out.cell (p:=⟨g,0,none⟩) (a0b H.out.head)).trans c0;have hbal:Below w1.heap.size w1 (w1.alloc (.cells #[.string (bs k),.string (bs v)] 135)):=(Below.refl _ _).alloc (Nat.le_refl _) _;have HBAL:=hh hbal;clear hbal
    go_wp2_with (at_builtin;refine d0x (enc:=pairE) rfl _ _ 81 81 rfl Tryz.underlying81 Tryz.underlying81 Tryz.infoPair rfl (by decide) a0v (R1.out.later HBAL.out) rfl (k,v) (a0x [(k,v)] _ List.mem_cons_self) w1.heap.size #[.string (bs k),.string (bs v)] 135 (heap_alloc_new _ _) rfl rfl (by have:=HL.out;unfold maxLen;simp [List.length_take];omega) (by have:=HL.out;simp [List.length_take];omega) ?_)
    intro v2 w2 r2 k2 m2;have hb2:Below w.heap.size w w2:=(B1.out.trans (HBAL.out.mono B1.out.size)).trans (k2.below (B:=w.heap.size) (fun q hq e=>by have:=O1.out q e;omega) (Nat.le_trans B1.out.size HBAL.out.size));have ho2:∀ q,v2.ownBlock=some q→w.heap.size≤q:=by
     intro q e
     rcases m2 with h | ⟨q',h,h'⟩
     ·exact O1.out q (by rw [← h];exact e)
     ·rw [e] at h;cases h;exact Nat.le_trans (Nat.le_trans B1.out.size HBAL.out.size) h'
    have R2:=hh r2;have B2:=hh hb2;have O2:=hh ho2;clear r2 k2 m2 hb2 ho2 cc;have cc:w2.cell? ⟨g,0,none⟩=_:=(B2.out.cell (p:=⟨g,0,none⟩) (a0b H.out.head)).trans c0
    go_wp2_with (at_builtin;refine a0y (l2:=s.t.drop j) (enc:=pairE) rfl _ _ 81 81 rfl Tryz.underlying81 Tryz.underlying81 Tryz.infoPair rfl (by decide) a0v (a0x _) R2.out rfl _ rfl (HB2.out.later B2.out) (by have:=HL.out;unfold maxLen;simp [List.length_take];omega) (by have:=HL.out;simp [List.length_take];omega) ?_)
    intro v3 w3 r3 k3 m3;have hb3:Below w.heap.size w w3:=B2.out.trans (k3.below (B:=w.heap.size) (fun q hq e=>by have:=O2.out q e;omega) B2.out.size);have ho3:∀ q,v3.ownBlock=some q→w.heap.size≤q:=by
     intro q e
     rcases m3 with h | ⟨q',h,h'⟩
     ·exact O2.out q (by rw [← h];exact e)
     ·rw [e] at h;cases h;exact Nat.le_trans B2.out.size h'
    have hlist:s.t.take j ++ (k,v) :: s.t.drop j=layP s.t k v true:=by
     unfold layP
     have h9:=HOK.out;rw [if_pos rfl,k0N v H.out.up HA.out,← h9]
     simp
    rw [hlist] at r3;have hg3:=(hb3.block g (a0b H.out.head)).trans H.out.head;obtain ⟨ad3,cap3,hv3,_,_⟩:=r3.shape;obtain ⟨n3,hn3⟩:=nm ((layP s.t k v true).length);rw [← hn3] at hv3;clear hn3;subst hv3;have R3:=hh r3;have B3:=hh hb3;have O3:=hh ho3;have G3:=hh hg3;clear r3 k3 m3 hb3 ho3 hlist hg3 cc
    go_wp2_with (refine a0h rfl 81 _ _ rfl g 0 _ rfl rfl rfl rfl 85 _ G3.out (by kernel_rfl) (by simp) _ rfl ?_)
    intro w5 h5 k5 _;have hcl:=b0s H.out B3.out R3.out O3.out (b0L H.out.up k v true) h5 k5;have HCL:=hh hcl;clear hcl h5 k5;go_wp2_with fail
    go_end0
    exact ⟨rfl,_,⟨_,_,HCL.out.1,rfl⟩,HCL.out.2.1,HCL.out.2.2⟩
   | false=>
    go_wp2_with (at_builtin;refine a0y (l2:=s.t.take j) (enc:=pairE) rfl _ _ 81 81 rfl Tryz.underlying81 Tryz.underlying81 Tryz.infoPair rfl (by decide) a0v (a0x _) (LO.nil w _ pairE 2) rfl _ rfl HA2.out (by have:=HL.out;unfold maxLen;simp [List.length_take];omega) (by have:=HL.out;simp [List.length_take];omega) ?_)
    intro v1 w1 r1 k1 m1;have hb1:Below w.heap.size w w1:=k1.none fun q _ e=>by cases e
    have ho1:∀ q,v1.ownBlock=some q→w.heap.size≤q:=by
     intro q e
     rcases m1 with h | ⟨q',h,h'⟩
     ·rw [h] at e;cases e
     ·rw [e] at h;cases h;exact h'
    have R1:=hh r1;have B1:=hh hb1;have O1:=hh ho1;clear r1 k1 m1 hb1 ho1;have cc:w1.cell? ⟨g,0,none⟩=_:=(B1.out.cell (p:=⟨g,0,none⟩) (a0b H.out.head)).trans c0;obtain ⟨v2,hv2⟩:=nm (v1);obtain ⟨w2,hw2⟩:=nm (w1);rw [← hv2,← hw2];have r2:LO w2 135 pairE 2 v2 (s.t.take j):=by rw [hv2,hw2];exact R1.out
    have hb2:Below w.heap.size w w2:=by rw [hw2];exact B1.out
    have ho2:∀ q,v2.ownBlock=some q→w.heap.size≤q:=by rw [hv2];exact O1.out
    clear hv2 hw2 cc;have R2:=hh r2;have B2:=hh hb2;have O2:=hh ho2;clear r2 hb2 ho2;have cc:w2.cell? ⟨g,0,none⟩=_:=(B2.out.cell (p:=⟨g,0,none⟩) (a0b H.out.head)).trans c0
    go_wp2_with (at_builtin;refine a0y (l2:=s.t.drop j) (enc:=pairE) rfl _ _ 81 81 rfl Tryz.underlying81 Tryz.underlying81 Tryz.infoPair rfl (by decide) a0v (a0x _) R2.out rfl _ rfl (HB2.out.later B2.out) (by have:=HL.out;unfold maxLen;simp [List.length_take];omega) (by have:=HL.out;simp [List.length_take];omega) ?_)
    intro v3 w3 r3 k3 m3;have hb3:Below w.heap.size w w3:=B2.out.trans (k3.below (B:=w.heap.size) (fun q hq e=>by have:=O2.out q e;omega) B2.out.size);have ho3:∀ q,v3.ownBlock=some q→w.heap.size≤q:=by
     intro q e
     rcases m3 with h | ⟨q',h,h'⟩
     ·exact O2.out q (by rw [← h];exact e)
     ·rw [e] at h;cases h;exact Nat.le_trans B2.out.size h'
    have hlist:s.t=layP s.t k v false:=by
     unfold layP
     have h9:=HOK.out;rw [if_neg (by simp),k0V H.out.up HA.out,← h9]
     simp
    rw [hlist] at r3;have hg3:=(hb3.block g (a0b H.out.head)).trans H.out.head;obtain ⟨ad3,cap3,hv3,_,_⟩:=r3.shape;obtain ⟨n3,hn3⟩:=nm ((layP s.t k v false).length);rw [← hn3] at hv3;clear hn3;subst hv3;have R3:=hh r3;have B3:=hh hb3;have O3:=hh ho3;have G3:=hh hg3;clear r3 k3 m3 hb3 ho3 hlist hg3 cc
    go_wp2_with (refine a0h rfl 81 _ _ rfl g 0 _ rfl rfl rfl rfl 85 _ G3.out (by kernel_rfl) (by simp) _ rfl ?_)
    intro w5 h5 k5 _;have hcl:=b0s H.out B3.out R3.out O3.out (b0L H.out.up k v false) h5 k5;have HCL:=hh hcl;clear hcl h5 k5;go_wp2_with fail
    go_end0
    exact ⟨rfl,_,⟨_,_,HCL.out.1,rfl⟩,HCL.out.2.1,HCL.out.2.2⟩
end
section
set_option maxHeartbeats 8000000
set_option maxRecDepth 100000
open Go.RowKit

theorem c0u {w w3 w4 w5:World} {g:Nat} {vL vP vP':Value} {s:PS} {p':List WasP} (h0:RAt w g s vL vP) (hb:Below w.heap.size w w3) (hp:LO w4 259 wasE 3 vP' p') (k34:Keep (fun k=>vP.ownBlock=some k) w3 w4) (hm:vP'.ownBlock=vP.ownBlock∨∀ k,vP'.ownBlock=some k→w.heap.size≤k)
  (h5:w5.heap[g]? = some (.cells #[vL,vP'] 85 (0,0))) (k45:Keep (· = g) w4 w5) :
  RAt w5 g ⟨s.t,p'⟩ vL vP'∧Keep (·∈rfoot g vL vP) w w5∧∀ x∈rfoot g vL vP',x∈rfoot g vL vP∨w.heap.size≤x:=by
 have hg3:=(hb.block g (a0b h0.head)).trans h0.head;have hl3:=h0.list.later hb;have hp3:=h0.past.later hb;have hg4:=k34.at hg3 (hp3.apart hg3 (by decide));have hl4:=hl3.keep k34 fun k e e2=>by
  obtain ⟨cs,hc⟩:=hl3.kind e
  exact hp3.apart hc (by decide) e2
 refine ⟨⟨h5,hl4.keep k45 fun k e e2=>hl4.apart hg4 (by decide) (by rw [e,e2]),hp.keep k45 fun k e e2=>hp.apart hg4 (by decide) (by rw [e,e2]),h0.up⟩,?_,?_⟩
 ·refine ((Keep.of_below hb).then k34 ?_).then k45 ?_
  ·intro x hx;exact .inl ((b0v _ _ _ _).2 (.inr (.inr hx)))
  ·intro x hx;exact .inl ((b0v _ _ _ _).2 (.inl hx))
 ·intro x hx;rw [b0v] at hx ⊢
  rcases hx with h | h | h
  ·exact .inl (.inl h)
  ·exact .inl (.inr (.inl h))
  ·rcases hm with hm | hm
   ·rw [hm] at h;exact .inl (.inr (.inr h))
   ·exact .inr (hm x h)
theorem RRet.then {w w1 w2:World} {g:Nat} {F F1:List Nat} {s2:PS} {v:Value} {e:Ending} (hk:Keep (·∈F) w w1) (hf:∀ x∈F1,x∈F∨w.heap.size≤x) (h:RRet w1 g F1 s2 v e w2):RRet w g F s2 v e w2:=by
 obtain ⟨he,F2,h1,h2,h3⟩:=h;refine ⟨he,F2,h1,hk.then h2 hf,fun x hx=>?_⟩
 rcases h3 x hx with h | h
 ·exact hf x h
 ·exact .inr (Nat.le_trans hk.size h)

theorem f0e {w:World} {g:Nat} {s:PS} {F:List Nat} (h:RS w g s F) (htl:s.t.length < 1099511627776) (hpl:s.past.length < 1099511627776) (k v:Txt) :
  Calls Tryz.prog 126 #[.pointer (some ⟨g,0,none⟩),.string (bs k),.string (bs v)] w (RRet w g F (s.set k v) (.int .i64 (setE k))):=by
 have HS:=hh h;obtain ⟨vL,vP,h,rfl⟩:=h;obtain ⟨ad,cap,hvP,h1,h2⟩:=h.past.shape;obtain ⟨n,hn⟩:=nm (s.past.length);rw [← hn] at hvP h1 hpl;subst hvP;have c1:w.cell? ⟨g,1,none⟩=some (.slice ad n cap):=Lib.cell_of_heap h.head 1;obtain ⟨ok,hok⟩:=nm ((getP s.t k).isSome);obtain ⟨old,hold⟩:=nm ((getP s.t k).getD []);have H:=hh h;have HN:=hh hn;have HTL:=hh htl;have HOK:=hh hok;have HOLD:=hh hold;clear h hn htl hok hold
 by_cases hk:k = []
 ·have je:(bs k).toList.isEmpty=true:=by rw [a0j,hk];rfl
  have hres:s.set k v=s:=by unfold PS.set;rw [if_pos (.inl hk)]
  have hE:setE k=2:=by unfold setE;rw [if_pos hk]
  rw [hres,hE];clear hk hres hE
  go_enter Tryz.func126,Tryz.ntmps126
  go_wp2_with fail
  go_ret
  exact ⟨rfl,_,HS.out,Keep.refl _ _,fun x hx=>.inl hx⟩
 have je:(bs k).toList.isEmpty=false:=by rw [a0j];cases k with | nil=>exact absurd rfl hk | cons _ _=>rfl
 have hE:setE k=0:=by unfold setE;rw [if_neg hk]
 rw [hE]
 by_cases hsame:getP s.t k=some v
 ·have hres:s.set k v=s:=by unfold PS.set;rw [if_pos (.inr hsame)]
  have ho:old=v:=by rw [HOLD.out,hsame];rfl
  have hk1:ok=true:=by rw [HOK.out,hsame];rfl
  have jv:((bs old).toList == (bs v).toList)=true:=by rw [ho];simp
  rw [hres];clear hk hres hE ho hsame;subst hk1
  go_enter Tryz.func126,Tryz.ntmps126
  go_wp2_with fail;refine (d0i HS.out (by have:=HTL.out;omega) k).mono ?_;rintro e w1 ⟨rfl,rfl⟩;rw [← HOK.out,← HOLD.out];go_wp2_with fail
  go_ret
  exact ⟨rfl,_,HS.out,Keep.refl _ _,fun x hx=>.inl hx⟩
 have hres:s.set k v=s.put k v true:=by unfold PS.set;rw [if_neg (by rintro (h | h);exact hk h;exact hsame h)]
 have hput:s.put k v true=⟨layP s.t k v true,s.past ++ [(k,old,ok)]⟩:=by unfold PS.put;rw [← HOLD.out,← HOK.out]
 rw [hres,hput];have hn2:n < 1099511627776:=hpl;have hjv:ok=true→((bs old).toList == (bs v).toList)=false:=by
  intro e;rw [a0j,a0j];rw [beq_eq_false_iff_ne];intro e2
  apply hsame
  have h3:=HOK.out;rw [e] at h3
  cases hg:getP s.t k with
  | none=>rw [hg] at h3;cases h3
  | some z=>have:=HOLD.out;rw [hg] at this;rw [← e2,this];rfl
 clear hk hres hput hE hsame
 go_enter Tryz.func126,Tryz.ntmps126
 go_wp2_with fail;refine (d0i HS.out (by have:=HTL.out;omega) k).mono ?_;rintro e w1 ⟨rfl,rfl⟩;rw [← HOK.out,← HOLD.out];have HJ:=hh hjv;clear hjv
 cases ok with
 | true=>
  have jv:=HJ.out rfl;have hbal:Below w.heap.size w (w.alloc (.cells #[.string (bs k),.string (bs old),.bool true] 259)):=(Below.refl _ _).alloc (Nat.le_refl _) _;have HBAL:=hh hbal;clear hbal
  go_wp2_with (at_builtin;refine d0x (enc:=wasE) rfl _ _ 83 83 rfl Tryz.underlying83 Tryz.underlying83 Tryz.infoRWas rfl (by decide) b0w (H.out.past.later HBAL.out) rfl (k,old,true) (c0f [(k,old,true)] _ List.mem_cons_self) w.heap.size #[.string (bs k),.string (bs old),.bool true] 259 (heap_alloc_new _ _) rfl rfl (by have:=HN.out;unfold maxLen;omega) (by have:=HN.out;omega) ?_)
  intro vP' w4 r1 k4 m4;obtain ⟨ad',cap',hvp',_,_⟩:=r1.shape;obtain ⟨n',hn'⟩:∃ n',n'=(s.past ++ [(k,old,true)]).length:=⟨_,rfl⟩;rw [← hn'] at hvp';clear hn';subst hvp';have hg4:w4.heap[g]? = some (.cells #[vL,.slice ad n cap] 85 (0,0)):=by
   have hg3:=(HBAL.out.block g (a0b H.out.head)).trans H.out.head
   exact k4.at hg3 ((H.out.past.later HBAL.out).apart hg3 (by decide))
  have hm4:Value.ownBlock (.slice ad' n' cap')=Value.ownBlock (.slice ad n cap)∨∀ q,Value.ownBlock (.slice ad' n' cap')=some q→w.heap.size≤q:=by
   rcases m4 with h | ⟨q,h,h'⟩
   ·exact .inl h
   ·right
    intro q' e;rw [e] at h;cases h
    exact Nat.le_trans HBAL.out.size h'
  have R1:=hh r1;have K4:=hh k4;have M4:=hh hm4;have G4:=hh hg4;clear r1 k4 m4 hm4 hg4
  go_wp2_with (refine a0h rfl 83 _ _ rfl g 1 _ rfl rfl rfl rfl 85 _ G4.out (by kernel_rfl) (by simp) _ rfl ?_)
  intro w5 h5 k45 _;have hcl:=c0u H.out HBAL.out R1.out K4.out M4.out h5 k45;have HCL:=hh hcl;clear h5 k45 hcl;go_wp2_with fail;refine (f0i (F:=rfoot g vL (.slice ad' n' cap')) ⟨_,_,HCL.out.1,rfl⟩ HTL.out k v true).mono ?_;intro e w6 hr;have hr2:=RRet.then HCL.out.2.1 HCL.out.2.2 hr;obtain ⟨rfl,hr3⟩:=hr2;have HR3:=hh hr3;clear hr hr3;go_wp2_with fail
  go_ret
  exact ⟨rfl,HR3.out⟩
 | false=>
  have hbal:Below w.heap.size w (w.alloc (.cells #[.string (bs k),.string (bs old),.bool false] 259)):=(Below.refl _ _).alloc (Nat.le_refl _) _;have HBAL:=hh hbal;clear hbal
  go_wp2_with (at_builtin;refine d0x (enc:=wasE) rfl _ _ 83 83 rfl Tryz.underlying83 Tryz.underlying83 Tryz.infoRWas rfl (by decide) b0w (H.out.past.later HBAL.out) rfl (k,old,false) (c0f [(k,old,false)] _ List.mem_cons_self) w.heap.size #[.string (bs k),.string (bs old),.bool false] 259 (heap_alloc_new _ _) rfl rfl (by have:=HN.out;unfold maxLen;omega) (by have:=HN.out;omega) ?_)
  intro vP' w4 r1 k4 m4;obtain ⟨ad',cap',hvp',_,_⟩:=r1.shape;obtain ⟨n',hn'⟩:∃ n',n'=(s.past ++ [(k,old,false)]).length:=⟨_,rfl⟩;rw [← hn'] at hvp';clear hn';subst hvp';have hg4:w4.heap[g]? = some (.cells #[vL,.slice ad n cap] 85 (0,0)):=by
   have hg3:=(HBAL.out.block g (a0b H.out.head)).trans H.out.head
   exact k4.at hg3 ((H.out.past.later HBAL.out).apart hg3 (by decide))
  have hm4:Value.ownBlock (.slice ad' n' cap')=Value.ownBlock (.slice ad n cap)∨∀ q,Value.ownBlock (.slice ad' n' cap')=some q→w.heap.size≤q:=by
   rcases m4 with h | ⟨q,h,h'⟩
   ·exact .inl h
   ·right
    intro q' e;rw [e] at h;cases h
    exact Nat.le_trans HBAL.out.size h'
  have R1:=hh r1;have K4:=hh k4;have M4:=hh hm4;have G4:=hh hg4;clear r1 k4 m4 hm4 hg4
  go_wp2_with (refine a0h rfl 83 _ _ rfl g 1 _ rfl rfl rfl rfl 85 _ G4.out (by kernel_rfl) (by simp) _ rfl ?_)
  intro w5 h5 k45 _;have hcl:=c0u H.out HBAL.out R1.out K4.out M4.out h5 k45;have HCL:=hh hcl;clear h5 k45 hcl;go_wp2_with fail;refine (f0i (F:=rfoot g vL (.slice ad' n' cap')) ⟨_,_,HCL.out.1,rfl⟩ HTL.out k v true).mono ?_;intro e w6 hr;have hr2:=RRet.then HCL.out.2.1 HCL.out.2.2 hr;obtain ⟨rfl,hr3⟩:=hr2;have HR3:=hh hr3;clear hr hr3;go_wp2_with fail
  go_ret
  exact ⟨rfl,HR3.out⟩

theorem h0V {w:World} {g:Nat} {s:PS} {F:List Nat} (h:RS w g s F) (htl:s.t.length < 1099511627776) (hpl:s.past.length < 1099511627776) (k:Txt) :
  Calls Tryz.prog 170 #[.pointer (some ⟨g,0,none⟩),.string (bs k)] w (RRet w g F (s.del k) (.bool (getP s.t k).isSome)):=by
 have HS:=hh h;obtain ⟨vL,vP,h,rfl⟩:=h;obtain ⟨ad,cap,hvP,h1,h2⟩:=h.past.shape;obtain ⟨n,hn⟩:=nm (s.past.length);rw [← hn] at hvP h1 hpl;subst hvP;have c1:w.cell? ⟨g,1,none⟩=some (.slice ad n cap):=Lib.cell_of_heap h.head 1;obtain ⟨ok,hok⟩:=nm ((getP s.t k).isSome);obtain ⟨old,hold⟩:=nm ((getP s.t k).getD []);have H:=hh h;have HN:=hh hn;have HTL:=hh htl;have HOK:=hh hok;have HOLD:=hh hold;rw [← hok];clear h hn htl hok hold;have hn2:n < 1099511627776:=hpl
 cases ok with
 | false=>
  have hres:s.del k=s:=by unfold PS.del;rw [if_pos (by have:=HOK.out;cases hg:getP s.t k with | none=>rfl | some _=>rw [hg] at this;cases this)]
  rw [hres];clear hres
  go_enter Tryz.func170,Tryz.ntmps170
  go_wp2_with fail;refine (d0i HS.out (by have:=HTL.out;omega) k).mono ?_;rintro e w1 ⟨rfl,rfl⟩;rw [← HOK.out,← HOLD.out];go_wp2_with fail
  go_ret
  exact ⟨rfl,_,HS.out,Keep.refl _ _,fun x hx=>.inl hx⟩
 | true=>
  have hres:s.del k=s.put k [] false:=by unfold PS.del;rw [if_neg (by intro e;have:=HOK.out;rw [e] at this;cases this)]
  have hput:s.put k [] false=⟨layP s.t k [] false,s.past ++ [(k,old,true)]⟩:=by unfold PS.put;rw [← HOLD.out,← HOK.out]
  rw [hres,hput];clear hres hput
  go_enter Tryz.func170,Tryz.ntmps170
  go_wp2_with fail;refine (d0i HS.out (by have:=HTL.out;omega) k).mono ?_;rintro e w1 ⟨rfl,rfl⟩;rw [← HOK.out,← HOLD.out];have hbal:Below w.heap.size w (w.alloc (.cells #[.string (bs k),.string (bs old),.bool true] 259)):=(Below.refl _ _).alloc (Nat.le_refl _) _;have HBAL:=hh hbal;clear hbal
  go_wp2_with (at_builtin;refine d0x (enc:=wasE) rfl _ _ 83 83 rfl Tryz.underlying83 Tryz.underlying83 Tryz.infoRWas rfl (by decide) b0w (H.out.past.later HBAL.out) rfl (k,old,true) (c0f [(k,old,true)] _ List.mem_cons_self) w.heap.size #[.string (bs k),.string (bs old),.bool true] 259 (heap_alloc_new _ _) rfl rfl (by have:=HN.out;unfold maxLen;omega) (by have:=HN.out;omega) ?_)
  intro vP' w4 r1 k4 m4;obtain ⟨ad',cap',hvp',_,_⟩:=r1.shape;obtain ⟨n',hn'⟩:∃ n',n'=(s.past ++ [(k,old,true)]).length:=⟨_,rfl⟩;rw [← hn'] at hvp';clear hn';subst hvp';have hg4:w4.heap[g]? = some (.cells #[vL,.slice ad n cap] 85 (0,0)):=by
   have hg3:=(HBAL.out.block g (a0b H.out.head)).trans H.out.head
   exact k4.at hg3 ((H.out.past.later HBAL.out).apart hg3 (by decide))
  have hm4:Value.ownBlock (.slice ad' n' cap')=Value.ownBlock (.slice ad n cap)∨∀ q,Value.ownBlock (.slice ad' n' cap')=some q→w.heap.size≤q:=by
   rcases m4 with h | ⟨q,h,h'⟩
   ·exact .inl h
   ·right
    intro q' e;rw [e] at h;cases h
    exact Nat.le_trans HBAL.out.size h'
  have R1:=hh r1;have K4:=hh k4;have M4:=hh hm4;have G4:=hh hg4;clear r1 k4 m4 hm4 hg4
  go_wp2_with (refine a0h rfl 83 _ _ rfl g 1 _ rfl rfl rfl rfl 85 _ G4.out (by kernel_rfl) (by simp) _ rfl ?_)
  intro w5 h5 k45 _;have hcl:=c0u H.out HBAL.out R1.out K4.out M4.out h5 k45;have HCL:=hh hcl;clear h5 k45 hcl;go_wp2_with fail;refine (f0i (F:=rfoot g vL (.slice ad' n' cap')) ⟨_,_,HCL.out.1,rfl⟩ HTL.out k [] false).mono ?_;intro e w6 hr;have hr2:=RRet.then HCL.out.2.1 HCL.out.2.2 hr;obtain ⟨rfl,hr3⟩:=hr2;have HR3:=hh hr3;clear hr hr3;go_wp2_with fail
  go_ret
  exact ⟨rfl,HR3.out⟩
end
section
set_option maxHeartbeats 8000000
set_option maxRecDepth 100000
open Go.RowKit

theorem Tryz.sizeRWas:(Tryz.prog.info? 259).map (·.size)=some 3:=by kernel_rfl
theorem h'keep {w w':World} {g:Nat} {s:PS} {vL vP:Value} (h:RAt w g s vL vP) (hb:Below w.heap.size w w'):RAt w' g s vL vP:=
 ⟨(hb.block g (a0b h.head)).trans h.head,h.list.later hb,h.past.later hb,h.up⟩
def rpastLen (w:World) (g:Nat):Nat:=match w.cell? ⟨g,1,none⟩ with
 | some (.slice _ n _)=>n
 | _=>0
theorem d0r {P:Program} {o:Oper} {a:Act} {w:World} {K:Act→World→Prop} {Q:Exit→Act→World→Prop} (ty:TypeId) (x y:Operand) (ho:o.op = .store ty x y)
  (g:Nat) (cells:Array Value) (hx:a.eval x = .pointer (some ⟨g,0,none⟩)) (hy:a.eval y = .agg cells)
  (t:TypeId) (old:Array Value) (hg:w.heap[g]? = some (.cells old t (0,0))) (hi:(P.info? ty).map (·.size)=some cells.size)
  (hold:old.size=cells.size) (h1:cells.all (·.oneCell')=true)
  (h:∀ w',w'.heap[g]? = some (.cells cells t (0,0))→Keep (· = g) w w'→w'.heap.size=w.heap.size→K (a.put o.dst undef) w'):o.wp P a w K Q:=
 wp_store_row ty x y ho g cells hx hy t old hg hi hold h1 (h _ (setRow_heap _ _ _ _ _ _ hg) (Keep.setRow (S:=(· = g)) (Keep.refl _ _) (.inl rfl) _) (setRow_size _ _ _))
theorem f0L {w:World} {g:Nat} {s:PS} {F:List Nat} (h:RS w g s F):rpastLen w g=s.past.length:=by
 obtain ⟨vL,vP,h,rfl⟩:=h;obtain ⟨ad,cap,hvp,h1,h2⟩:=h.past.shape
 unfold rpastLen
 rw [show w.cell? ⟨g,1,none⟩=some vP from Lib.cell_of_heap h.head 1,hvp]

theorem f0W {w:World} {g:Nat} {s:PS} {F:List Nat} (h:RS w g s F) (htl:s.t.length+s.past.length < 1099511627776) (m:Int) :
  Calls Tryz.prog 112 #[.pointer (some ⟨g,0,none⟩),.int .i64 m] w (RRet w g F (s.undo m) (.bool (undoE s m))):=by
 have HST:=hh h;obtain ⟨vL,vP,h,hF⟩:=h;obtain ⟨ad,cap,hvp,h1,h2⟩:=h.past.shape;obtain ⟨n,hn⟩:=nm (s.past.length);rw [← hn] at hvp h1 htl;subst hvp;have c1:w.cell? ⟨g,1,none⟩=some (.slice ad n cap):=Lib.cell_of_heap h.head 1;have HH:=hh h.head;have HN:=hh hn;have HTL:=hh htl;clear h hF
 by_cases hm:0≤m∧m≤n
 ·obtain ⟨hm0,hm1⟩:=hm;have hE:undoE s m=true:=by unfold undoE;rw [← hn];simp;omega
  have hU:s.undo m=PS.backs (n - m.toNat) s:=by unfold PS.undo;rw [hE,if_pos rfl,← hn]
  rw [hE,hU];obtain ⟨k,rfl⟩:=Int.eq_ofNat_of_zero_le hm0;rw [Int.toNat_natCast];have hkn:k≤n:=by omega
  have j0:decide ((k:Int) < 0)=false:=by simp
  have j1:¬ n < k:=by omega
  clear hE hU hm0 hm1 hn
  go_enter Tryz.func112,Tryz.ntmps112
  go_wp2_with fail;clear j0 j1
  go_loopw [5] (fun _ wr=>∃ j F',j≤n - k∧Hid (RS wr g (PS.backs j s) F')∧Hid (Keep (·∈F) w wr)∧Hid (∀ x∈F',x∈F∨w.heap.size≤x)) (fun _ wr=>rpastLen wr g - k)
  case atStart=>exact ⟨0,F,Nat.zero_le _,HST,hh (Keep.refl _ _),hh fun x hx=>.inl hx⟩
  case round=>
   obtain ⟨j,F',hj,HS,HK,HF⟩:=hrel;obtain ⟨s',hs'⟩:∃ s',s'=PS.backs j s:=⟨_,rfl⟩;rw [← hs'] at HS;have hpl:s'.past.length=n - j:=by rw [hs',e0u,← HN.out]
   have htl:s'.t.length < 1099511627776:=by have h3:=c0O j s;rw [← hs'] at h3;have:=HTL.out;omega
   obtain ⟨vL',vP',h',hF'⟩:=HS.out;have hmeas:rpastLen wr g=s'.past.length:=f0L HS.out;obtain ⟨ad',cap',hvp',e1,e2⟩:=h'.past.shape;obtain ⟨q,hq⟩:=nm (s'.past.length);rw [← hq] at hvp' e1 hpl hmeas;have HB:=hh hs';have HT:=hh htl;have HQ:=hh hq;have HME:=hh hmeas;have HF':=hh hF';have HPL:=hh hpl;subst hvp';have H':=hh h';have c1':wr.cell? ⟨g,1,none⟩=some (.slice ad' q cap'):=Lib.cell_of_heap h'.head 1;clear hs' htl hq hmeas hF' h' c1 hpl
   by_cases hlt:k < q
   ·obtain ⟨l,rfl⟩:∃ l,q=l+1:=⟨q - 1,by omega⟩;have hne:s'.past≠[]:=by intro e;have:=HQ.out;rw [e] at this;simp at this
    obtain ⟨init,r,hir⟩:∃ init r,s'.past=init ++ [r]:=⟨_,_,(List.dropLast_concat_getLast hne).symm⟩;have hil:init.length=l:=by have:=HQ.out;rw [hir,List.length_append] at this;simp at this;omega
    obtain ⟨gp,cap2,cur,hv2,hgp,d1,d2,d3,d4⟩:=H'.out.past.opened hne;have hadc:ad'=some ⟨gp,0,none⟩∧cap'=cap2:=⟨(Value.slice.inj hv2).1,(Value.slice.inj hv2).2.2⟩;obtain ⟨rfl,rfl⟩:=hadc;have hcell:∀ i,i < 3→wr.cell? ⟨gp,l*3+i,none⟩=(wasE r)[i]?:=by
     intro i hi;obtain ⟨ax,cx,e3,_,_,h3⟩:=H'.out.past.rd b0w;obtain ⟨b,off,e4,_,h5⟩:=h3 hne;have e5:=(Value.slice.inj e3).1.trans e4;simp only [Option.some.injEq,Addr.mk.injEq] at e5;obtain ⟨rfl,rfl,_⟩:=e5;have h6:=h5 l (by have:=HQ.out;omega) i hi;have h7:s'.past[l]'(by have:=HQ.out;omega)=r:=by
      have:s'.past[l]? = some r:=by rw [hir,List.getElem?_append_right (by omega),hil];simp
      rw [List.getElem?_eq_getElem (by have:=HQ.out;omega)] at this
      exact Option.some.inj this
     rw [h7,Nat.zero_add] at h6
     exact h6
    have q0:wr.cell? ⟨gp,l*3,none⟩=some (.string (bs r.1)):=hcell 0 (by omega);have q1:wr.cell? ⟨gp,l*3+1,none⟩=some (.string (bs r.2.1)):=hcell 1 (by omega);have q2:wr.cell? ⟨gp,l*3+2,none⟩=some (.bool r.2.2):=hcell 2 (by omega);have HIR:=hh hir;have HIL:=hh hil;have hcm:((l+1:Nat):Int)=(l:Int)+1:=by omega
    have hwl:IntKind.i64.wrap (l:Int)=(l:Int):=IntWalk.i64_in _ (by have:=HTL.out;have:=HPL.out;omega);have hll:(l:Int) < (l:Int)+1:=by omega
    have hl40:l < 1099511627776:=by have:=HTL.out;have:=HPL.out;omega
    have HQS:Hid (wr.cell? ⟨g,1,none⟩=some (.slice (some ⟨gp,0,none⟩) (l+1) cap')∧wr.cell? ⟨gp,l*3,none⟩=some (.string (bs r.1))∧wr.cell? ⟨gp,l*3+1,none⟩=some (.string (bs r.2.1))∧wr.cell? ⟨gp,l*3+2,none⟩=some (.bool r.2.2)):=hh ⟨c1',q0,q1,q2⟩;have HGP:=hh (a0b hgp);clear hcell hir hil hv2 hgp d1 d2 d3 d4 hne q0 q1 q2;go_wp2_with fail;have hS:=HQS.out;refine a0f (fun w'=>w'.cell? ⟨g,1,none⟩=some (.slice (some ⟨gp,0,none⟩) (l+1) cap')∧w'.cell? ⟨gp,l*3,none⟩=some (.string (bs r.1))∧w'.cell? ⟨gp,l*3+1,none⟩=some (.string (bs r.2.1))∧w'.cell? ⟨gp,l*3+2,none⟩=some (.bool r.2.2)) 13 14 (by kernel_rfl) rfl ?_;have HAdr:=hh (Below.drew (Below.refl wr.heap.size wr));refine tA1 0 24 hS ?_;go_frame;refine tA1 1 25 hS ?_;go_frame;refine tA1 2 26 hS ?_;go_frame;refine tk 3 (some 27) rfl rfl (.inl ⟨by rfl,fun w' hS'=>(by have hc:w'.cell? ⟨g,1,none⟩=_:=hS'.1;go_simp;rfl)⟩) hS ?_;go_frame;refine tA1 4 28 hS ?_;go_frame;refine tA1 5 29 hS ?_;go_frame;refine tA1 6 30 hS ?_;go_frame;refine tk 7 (some 31) rfl rfl (.inl ⟨by rfl,fun w' hS'=>(by have hc:w'.cell? ⟨g,1,none⟩=_:=hS'.1;go_simp;rfl)⟩) hS ?_;go_frame;refine tA1 8 32 hS ?_;go_frame;refine tA1 9 33 hS ?_;go_frame;refine tA1 10 34 hS ?_;go_frame
    refine tk 11 (some 35) rfl rfl (.inl ⟨by rfl,fun w' hS'=>(by have hc:w'.cell? ⟨gp,l*3,none⟩=_:=hS'.2.1;have hc1:w'.cell? ⟨gp,l*3+1,none⟩=_:=hS'.2.2.1;have hc2:w'.cell? ⟨gp,l*3+2,none⟩=_:=hS'.2.2.2;go_simp;rfl)⟩) hS ?_;go_frame;refine t1 12 fun K hK=>?_
    simp only [gA,jB,gC];go_simp;obtain ⟨w1,hw1⟩:=nm ((wr.alloc (.cells #[.string (bs []),.string (bs []),.bool false] 259)).drew);obtain ⟨R,hRR⟩:=nm (wr.heap.size);rw [show (wr.alloc (Obj.cells #[Value.string { data:=#[] },Value.string { data:=#[] },Value.bool false] 259)).drew=w1 from hw1.symm,← hRR];have hb1:Below wr.heap.size wr w1:=by rw [hw1];exact ((Below.refl _ _).alloc (Nat.le_refl _) _).drew
    have hr1:w1.heap[R]? = some (.cells #[.string (bs []),.string (bs []),.bool false] 259 (0,0)):=by rw [hw1,hRR];exact heap_alloc_new _ _
    refine hK _ _ (fun _ _=>⟨(hb1.cell (p:=⟨g,1,none⟩) (a0b H'.out.head)).trans hS.1,(hb1.cell (p:=⟨gp,l*3,none⟩) HGP.out).trans hS.2.1,(hb1.cell (p:=⟨gp,l*3+1,none⟩) HGP.out).trans hS.2.2.1,(hb1.cell (p:=⟨gp,l*3+2,none⟩) HGP.out).trans hS.2.2.2⟩) ?_;have HB1:=hh hb1;have HR1:=hh hr1;have HRR:=hh hRR;clear hK hw1 hb1 hr1 hRR hS;refine t1 13 fun K hK=>?_
    simp only [gA,jB,gC];refine d0r (t:=259) (old:=#[.string (bs []),.string (bs []),.bool false]) 259 _ _ rfl R #[.string (bs r.1),.string (bs r.2.1),.bool r.2.2] rfl rfl HR1.out Tryz.sizeRWas rfl (by simp [Value.oneCell']) ?_;intro w2 h2' k12 z12;refine hK _ _ (fun h=>absurd rfl h) ?_;refine tD ?_;have hb12:Below wr.heap.size wr w2:=HB1.out.trans (k12.below (B:=wr.heap.size) (fun x hx e=>by have:=HRR.out;omega) HB1.out.size);have H2:=hh (h'keep H'.out hb12);have HW2:=hh h2';have HB12:=hh hb12;clear hK h2' k12 z12 hb12 c1';have c1':w2.cell? ⟨g,1,none⟩=some (.slice (some ⟨gp,0,none⟩) (l+1) cap'):=Lib.cell_of_heap H2.out.head 1;have hlc:(l:Int)≤(cap':Int):=by omega
    have hlc2:(l:Int)≤(l:Int)+1:=by omega
    go_wp2_with fail;have hS:(fun w':World=>w'.cell? ⟨g,1,none⟩=some (.slice (some ⟨gp,0,none⟩) (l+1) cap')) w2.drew:=c1';refine a0f (fun w'=>w'.cell? ⟨g,1,none⟩=some (.slice (some ⟨gp,0,none⟩) (l+1) cap')) 14 15 (by kernel_rfl) rfl ?_;refine tA1 0 36 hS ?_;go_frame;refine tA1 1 37 hS ?_;go_frame;refine tA1 2 38 hS ?_;go_frame;refine tA1 3 39 hS ?_;go_frame;refine tk 4 (some 40) rfl rfl (.inl ⟨by rfl,fun w' hS'=>(by have hc:w'.cell? ⟨g,1,none⟩=_:=hS';go_simp;rfl)⟩) hS ?_;go_frame;refine tA1 5 41 hS ?_;go_frame;refine tA1 6 42 hS ?_;go_frame;refine tA1 7 43 hS ?_;go_frame;refine tk 8 (some 44) rfl rfl (.inl ⟨by rfl,fun w' hS'=>(by have hc:w'.cell? ⟨g,1,none⟩=_:=hS';go_simp;rfl)⟩) hS ?_;go_frame;refine tA1 9 45 hS ?_;go_frame;refine tA1 10 46 hS ?_;go_frame;refine tA1 11 47 hS ?_;go_frame;refine tA1 12 48 hS ?_;go_frame;refine tA1 13 49 hS ?_;go_frame;refine t1 14 fun K hK=>?_
    simp only [gA,jB,gC];refine a0q 83 _ _ rfl g 1 _ rfl rfl rfl rfl 85 _ H2.out.head (by kernel_rfl) (by simp) _ rfl ?_;intro w3 h3 k23 z23;refine hK _ _ (fun h=>absurd rfl h) ?_;refine tD ?_;have hb12d:Below wr.heap.size wr w2.drew:=HB12.out.drew;have hcut:LO w2.drew 259 wasE 3 (.slice (some ⟨gp,0,none⟩) l cap') init:=by
     have h4:=(H2.out.past.later ((Below.refl w2.heap.size w2).drew)).cut b0w l cap' (by omega) (by omega) (Nat.le_refl _);rw [HIR.out,List.take_left' HIL.out] at h4
     exact h4
    have hcl:=c0u (w:=wr) (w3:=w2.drew) (w4:=w2.drew) (vP':=.slice (some ⟨gp,0,none⟩) l cap') (p':=init) H'.out hb12d hcut (Keep.refl _ _) (.inl rfl) h3 k23;have hr3:w3.heap[R]? = some (.cells #[.string (bs r.1),.string (bs r.2.1),.bool r.2.2] 259 (0,0)):=k23.at HW2.out (by have:=HRR.out;have:=a0b H'.out.head;omega);have HC3:=hh hcl;have HR3:=hh hr3;clear hK hS h3 k23 z23 hcut hcl hr3 c1' hlc hlc2 hb12d;have r0:w3.cell? ⟨R,0,none⟩=some (.string (bs r.1)):=Lib.cell_of_heap HR3.out 0;have r1:w3.cell? ⟨R,1,none⟩=some (.string (bs r.2.1)):=Lib.cell_of_heap HR3.out 1;have r2:w3.cell? ⟨R,2,none⟩=some (.bool r.2.2):=Lib.cell_of_heap HR3.out 2;go_wp2_with fail;refine (f0i (F:=rfoot g vL' (.slice (some ⟨gp,0,none⟩) l cap')) ⟨_,_,HC3.out.1,rfl⟩ HT.out r.1 r.2.1 r.2.2).mono ?_;intro e w6 hr;have hr2:=RRet.then HC3.out.2.1 HC3.out.2.2 hr;obtain ⟨rfl,F6,h6,k6,f6⟩:=hr2;have hback:s'.back=⟨layP s'.t r.1 r.2.1 r.2.2,init⟩:=by
     unfold PS.back
     rw [HIR.out,List.getLast?_append]
     simp
    have hst6:RS w6 g (PS.backs (j+1) s) F6:=by
     rw [e0v,← HB.out,hback]
     exact h6
    have hk6:Keep (·∈F) w w6:=HK.out.then k6 fun x hx=>HF.out x (by rw [HF'.out];exact hx)
    have hf7:∀ x∈F6,x∈F∨w.heap.size≤x:=by
     intro x hx
     rcases f6 x hx with h | h
     ·exact HF.out x (by rw [HF'.out];exact h)
     ·exact .inr (Nat.le_trans HK.out.size h)
    have hme:rpastLen w6 g=l:=by rw [f0L h6];exact HIL.out
    have S6:=hh hst6;have K6:=hh hk6;have F6h:=hh hf7;have M6:=hh hme;clear hr h6 k6 f6 hback hst6 hk6 hf7 hme r0 r1 r2;go_wp2_with fail
    go_roundw
    case rel=>exact ⟨j+1,_,by have:=HPL.out;omega,S6,K6,F6h⟩
    case measure=>rw [M6.out,HME.out];omega
   ·go_wp2_with fail
    go_ret
    have hjn:n - k=j:=by have:=HPL.out;omega
    refine ⟨rfl,F',?_,HK.out,HF.out⟩;rw [hjn,← HB.out]
    exact HS.out
 ·have hE:undoE s m=false:=by unfold undoE;rw [← hn];simp;omega
  have hU:s.undo m=s:=by unfold PS.undo;rw [hE,if_neg (by simp)]
  rw [hE,hU];clear hE hU hn
  by_cases hm0:m < 0
  ·have j0:decide (m < 0)=true:=by simpa using hm0
   go_enter Tryz.func112,Tryz.ntmps112
   go_wp2_with fail
   go_ret
   exact ⟨rfl,_,HST.out,Keep.refl _ _,fun x hx=>.inl hx⟩
  ·have j0:decide (m < 0)=false:=by simpa using hm0
   have j1:decide (m > (n:Int))=true:=by simp;omega
   go_enter Tryz.func112,Tryz.ntmps112
   go_wp2_with fail
   go_ret
   exact ⟨rfl,_,HST.out,Keep.refl _ _,fun x hx=>.inl hx⟩

theorem wR1 {P:Program} {o:Oper} {a:Act} {w:World} {K:Act→World→Prop} {Q:Exit→Act→World→Prop} (ty:TypeId) (cells:Array Value) {x y:Operand} {g:Nat} {t:TypeId} {old:Array Value} (hg:Hid (w.heap[g]? = some (.cells old t (0,0)))) (hi:(P.info? ty).map (·.size)=some cells.size)
    (h:∀ w',w'.heap[g]? = some (.cells cells t (0,0))→Keep (· = g) w w'→w'.heap.size=w.heap.size→K (a.put o.dst undef) w') (ho:o.op = .store ty x y:=by rfl) (hx:a.eval x = .pointer (some ⟨g,0,none⟩):=by rfl) (hy:a.eval y = .agg cells:=by rfl)
    (hold:old.size=cells.size:=by rfl) (h1:cells.all (·.oneCell')=true:=by simp [Value.oneCell']):o.wp P a w K Q:=d0r ty x y ho g cells hx hy t old hg.out hi hold h1 h
end
section
open Go.RowKit

theorem LO.aside {α β:Type} {w w':World} {e1 e2:TypeId} {enc1:α→List Value} {enc2:β→List Value} {sz1 sz2:Nat} {v1 v2:Value} {l1:List α} {l2:List β} (h1:LO w e1 enc1 sz1 v1 l1) (h2:LO w e2 enc2 sz2 v2 l2) (hne:e1≠e2) (k:Keep (fun k=>v2.ownBlock=some k) w w'):LO w' e1 enc1 sz1 v1 l1:=
 h1.keep k fun q e e3=>by
  obtain ⟨cs,hc⟩:=h1.kind e
  exact h2.apart hc (by first | exact hne | exact hne.symm) e3
end
section
open Go.RowKit

theorem Rd.pair {w:World} {ad:Option Addr} {n cap:Nat} {t:Tab} (h:Rd w pairE 2 (.slice ad n cap) t) (i:Nat) (hi:i < t.length) :
  ∃ g off,ad=some ⟨g,off,none⟩∧g < w.heap.size∧w.cell? ⟨g,off+i*2,none⟩=some (.string (bs t[i].1))∧w.cell? ⟨g,off+i*2+1,none⟩=some (.string (bs t[i].2)):=by
 have hne:t≠[]:=by rintro rfl;simp at hi
 obtain ⟨ax,cx,e3,_,_,h3⟩:=h;obtain ⟨b,off,e4,hb,h5⟩:=h3 hne
 exact ⟨b,off,(Value.slice.inj e3).1.trans e4,hb,h5 i hi 0 (by decide),h5 i hi 1 (by decide)⟩
end
end Go.Proofs.YtakkfabaeolbdaaGreat
