/- tallagelaw07.ProofBack: its walk. LeafBack's plain law: rows in order, their groups; the claim of a row is opened by the root. No condition. tallagelaw16.lives (code). No condition. -/
import Derived.Test.YtakkfabaeolbdaaGreatCn36
import Derived.Test.YtakkfabaeolbdaaGreatCn35
import Derived.Test.YtakkfabaeolbdaaGreatCnLeaO
import Derived.Test.YtakkfabaeolbdaaGreatCn37
namespace Go.Proofs.YtakkfabaeolbdaaGreat
section
open Go.RowKit

theorem i0C {k:Int} (hk:k=1∨k=2) (l:List (List UInt8)) (i:Nat) (hi:i < l.length):∀ j,j≤depthF l.length→foldAt k (leafK k (tAt l i)) i (proofF k l i) j=hAt (rowN k l j) (i / 2 ^ j)
 | 0,_=>by
  show leafK k (tAt l i)=_
  rw [Nat.pow_zero,Nat.div_one];exact (n0X hk l i hi).1.symm
 | j+1,hj=>by
  have ih:=i0C hk l i hi j (by omega);have hp:=f0f hi hj;have hl:(rowN k l (j+1)).length=2 ^ (depthF l.length - (j+1)):=d0m k l (j+1) hj;have h2:hAt (proofF k l i) j=hAt (rowN k l j) (bes (i / 2 ^ j)):=by
   rw [f0t _ j (by rw [a0E];omega)]
   simp [proofF]
  show stepK k (i / 2 ^ j) (foldAt k (leafK k (tAt l i)) i (proofF k l i) j) (hAt (proofF k l i) j)=_
  rw [ih,h2,c0k];rw [c0k] at hp;obtain ⟨q,hq⟩:=nm (i / 2 ^ j);rw [← hq] at hp ⊢;rw [p0C hk l j (q / 2) hj (by rw [hl];exact hp)]
  unfold stepK bes
  rcases Nat.mod_two_eq_zero_or_one q with h | h
  ·rw [if_pos h,if_neg (by omega),show 2*(q / 2)=q by omega]
  ·rw [if_neg (by omega),if_pos h,show 2*(q / 2)+1=q by omega,show 2*(q / 2)=q - 1 by omega]
theorem h0u {k:Int} (hk:k=1∨k=2) (l:List (List UInt8)) (i:Nat) (hi:i < l.length) (hn:l.length≤1024):checkF k (rootF k.toNat l) (tAt l i) i (proofF k l i)=0:=by
 have hd:=c0g _ hn;have hp:=f0f hi (Nat.zero_le _);rw [Nat.pow_zero,Nat.div_one,Nat.sub_zero] at hp;have hf:foldK k (leafK k (tAt l i)) i (proofF k l i)=rootF k.toNat l:=by
  unfold foldK
  rw [Int.toNat_natCast,a0E,i0C hk l i hi _ (Nat.le_refl _),r0n];have:=f0f hi (Nat.le_refl (depthF l.length));rw [Nat.sub_self,Nat.pow_zero] at this;rw [Nat.lt_one_iff.1 this];rfl
 unfold checkF
 rw [if_pos hk,if_neg (by rw [a0E];omega),if_neg (by
  rw [a0E];rintro (h | h)
  ·omega
  ·exact absurd (Int.ofNat_le.1 h) (Nat.not_le.2 hp)),if_pos hf]
end
section
open Go.RowKit

theorem m0V (l:List LRow):(sortR l).map rkey=sortK (l.map rkey):=by
 unfold sortR
 rw [List.map_map]
 exact (List.map_congr_left fun k _=>by rfl).trans (List.map_id _)
def SortedR (s:List LRow):Prop:=s.Pairwise fun a b=>kLt (rkey a) (rkey b)
theorem j0H {l:List LRow} (h:(l.map rkey).Nodup):SortedR (sortR l):=by
 have h1:(sortK (l.map rkey)).Nodup:=(b0G _).nodup_iff.2 h;have h2:=c0T (l.map rkey);have h3:(sortK (l.map rkey)).Pairwise kLt:=(h2.and h1).imp fun {a b} ⟨x,y⟩=>by
  rcases Classical.em (kLt a b) with z | z
  ·exact z
  ·exact absurd (f0U z x) y
 rw [← m0V,List.pairwise_map] at h3
 exact h3
theorem g0I {l s:List LRow} (h:sortedF l=some s):SortedR s:=by
 obtain ⟨h1,rfl,_⟩:=c0r h
 exact j0H h1.2.2
theorem SortedR.inj {s:List LRow} (h:SortedR s) {a b:LRow} (ha:a∈s) (hb:b∈s) (hk:rkey a=rkey b):a=b:=by
 obtain ⟨i,hi,rfl⟩:=List.mem_iff_getElem.1 ha;obtain ⟨j,hj,rfl⟩:=List.mem_iff_getElem.1 hb;have hp:=List.pairwise_iff_getElem.1 h
 rcases Nat.lt_trichotomy i j with c | c | c
 ·have:=hp i j hi hj c;rw [hk] at this;exact absurd this (d0d _)
 ·subst c;rfl
 ·have:=hp j i hj hi c;rw [hk] at this;exact absurd this (d0d _)
theorem SortedR.le {s:List LRow} (h:SortedR s):s.Pairwise fun a b=>a.e≤b.e:=h.imp fun {a b} k=>by unfold kLt rkey at k;simp only [] at k;omega
theorem m0y (l:List LRow) (hs:l.Pairwise fun a b=>a.e≤b.e):(∀ g∈groupsF l,g.2=l.filter fun r=>decide (r.e=g.1))∧((groupsF l).map (·.1)).Pairwise (· < ·)∧(∀ r∈l,r.e∈(groupsF l).map (·.1)):=by
 revert hs
 refine g0s (C:=fun l=>l.Pairwise (fun a b=>a.e≤b.e)→(∀ g∈groupsF l,g.2=l.filter fun r=>decide (r.e=g.1))∧((groupsF l).map (·.1)).Pairwise (· < ·)∧(∀ r∈l,r.e∈(groupsF l).map (·.1))) ?_ ?_ l.length l (Nat.le_refl _)
 ·intro _;rw [d0C];exact ⟨fun g h=>by simp at h,List.Pairwise.nil,fun r h=>by simp at h⟩
 ·intro r l ih hs;rw [List.pairwise_cons] at hs;obtain ⟨hs1,hs2⟩:=hs;obtain ⟨k,hk⟩:=nm (lead r.e l);have hT:∀ x∈l.take k,x.e=r.e:=fun x hx=>by
   obtain ⟨j,hj,rfl⟩:=List.mem_iff_getElem.1 hx;rw [List.length_take] at hj;rw [List.getElem_take]
   exact i0e r.e l j (by omega) (by omega)
  have hD:∀ x∈l.drop k,r.e < x.e:=fun x hx=>by
   obtain ⟨j,hj,rfl⟩:=List.mem_iff_getElem.1 hx;rw [List.length_drop] at hj;rw [List.getElem_drop];have hkl:k < l.length:=by omega
   have h1:l[k].e≠r.e:=by subst hk;exact h0x r.e l hkl
   have h2:=hs1 l[k] (List.getElem_mem hkl);have h3:l[k].e≤l[k+j].e:=by
    rcases Nat.eq_zero_or_pos j with rfl | hj0
    ·exact Int.le_refl _
    ·exact List.pairwise_iff_getElem.1 hs2 k (k+j) hkl (by omega) (by omega)
   omega
  obtain ⟨i1,i2,i3⟩:=ih (hs2.sublist (List.drop_sublist _ _));rw [← hk] at i1 i2 i3;rw [b0T,← hk];have hg1:∀ g∈groupsF (l.drop k),r.e < g.1:=fun g hg=>by
   obtain ⟨a,_,c⟩:=(a0M (l.drop k)).2 g hg;obtain ⟨x,hx⟩:=List.exists_mem_of_ne_nil _ a;obtain ⟨c1,c2⟩:=c x hx;rw [← c2];exact hD x c1
  refine ⟨fun g hg=>?_,?_,fun x hx=>?_⟩
  ·rcases List.mem_cons.1 hg with rfl | hg
   ·rw [List.filter_cons_of_pos (by simp)]
    congr 1
    conv=>rhs;rw [← List.take_append_drop k l,List.filter_append]
    rw [List.filter_eq_self.2 (fun x hx=>by simp [hT x hx]),List.filter_eq_nil_iff.2 (fun x hx=>by have:=hD x hx;simp;omega),List.append_nil]
   ·have hlt:=hg1 g hg;rw [i1 g hg,List.filter_cons_of_neg (by simp;omega)]
    conv=>rhs;rw [← List.take_append_drop k l,List.filter_append]
    rw [show (l.take k).filter (fun r=>decide (r.e=g.1)) = [] from List.filter_eq_nil_iff.2 (fun x hx=>by have:=hT x hx;simp;omega),List.nil_append]
  ·rw [List.map_cons,List.pairwise_cons]
   exact ⟨fun x hx=>by obtain ⟨g,hg,rfl⟩:=List.mem_map.1 hx;exact hg1 g hg,i2⟩
  ·rw [List.map_cons]
   rcases List.mem_cons.1 hx with rfl | hx
   ·simp
   ·rw [← List.take_append_drop k l] at hx
    rcases List.mem_append.1 hx with h | h
    ·rw [hT x h];simp
    ·exact List.mem_cons_of_mem _ (i3 x h)
theorem p0c {α:Type} (p:α→Bool) {l:List α} {x:α} (hx:x∈l) (hp:p x=true):∃ (i:Nat) (h:i < l.length),l.findIdx? p=some i∧p l[i]=true:=by
 cases h:l.findIdx? p with
 | none=>have:=List.findIdx?_eq_none_iff.1 h x hx;rw [hp] at this;cases this
 | some i=>obtain ⟨h1,h2,_⟩:=List.findIdx?_eq_some_iff_getElem.1 h;exact ⟨i,h1,rfl,h2⟩
theorem o0J (l:List (List UInt8)) (i:Nat) (h:i < l.length):tAt l i=l[i]:=by unfold tAt;rw [List.getD_eq_getElem?_getD,List.getElem?_eq_getElem h];rfl
theorem m0Q {rows:List LRow} (hr:∀ r∈rows,ROk r) (hn:rows.length≤1024):∀ {ts:List Int} {lv:List CLf},openAll rows ts=some lv→(∀ t∈ts,t < 9223372036854775808)→∀ x∈lv,x.t < 9223372036854775808∧x.i < 9223372036854775808∧x.m < 2 ^ 256∧All32 x.p:=by
 intro ts
 induction ts with
 | nil=>intro lv h _ x hx;cases h;simp at hx
 | cons t ts ih=>
  intro lv h ht x hx
  unfold openAll at h
  cases ho:open1 rows t with
  | none=>rw [ho] at h;cases h
  | some y=>
   cases hs:openAll rows ts with
   | none=>rw [ho,hs] at h;cases h
   | some ys=>
    rw [ho,hs] at h;cases h
    rcases List.mem_cons.1 hx with rfl | hx
    ·unfold open1 at ho
     cases hf:rows.findIdx? (fun r=>decide (r.t=t)) with
     | none=>rw [hf] at ho;cases ho
     | some i=>
      rw [hf] at ho;simp only [] at ho
      cases hri:rows[i]? with
      | none=>rw [hri] at ho;cases ho
      | some r=>
       rw [hri] at ho;cases ho;obtain ⟨hi,hri2⟩:=List.getElem?_eq_some_iff.1 hri;refine ⟨ht t (by simp),?_,(hr r (by rw [← hri2];exact List.getElem_mem hi)).2,i0Y _ _ _⟩
       show (i:Int) < 9223372036854775808
       omega
    ·exact ih hs (fun u hu=>ht u (by simp [hu])) x hx
theorem p0n {l:List LRow} {e:Int} {ts:List Int} {c:CCl} (h:claimR l e ts = .ok c) (hr:∀ r∈l,ROk r) (he:e < 9223372036854775808) (ht:∀ t∈ts,t < 9223372036854775808):COk c:=by
 unfold claimR at h
 cases hs:sortedF l with
 | none=>rw [hs] at h;cases h
 | some s=>
  rw [hs] at h;simp only [] at h
  split at h
  ·cases h
  ·obtain ⟨k1,_,k3⟩:=j0O hs hr
   cases hq:(groupsF s).findIdx? (fun g=>decide (g.1=e)) with
   | none=>rw [hq] at h;cases h
   | some q=>
    rw [hq] at h;simp only [] at h
    cases hg:(groupsF s)[q]? with
    | none=>rw [hg] at h;cases h
    | some g=>
     rw [hg] at h;simp only [] at h;obtain ⟨hqn,hgq⟩:=List.getElem?_eq_some_iff.1 hg;have hgm:g∈groupsF s:=by rw [← hgq];exact List.getElem_mem hqn
     have hgn:=(a0M s)
     cases ho:openAll g.2 ts with
     | none=>rw [ho] at h;cases h
     | some lv=>
      rw [ho] at h;cases h;refine ⟨d0c _ _,he,?_,i0Y _ _ _,m0Q (f0I k1 g hgm).2 (Nat.le_trans (hgn.2 g hgm).2.1 k3) ho ht⟩
      show (q:Int) < 9223372036854775808
      have:=hgn.1;omega
theorem q0H {l s:List LRow} (h:sortedF l=some s) {row:LRow} (hr:row∈s):∃ (c:CCl) (i:Int) (p:List (List UInt8)),claimR l row.e [row.t] = .ok c∧c.e=row.e∧c.lv = [⟨i,row.t,row.m,p⟩]∧c.p.length=depthF (tableL s).length∧(∃ n,1≤n∧n≤s.length∧p.length=depthF n)∧openR c (rootT l).1=0:=by
 have hso:=g0I h;obtain ⟨h1,_,_,h4⟩:=c0r h;obtain ⟨g1,g2,g3⟩:=m0y s hso.le;obtain ⟨g,hg,hge⟩:=List.mem_map.1 (g3 row hr);obtain ⟨q,hq,hqf,hqe⟩:=p0c (fun g:Int × List LRow=>decide (g.1=row.e)) hg (by simpa using hge);have hqe2:(groupsF s)[q].1=row.e:=by simpa using hqe
 obtain ⟨gg,hgg⟩:=nm ((groupsF s)[q]);have hgq:(groupsF s)[q]? = some gg:=by rw [hgg];exact List.getElem?_eq_getElem hq
 have hgm:gg∈groupsF s:=by rw [hgg];exact List.getElem_mem hq
 rw [← hgg] at hqe2;have hfil:=g1 _ hgm;have hmem:row∈gg.2:=by rw [hfil,hqe2];exact List.mem_filter.2 ⟨hr,by simp⟩
 obtain ⟨i,hi2,hif,hit⟩:=p0c (fun r:LRow=>decide (r.t=row.t)) hmem (by simp);have hit2:gg.2[i].t=row.t:=by simpa using hit
 obtain ⟨m1,m2,m3⟩:=(a0M s).2 _ hgm;have hx:=m3 _ (List.getElem_mem hi2);have hrow:gg.2[i]=row:=hso.inj hx.1 hr (by unfold rkey;rw [hx.2,hqe2,hit2]);have hlen:s.length≤1024:=by rw [h4];exact h1.1.2
 have hrow2:gg.2[i]? = some row:=by rw [List.getElem?_eq_getElem hi2,hrow]
 have ho:open1 gg.2 row.t=some ⟨i,row.t,row.m,proofF 2 (leavesG gg.2) i⟩:=by
  unfold open1;rw [hif];simp only [];rw [hrow2]
 have hc:claimR l row.e [row.t] = .ok ⟨0,q,row.e,rootF 2 (leavesG gg.2),proofF 1 (tableL s) q,[⟨i,row.t,row.m,proofF 2 (leavesG gg.2) i⟩],row.e⟩:=by
  unfold claimR
  rw [h];simp only [];rw [if_neg (by simp),hqf];simp only [];rw [hgq];simp only [];simp only [openAll,ho]
 refine ⟨_,_,_,hc,rfl,rfl,a0E _ _ _,⟨gg.2.length,by omega,m2,by rw [← a0D];exact a0E _ _ _⟩,?_⟩;have hrt:(rootT l).1=rootF 1 (tableL s):=by unfold rootT;rw [h]
 have c1:=h0u (k:=1) (.inl rfl) (tableL s) q (by rw [b0a];exact hq) (e0F hlen);rw [o0J _ _ (by rw [b0a];exact hq)] at c1;have e1:(tableL s)[q]'(by rw [b0a];exact hq)=earL row.e (rootF 2 (leavesG gg.2)):=by
  unfold tableL earLeaf;rw [List.getElem_map,← hgg,hqe2]
 rw [e1] at c1;have c2:=h0u (k:=2) (.inr rfl) (leavesG gg.2) i (by rw [a0D];exact hi2) (by rw [a0D];omega);rw [o0J _ _ (by rw [a0D];exact hi2)] at c2;have e2:(leavesG gg.2)[i]'(by rw [a0D];exact hi2)=tokL row.t row.m:=by
  unfold leavesG;rw [List.getElem_map];rw [List.getElem?_eq_getElem hi2] at hrow2;rw [Option.some.inj hrow2]
 rw [e2] at c2;rw [show (1:Int).toNat=1 from rfl] at c1;rw [show (2:Int).toNat=2 from rfl] at c2
 unfold openR
 rw [if_neg (by simp),hrt];simp only [];rw [if_pos c1]
 unfold openL leafChk
 rw [if_pos c2];rfl
end
section
open Go.RowKit

abbrev row0:LRow:=⟨7,1,10⟩
theorem sortOk0:SortOk [row0]:=by decide
theorem sort0:sortedF [row0]=some [row0]:=by
 rw [f0y sortOk0];have h1:=c0L [row0];have h2:=j0w sortOk0.2.2
 cases hs:sortR [row0] with
 | nil=>rw [hs] at h1;cases h1
 | cons r tl=>
  rw [hs] at h1 h2;have h3:tl = []:=List.eq_nil_of_length_eq_zero (by simpa using h1);have h4:r=row0:=by simpa using h2 r (by simp)
  rw [h3,h4]
theorem l0b:depthF 1=0:=by unfold depthF;exact a0V
theorem l0W:∃ (cix ce cto i:Int) (ch:List UInt8) (crt:Int),claimR [row0] 7 [1] = .ok ⟨crt,cix,ce,ch,[],[⟨i,1,10,[]⟩],cto⟩∧openR ⟨crt,cix,ce,ch,[],[⟨i,1,10,[]⟩],cto⟩ (rootT [row0]).1=0:=by
 obtain ⟨c,i,p,h1,h2,h3,h4,⟨n,n1,n2,n3⟩,h5⟩:=q0H sort0 (row:=row0) (by simp);have hn:n=1:=by simp at n2;omega
 subst hn;have hp:p = []:=List.eq_nil_of_length_eq_zero (by rw [n3,l0b]);have hcp:c.p = []:=List.eq_nil_of_length_eq_zero (by
  rw [h4];have t1:=i0n (s:=[row0]) (by simp);have t2:(tableL [row0]).length≤1:=by rw [b0a];exact (a0M [row0]).1
  have t3:(tableL [row0]).length=1:=by
   rcases Nat.eq_zero_or_pos (tableL [row0]).length with z | z
   ·exact absurd (List.eq_nil_of_length_eq_zero z) t1
   ·omega
  rw [t3,l0b])
 obtain ⟨crt,cix,ce,ch,cp,clv,cto⟩:=c;simp only [] at h2 h3 hcp;subst hp hcp h3
 exact ⟨cix,ce,cto,i,ch,crt,h1,h5⟩
theorem rok0:∀ r∈[row0],ROk r:=by
 intro r hr;obtain rfl:r=row0:=by simpa using hr
 exact ⟨by unfold I64k;decide,by show (10:Nat) < uMax;decide⟩
end
end Go.Proofs.YtakkfabaeolbdaaGreat
