/- Set, Delete, Settle and Undo of a store: no condition. -/
import Derived.Test.YtabminbgoclnkaaGreatVaStoL
namespace Go.Proofs.YtabminbgoclnkaaGreat
set_option maxHeartbeats 8000000
set_option maxRecDepth 100000
open Go.RowKit

theorem d0y (g bm:Nat) (vb vp:Value) (zs:List (Value × List Txt)) (x:Nat):x∈foot g bm vb vp zs↔x=g∨x=bm∨vp.ownBlock=some x∨x∈footB vb zs:=by
 unfold foot
 simp only [List.mem_cons,List.mem_append,Option.mem_toList]
theorem c0H {w w2 w4 w5:World} {g bm:Nat} {vb vp vb2 vp':Value} {zs zs2:List (Value × List Txt)} {s:PS} {t':Tab} {p':List WasP} (_h0:StAt w g s bm vb vp zs) (h2:StAt w2 g ⟨t',s.past⟩ bm vb2 vp zs2) (k02:Keep (fun x=>x=g∨x=bm∨x∈footB vb zs) w w2) (hf2:∀ x∈footB vb2 zs2,x∈footB vb zs∨w.heap.size≤x)
  (hp:LO w4 131 wasE 3 vp' p') (k24:Keep (fun k=>vp.ownBlock=some k) w2 w4) (hm:vp'.ownBlock=vp.ownBlock∨∀ k,vp'.ownBlock=some k→w2.heap.size≤k)
  (h5:w5.heap[g]? = some (.cells #[.bool true,.map (some bm),vb2,vp'] 67 (0,0))) (k45:Keep (· = g) w4 w5) :
  StAt w5 g ⟨t',p'⟩ bm vb2 vp' zs2∧Keep (·∈foot g bm vb vp zs) w w5∧∀ x∈foot g bm vb2 vp' zs2,x∈foot g bm vb vp zs∨w.heap.size≤x:=by
 have hgp:vp.ownBlock≠some g:=h2.past.apart h2.bk.head (by decide);have hg4:=k24.at h2.bk.head hgp;have hb4:Bk w4 g bm vb2 vp zs2:=h2.bk.keep k24 hgp fun x hx=>g0S h2.bk h2.past x hx
 have hm4:MapIs w4 bm t':=h2.map.keep k24 fun e=>by
  obtain ⟨cs,hc⟩:=h2.past.kind e
  exact a0u h2.map hc rfl
 refine ⟨⟨⟨h5,?_,?_,h2.bk.ne⟩,?_,?_,h2.up,h2.flat⟩,?_,?_⟩
 ·exact hb4.blocks.keep k45 fun k e e2=>hb4.blocks.apart hg4 (by decide) (by rw [e,e2])
 ·exact hb4.rows.keep k45 fun q hq=>hb4.rows.apart hg4 (by decide) q hq
 ·exact hm4.keep k45 fun e=>a0u hm4 hg4 e
 ·exact hp.keep k45 fun k e e2=>hp.apart hg4 (by decide) (by rw [e,e2])
 ·refine ((k02.mono ?_).then k24 ?_).then k45 ?_
  ·intro x _ hx;rw [d0y]
   rcases hx with h | h | h
   ·exact .inl h
   ·exact .inr (.inl h)
   ·exact .inr (.inr (.inr h))
  ·intro x hx;left;rw [d0y];exact .inr (.inr (.inl hx))
  ·intro x hx;left;rw [d0y];exact .inl hx
 ·intro x hx;rw [d0y] at hx ⊢
  rcases hx with h | h | h | h
  ·exact .inl (.inl h)
  ·exact .inl (.inr (.inl h))
  ·rcases hm with hm | hm
   ·rw [hm] at h;exact .inl (.inr (.inr (.inl h)))
   ·exact .inr (Nat.le_trans k02.size (hm x h))
  ·rcases hf2 x h with h | h
   ·exact .inl (.inr (.inr (.inr h)))
   ·exact .inr h

theorem l0X {w:World} {g:Nat} {s:PS} {F:List Nat} (h:St w g s F) (htl:s.t.length < 1099511627776) (hpl:s.past.length < 1099511627776) (k v:Txt) :
  Calls Tryz.prog 164 #[.pointer (some ⟨g,0,none⟩),.string (bs k),.string (bs v)] w (StRet w g F (s.set k v) (.int .i64 (setE k))):=by
 obtain ⟨bm,vb,vp,zs,h,rfl⟩:=h;obtain ⟨ad,cap,hvp,h1,h2⟩:=h.past.shape;obtain ⟨n,hn⟩:=nm (s.past.length);rw [← hn] at hvp h1 hpl;subst hvp;have c3:w.cell? ⟨g,3,none⟩=some (.slice ad n cap):=Lib.cell_of_heap h.bk.head 3;obtain ⟨ok,hok⟩:=nm ((getP s.t k).isSome);obtain ⟨old,hold⟩:=nm ((getP s.t k).getD []);have H:=hh h;have C3:=hh c3;have HN:=hh hn;have HTL:=hh htl;have HOK:=hh hok;have HOLD:=hh hold;have c1:w.cell? ⟨g,1,none⟩=some (.map (some bm)):=Lib.cell_of_heap H.out.bk.head 1;clear h hn htl hok hold c3
 by_cases hk:k = []
 ·have je:(bs k).toList.isEmpty=true:=by rw [a0g,hk];rfl
  have hres:s.set k v=s:=by unfold PS.set;rw [if_pos (.inl hk)]
  have hE:setE k=2:=by unfold setE;rw [if_pos hk]
  rw [hres,hE];clear hk hres hE
  go_enter Tryz.func164,Tryz.ntmps164
  go_wp2_with fail;refine (b0J g _ _ _ H.out.bk.head rfl).mono ?_;rintro e w1 ⟨rfl,rfl⟩;go_wp2_with fail
  go_ret
  exact ⟨rfl,_,⟨bm,vb,_,zs,H.out,rfl⟩,Keep.refl _ _,fun x hx=>.inl hx⟩
 ·have je:(bs k).toList.isEmpty=false:=by rw [a0g];cases k with | nil=>exact absurd rfl hk | cons _ _=>rfl
  have hE:setE k=0:=by unfold setE;rw [if_neg hk]
  rw [hE]
  by_cases hsame:getP s.t k=some v
  ·have hres:s.set k v=s:=by unfold PS.set;rw [if_pos (.inr hsame)]
   have ho:old=v:=by rw [HOLD.out,hsame];rfl
   have hk1:ok=true:=by rw [HOK.out,hsame];rfl
   have jv:((bs old).toList == (bs v).toList)=true:=by rw [ho];simp
   rw [hres];clear hk hres hE ho hsame;subst hk1
   go_enter Tryz.func164,Tryz.ntmps164
   go_wp2_with fail;refine (b0J g _ _ _ H.out.bk.head rfl).mono ?_;rintro e w1 ⟨rfl,rfl⟩
   go_wp2_with (refine a0I rfl 63 _ _ rfl Tryz.underlying63 Tryz.underlying9 zeroStr H.out.map k rfl rfl ?_;rw [← HOK.out,← HOLD.out])
   go_ret
   exact ⟨rfl,_,⟨bm,vb,_,zs,H.out,rfl⟩,Keep.refl _ _,fun x hx=>.inl hx⟩
  ·have hres:s.set k v=s.put k v true:=by unfold PS.set;rw [if_neg (by rintro (h | h);exact hk h;exact hsame h)]
   have hput:s.put k v true=⟨layP s.t k v true,s.past ++ [(k,old,ok)]⟩:=by unfold PS.put;rw [← HOLD.out,← HOK.out]
   rw [hres,hput];have hn2:n < 1099511627776:=hpl;have hjv:ok=true→((bs old).toList == (bs v).toList)=false:=by
    intro e;rw [a0g,a0g];rw [beq_eq_false_iff_ne];intro e2
    apply hsame
    have h3:=HOK.out;rw [e] at h3
    cases hg:getP s.t k with
    | none=>rw [hg] at h3;cases h3
    | some z=>have:=HOLD.out;rw [hg] at this;rw [← e2,this];rfl
   clear hk hres hput hE hsame
   go_enter Tryz.func164,Tryz.ntmps164
   go_wp2_with fail;refine (b0J g _ _ _ H.out.bk.head rfl).mono ?_;rintro e w1 ⟨rfl,rfl⟩;have HJ:=hh hjv;clear hjv
   cases ok with
   | true=>
    have jv:=HJ.out rfl
    go_wp2_with (refine a0I rfl 63 _ _ rfl Tryz.underlying63 Tryz.underlying9 zeroStr H.out.map k rfl rfl ?_;rw [← HOK.out,← HOLD.out])
    have hS:w.drew.cell? ⟨g,3,none⟩=some (.slice ad n cap):=C3.out;have hst:StAt w.drew g s bm vb (.slice ad n cap) zs:=H.out.keep (Keep.of_below (S:=fun _=>False) (Below.refl _ _).drew) fun _ _=>id
    have HD:=hh hst;clear hst;refine a0b (fun w'=>w'.cell? ⟨g,3,none⟩=some (.slice ad n cap)) 13 14 (by kernel_rfl) rfl ?_;refine tA1 0 32 hS ?_;go_frame;refine tA1 1 33 hS ?_;go_frame;refine tA1 2 34 hS ?_;go_frame;refine tA1 3 35 hS ?_;go_frame;refine tk 4 (some 36) rfl rfl (.inl ⟨by rfl,fun w' hS'=>(by have hc:w'.cell? ⟨g,3,none⟩=_:=hS';go_simp;rfl)⟩) hS ?_;go_frame;refine tA1 5 37 hS ?_;go_frame;refine tA1 6 38 hS ?_;go_frame;refine tA1 7 39 hS ?_;go_frame;refine t1 8 fun K hK=>?_
    simp only [gA,jB,gC];go_simp;refine (f0P HD.out HTL.out k v true).mono ?_;rintro e w2 ⟨rfl,vb2,zs2,h2,k02,hf2⟩;have hS2:w2.cell? ⟨g,3,none⟩=some (.slice ad n cap):=Lib.cell_of_heap h2.bk.head 3;refine hK _ _ (fun _ _=>hS2) ?_;have hagg:(wasE (wasV s.t k)).toArray=#[.string (bs k),.string (bs old),.bool true]:=by unfold wasV;rw [← HOLD.out,← HOK.out];rfl
    rw [hagg];have H2:=hh h2;have K02:=hh k02;have HF2:=hh hf2;clear hK hS h2 k02 hf2 hagg;have hS:=hS2;clear hS2;refine t1 9 fun K hK=>?_
    simp only [gA,jB,gC];go_simp;obtain ⟨w3,hw3⟩:=nm (w2.alloc (.cells #[.string (bs k),.string (bs old),.bool true] 131));obtain ⟨Y,hY⟩:=nm (w2.heap.size);rw [← hw3,← hY];have hb23:Below w2.heap.size w2 w3:=by rw [hw3];exact (Below.refl _ _).alloc (Nat.le_refl _) _
    have hy3:w3.heap[Y]? = some (.cells #[.string (bs k),.string (bs old),.bool true] 131 (0,0)):=by rw [hw3,hY];exact heap_alloc_new _ _
    have hS3:w3.cell? ⟨g,3,none⟩=some (.slice ad n cap):=(hb23.cell (p:=⟨g,3,none⟩) (a0e H2.out.bk.head)).trans hS;refine hK _ _ (fun _ _=>hS3) ?_;have HB23:=hh hb23;have HY3:=hh hy3;clear hK hS hw3 hY hb23 hy3;have hS:=hS3;clear hS3;refine t1 10 fun K hK=>?_
    simp only [gA,jB,gC];refine b0f (l2:=[(k,old,true)]) _ _ 65 65 rfl Tryz.underlying65 Tryz.underlying65 Tryz.infoWas rfl (by decide) b0u (b0X _) (H2.out.past.later HB23.out) rfl _ rfl
     ⟨some ⟨Y,0,none⟩,1,rfl,Nat.le_refl _,by unfold maxLen;omega,fun _=>⟨Y,0,rfl,a0e HY3.out,fun j hj q hq=>by
      have h0:j=0:=by simpa using hj
      subst h0;rw [Lib.cell_of_heap HY3.out]
      simp [wasE]⟩⟩ (by unfold maxLen;rw [← HN.out];simp;omega) (by rw [← HN.out];simp;omega) ?_
    intro vp' w4 hlo4 k34 hm4;have hS4:w4.cell? ⟨g,3,none⟩=some (.slice ad n cap):=by
     have hg3:=(HB23.out.block g (a0e H2.out.bk.head)).trans H2.out.bk.head
     exact Lib.cell_of_heap (k34.at hg3 ((H2.out.past.later HB23.out).apart hg3 (by decide))) 3
    refine hK _ _ (fun _ _=>hS4) ?_;obtain ⟨ad',cap',hvp',_,_⟩:=hlo4.shape;obtain ⟨n',hn'⟩:∃ n',n'=(s.past ++ [(k,old,true)]).length:=⟨_,rfl⟩;rw [← hn'] at hvp';subst hvp';have hg4:w4.heap[g]? = some (.cells #[.bool true,.map (some bm),vb2,.slice ad n cap] 67 (0,0)):=by
     have hg3:=(HB23.out.block g (a0e H2.out.bk.head)).trans H2.out.bk.head
     exact k34.at hg3 ((H2.out.past.later HB23.out).apart hg3 (by decide))
    have hm':Value.ownBlock (.slice ad' n' cap')=Value.ownBlock (.slice ad n cap)∨∀ k,Value.ownBlock (.slice ad' n' cap')=some k→w2.heap.size≤k:=by
     rcases hm4 with h | ⟨q,h,h'⟩
     ·exact .inl h
     ·right
      intro k e;rw [e] at h;cases h
      exact Nat.le_trans HB23.out.size h'
    have HLO4:=hh hlo4;have K24:=hh ((Keep.of_below HB23.out).then k34 (fun x hx=>.inl hx));have HM':=hh hm';have HG4:=hh hg4;clear hK hS hlo4 k34 hm4 hn' hm' hg4;have hS:=hS4;clear hS4;refine tA1 11 43 hS ?_;go_frame;refine tA1 12 44 hS ?_;go_frame;refine t1 13 fun K hK=>?_
    simp only [gA,jB,gC];refine a0h 65 _ _ rfl g 3 _ rfl rfl rfl rfl 67 _ HG4.out (by kernel_rfl) (by simp) _ rfl ?_;intro w5 h5 k45 _;refine hK _ _ (fun h=>absurd rfl h) ?_;refine tD ?_;have hk0:Keep (fun x=>x=g∨x=bm∨x∈footB vb zs) w w2:=(Keep.of_below (Below.refl _ _).drew).then K02.out (fun x hx=>.inl hx);have hcl:=c0H H.out H2.out hk0 HF2.out HLO4.out K24.out HM'.out h5 k45;have HCL:=hh hcl;clear hK hS h5 k45 hcl hk0;go_wp2_with fail
    go_ret
    exact ⟨rfl,_,⟨bm,vb2,_,zs2,HCL.out.1,rfl⟩,HCL.out.2.1,HCL.out.2.2⟩
   | false=>
    go_wp2_with (refine a0I rfl 63 _ _ rfl Tryz.underlying63 Tryz.underlying9 zeroStr H.out.map k rfl rfl ?_;rw [← HOK.out,← HOLD.out])
    have hS:w.drew.cell? ⟨g,3,none⟩=some (.slice ad n cap):=C3.out;have hst:StAt w.drew g s bm vb (.slice ad n cap) zs:=H.out.keep (Keep.of_below (S:=fun _=>False) (Below.refl _ _).drew) fun _ _=>id
    have HD:=hh hst;clear hst;refine a0b (fun w'=>w'.cell? ⟨g,3,none⟩=some (.slice ad n cap)) 13 14 (by kernel_rfl) rfl ?_;refine tA1 0 32 hS ?_;go_frame;refine tA1 1 33 hS ?_;go_frame;refine tA1 2 34 hS ?_;go_frame;refine tA1 3 35 hS ?_;go_frame;refine tk 4 (some 36) rfl rfl (.inl ⟨by rfl,fun w' hS'=>(by have hc:w'.cell? ⟨g,3,none⟩=_:=hS';go_simp;rfl)⟩) hS ?_;go_frame;refine tA1 5 37 hS ?_;go_frame;refine tA1 6 38 hS ?_;go_frame;refine tA1 7 39 hS ?_;go_frame;refine t1 8 fun K hK=>?_
    simp only [gA,jB,gC];go_simp;refine (f0P HD.out HTL.out k v true).mono ?_;rintro e w2 ⟨rfl,vb2,zs2,h2,k02,hf2⟩;have hS2:w2.cell? ⟨g,3,none⟩=some (.slice ad n cap):=Lib.cell_of_heap h2.bk.head 3;refine hK _ _ (fun _ _=>hS2) ?_;have hagg:(wasE (wasV s.t k)).toArray=#[.string (bs k),.string (bs old),.bool false]:=by unfold wasV;rw [← HOLD.out,← HOK.out];rfl
    rw [hagg];have H2:=hh h2;have K02:=hh k02;have HF2:=hh hf2;clear hK hS h2 k02 hf2 hagg;have hS:=hS2;clear hS2;refine t1 9 fun K hK=>?_
    simp only [gA,jB,gC];go_simp;obtain ⟨w3,hw3⟩:=nm (w2.alloc (.cells #[.string (bs k),.string (bs old),.bool false] 131));obtain ⟨Y,hY⟩:=nm (w2.heap.size);rw [← hw3,← hY];have hb23:Below w2.heap.size w2 w3:=by rw [hw3];exact (Below.refl _ _).alloc (Nat.le_refl _) _
    have hy3:w3.heap[Y]? = some (.cells #[.string (bs k),.string (bs old),.bool false] 131 (0,0)):=by rw [hw3,hY];exact heap_alloc_new _ _
    have hS3:w3.cell? ⟨g,3,none⟩=some (.slice ad n cap):=(hb23.cell (p:=⟨g,3,none⟩) (a0e H2.out.bk.head)).trans hS;refine hK _ _ (fun _ _=>hS3) ?_;have HB23:=hh hb23;have HY3:=hh hy3;clear hK hS hw3 hY hb23 hy3;have hS:=hS3;clear hS3;refine t1 10 fun K hK=>?_
    simp only [gA,jB,gC];refine b0f (l2:=[(k,old,false)]) _ _ 65 65 rfl Tryz.underlying65 Tryz.underlying65 Tryz.infoWas rfl (by decide) b0u (b0X _) (H2.out.past.later HB23.out) rfl _ rfl
     ⟨some ⟨Y,0,none⟩,1,rfl,Nat.le_refl _,by unfold maxLen;omega,fun _=>⟨Y,0,rfl,a0e HY3.out,fun j hj q hq=>by
      have h0:j=0:=by simpa using hj
      subst h0;rw [Lib.cell_of_heap HY3.out]
      simp [wasE]⟩⟩ (by unfold maxLen;rw [← HN.out];simp;omega) (by rw [← HN.out];simp;omega) ?_
    intro vp' w4 hlo4 k34 hm4;have hS4:w4.cell? ⟨g,3,none⟩=some (.slice ad n cap):=by
     have hg3:=(HB23.out.block g (a0e H2.out.bk.head)).trans H2.out.bk.head
     exact Lib.cell_of_heap (k34.at hg3 ((H2.out.past.later HB23.out).apart hg3 (by decide))) 3
    refine hK _ _ (fun _ _=>hS4) ?_;obtain ⟨ad',cap',hvp',_,_⟩:=hlo4.shape;obtain ⟨n',hn'⟩:∃ n',n'=(s.past ++ [(k,old,false)]).length:=⟨_,rfl⟩;rw [← hn'] at hvp';subst hvp';have hg4:w4.heap[g]? = some (.cells #[.bool true,.map (some bm),vb2,.slice ad n cap] 67 (0,0)):=by
     have hg3:=(HB23.out.block g (a0e H2.out.bk.head)).trans H2.out.bk.head
     exact k34.at hg3 ((H2.out.past.later HB23.out).apart hg3 (by decide))
    have hm':Value.ownBlock (.slice ad' n' cap')=Value.ownBlock (.slice ad n cap)∨∀ k,Value.ownBlock (.slice ad' n' cap')=some k→w2.heap.size≤k:=by
     rcases hm4 with h | ⟨q,h,h'⟩
     ·exact .inl h
     ·right
      intro k e;rw [e] at h;cases h
      exact Nat.le_trans HB23.out.size h'
    have HLO4:=hh hlo4;have K24:=hh ((Keep.of_below HB23.out).then k34 (fun x hx=>.inl hx));have HM':=hh hm';have HG4:=hh hg4;clear hK hS hlo4 k34 hm4 hn' hm' hg4;have hS:=hS4;clear hS4;refine tA1 11 43 hS ?_;go_frame;refine tA1 12 44 hS ?_;go_frame;refine t1 13 fun K hK=>?_
    simp only [gA,jB,gC];refine a0h 65 _ _ rfl g 3 _ rfl rfl rfl rfl 67 _ HG4.out (by kernel_rfl) (by simp) _ rfl ?_;intro w5 h5 k45 _;refine hK _ _ (fun h=>absurd rfl h) ?_;refine tD ?_;have hk0:Keep (fun x=>x=g∨x=bm∨x∈footB vb zs) w w2:=(Keep.of_below (Below.refl _ _).drew).then K02.out (fun x hx=>.inl hx);have hcl:=c0H H.out H2.out hk0 HF2.out HLO4.out K24.out HM'.out h5 k45;have HCL:=hh hcl;clear hK hS h5 k45 hcl hk0;go_wp2_with fail
    go_ret
    exact ⟨rfl,_,⟨bm,vb2,_,zs2,HCL.out.1,rfl⟩,HCL.out.2.1,HCL.out.2.2⟩

theorem l0O {w:World} {g:Nat} {s:PS} {F:List Nat} (h:St w g s F) (htl:s.t.length < 1099511627776) (hpl:s.past.length < 1099511627776) (k:Txt) :
  Calls Tryz.prog 163 #[.pointer (some ⟨g,0,none⟩),.string (bs k)] w (StRet w g F (s.del k) (.bool (getP s.t k).isSome)):=by
 have HST:=hh h;obtain ⟨bm,vb,vp,zs,h,rfl⟩:=h;obtain ⟨ad,cap,hvp,h1,h2⟩:=h.past.shape;obtain ⟨n,hn⟩:=nm (s.past.length);rw [← hn] at hvp h1 hpl;subst hvp;have c3:w.cell? ⟨g,3,none⟩=some (.slice ad n cap):=Lib.cell_of_heap h.bk.head 3;obtain ⟨ok,hok⟩:=nm ((getP s.t k).isSome);obtain ⟨old,hold⟩:=nm ((getP s.t k).getD []);have H:=hh h;have C3:=hh c3;have HN:=hh hn;have HTL:=hh htl;have HOK:=hh hok;have HOLD:=hh hold;have c1:w.cell? ⟨g,1,none⟩=some (.map (some bm)):=Lib.cell_of_heap H.out.bk.head 1;rw [← hok];clear h hn htl hok hold c3
 cases ok with
 | false=>
  have hres:s.del k=s:=by unfold PS.del;rw [if_pos (by have:=HOK.out;cases hg:getP s.t k with | none=>rfl | some _=>rw [hg] at this;cases this)]
  rw [hres];clear hres
  go_enter Tryz.func163,Tryz.ntmps163
  go_wp2_with fail;refine (f0O HST.out k).mono ?_;rintro e w1 ⟨rfl,rfl⟩;rw [← HOK.out,← HOLD.out];go_wp2_with fail
  go_ret
  exact ⟨rfl,_,HST.out,Keep.refl _ _,fun x hx=>.inl hx⟩
 | true=>
  have hres:s.del k=s.put k [] false:=by unfold PS.del;rw [if_neg (by intro e;have:=HOK.out;rw [e] at this;cases this)]
  have hput:s.put k [] false=⟨layP s.t k [] false,s.past ++ [(k,old,true)]⟩:=by unfold PS.put;rw [← HOLD.out,← HOK.out]
  rw [hres,hput];have hn2:n < 1099511627776:=hpl;clear hres hput
  go_enter Tryz.func163,Tryz.ntmps163
  go_wp2_with fail;refine (f0O HST.out k).mono ?_;rintro e w1 ⟨rfl,rfl⟩;rw [← HOK.out,← HOLD.out];go_wp2_with fail;have hS:w.drew.cell? ⟨g,3,none⟩=some (.slice ad n cap):=C3.out;have hst:StAt w.drew g s bm vb (.slice ad n cap) zs:=H.out.keep (Keep.of_below (S:=fun _=>False) (Below.refl _ _).drew) fun _ _=>id
  have HD:=hh hst;clear hst;refine a0b (fun w'=>w'.cell? ⟨g,3,none⟩=some (.slice ad n cap)) 12 13 (by kernel_rfl) rfl ?_;refine tA1 0 15 hS ?_;go_frame;refine tA1 1 16 hS ?_;go_frame;refine tA1 2 17 hS ?_;go_frame;refine tA1 3 18 hS ?_;go_frame;refine tk 4 (some 19) rfl rfl (.inl ⟨by rfl,fun w' hS'=>(by have hc:w'.cell? ⟨g,3,none⟩=_:=hS';go_simp;rfl)⟩) hS ?_;go_frame;refine tA1 5 20 hS ?_;go_frame;refine tA1 6 21 hS ?_;go_frame;refine t1 7 fun K hK=>?_
  simp only [gA,jB,gC];go_simp;refine (f0P HD.out HTL.out k [] false).mono ?_;rintro e w2 ⟨rfl,vb2,zs2,h2,k02,hf2⟩;have hS2:w2.cell? ⟨g,3,none⟩=some (.slice ad n cap):=Lib.cell_of_heap h2.bk.head 3;refine hK _ _ (fun _ _=>hS2) ?_;have hagg:(wasE (wasV s.t k)).toArray=#[.string (bs k),.string (bs old),.bool true]:=by unfold wasV;rw [← HOLD.out,← HOK.out];rfl
  rw [hagg];have H2:=hh h2;have K02:=hh k02;have HF2:=hh hf2;clear hK hS h2 k02 hf2 hagg;have hS:=hS2;clear hS2;refine t1 8 fun K hK=>?_
  simp only [gA,jB,gC];go_simp;obtain ⟨w3,hw3⟩:=nm (w2.alloc (.cells #[.string (bs k),.string (bs old),.bool true] 131));obtain ⟨Y,hY⟩:=nm (w2.heap.size);rw [← hw3,← hY];have hb23:Below w2.heap.size w2 w3:=by rw [hw3];exact (Below.refl _ _).alloc (Nat.le_refl _) _
  have hy3:w3.heap[Y]? = some (.cells #[.string (bs k),.string (bs old),.bool true] 131 (0,0)):=by rw [hw3,hY];exact heap_alloc_new _ _
  have hS3:w3.cell? ⟨g,3,none⟩=some (.slice ad n cap):=(hb23.cell (p:=⟨g,3,none⟩) (a0e H2.out.bk.head)).trans hS;refine hK _ _ (fun _ _=>hS3) ?_;have HB23:=hh hb23;have HY3:=hh hy3;clear hK hS hw3 hY hb23 hy3;have hS:=hS3;clear hS3;refine t1 9 fun K hK=>?_
  simp only [gA,jB,gC];refine b0f (l2:=[(k,old,true)]) _ _ 65 65 rfl Tryz.underlying65 Tryz.underlying65 Tryz.infoWas rfl (by decide) b0u (b0X _) (H2.out.past.later HB23.out) rfl _ rfl
   ⟨some ⟨Y,0,none⟩,1,rfl,Nat.le_refl _,by unfold maxLen;omega,fun _=>⟨Y,0,rfl,a0e HY3.out,fun j hj q hq=>by
    have h0:j=0:=by simpa using hj
    subst h0;rw [Lib.cell_of_heap HY3.out]
    simp [wasE]⟩⟩ (by unfold maxLen;rw [← HN.out];simp;omega) (by rw [← HN.out];simp;omega) ?_
  intro vp' w4 hlo4 k34 hm4;have hS4:w4.cell? ⟨g,3,none⟩=some (.slice ad n cap):=by
   have hg3:=(HB23.out.block g (a0e H2.out.bk.head)).trans H2.out.bk.head
   exact Lib.cell_of_heap (k34.at hg3 ((H2.out.past.later HB23.out).apart hg3 (by decide))) 3
  refine hK _ _ (fun _ _=>hS4) ?_;obtain ⟨ad',cap',hvp',_,_⟩:=hlo4.shape;obtain ⟨n',hn'⟩:∃ n',n'=(s.past ++ [(k,old,true)]).length:=⟨_,rfl⟩;rw [← hn'] at hvp';subst hvp';have hg4:w4.heap[g]? = some (.cells #[.bool true,.map (some bm),vb2,.slice ad n cap] 67 (0,0)):=by
   have hg3:=(HB23.out.block g (a0e H2.out.bk.head)).trans H2.out.bk.head
   exact k34.at hg3 ((H2.out.past.later HB23.out).apart hg3 (by decide))
  have hm':Value.ownBlock (.slice ad' n' cap')=Value.ownBlock (.slice ad n cap)∨∀ k,Value.ownBlock (.slice ad' n' cap')=some k→w2.heap.size≤k:=by
   rcases hm4 with h | ⟨q,h,h'⟩
   ·exact .inl h
   ·right
    intro k e;rw [e] at h;cases h
    exact Nat.le_trans HB23.out.size h'
  have HLO4:=hh hlo4;have K24:=hh ((Keep.of_below HB23.out).then k34 (fun x hx=>.inl hx));have HM':=hh hm';have HG4:=hh hg4;clear hK hS hlo4 k34 hm4 hn' hm' hg4;have hS:=hS4;clear hS4;refine tA1 10 25 hS ?_;go_frame;refine tA1 11 26 hS ?_;go_frame;refine t1 12 fun K hK=>?_
  simp only [gA,jB,gC];refine a0h 65 _ _ rfl g 3 _ rfl rfl rfl rfl 67 _ HG4.out (by kernel_rfl) (by simp) _ rfl ?_;intro w5 h5 k45 _;refine hK _ _ (fun h=>absurd rfl h) ?_;refine tD ?_;have hk0:Keep (fun x=>x=g∨x=bm∨x∈footB vb zs) w w2:=(Keep.of_below (Below.refl _ _).drew).then K02.out (fun x hx=>.inl hx);have hcl:=c0H H.out H2.out hk0 HF2.out HLO4.out K24.out HM'.out h5 k45;have HCL:=hh hcl;clear hK hS h5 k45 hcl hk0;go_wp2_with fail
  go_ret
  exact ⟨rfl,_,⟨bm,vb2,_,zs2,HCL.out.1,rfl⟩,HCL.out.2.1,HCL.out.2.2⟩

def pastLen (w:World) (g:Nat):Nat:=match w.cell? ⟨g,3,none⟩ with
 | some (.slice _ n _)=>n
 | _=>0
theorem e0S {w:World} {g:Nat} {s:PS} {F:List Nat} (h:St w g s F):pastLen w g=s.past.length:=by
 obtain ⟨bm,vb,vp,zs,h,rfl⟩:=h;obtain ⟨ad,cap,hvp,h1,h2⟩:=h.past.shape
 unfold pastLen
 rw [show w.cell? ⟨g,3,none⟩=some vp from Lib.cell_of_heap h.bk.head 3,hvp]
theorem d0z:∀ (n:Nat) (s:PS),PS.backs (n+1) s=(PS.backs n s).back
 | 0,_=>rfl
 | n+1,s=>by rw [PS.backs,d0z n s.back];rfl
theorem j0V (s:PS):s.back.past=s.past.dropLast:=by
 unfold PS.back
 split
 ·rename_i h
  rw [List.getLast?_eq_none_iff.1 h];rfl
 ·rfl
theorem h0r (s:PS):s.back.t.length≤s.t.length+1:=by
 unfold PS.back
 split
 ·exact Nat.le_succ _
 ·exact d0g _ _ _ _
theorem d0t:∀ (n:Nat) (s:PS),(PS.backs n s).past.length=s.past.length - n
 | 0,_=>rfl
 | n+1,s=>by rw [PS.backs,d0t n s.back,j0V,List.length_dropLast];omega
theorem c0z:∀ (n:Nat) (s:PS),(PS.backs n s).t.length≤s.t.length+n
 | 0,_=>Nat.le_refl _
 | n+1,s=>by rw [PS.backs];have:=c0z n s.back;have:=h0r s;omega
theorem d0j {w:World} {g:Nat} {s:PS} {F:List Nat} (h:St w g s F) (htl:s.t.length+s.past.length < 1099511627776) (m:Int) :
  Calls Tryz.prog 57 #[.pointer (some ⟨g,0,none⟩),.int .i64 m] w (StRet w g F (s.undo m) (.bool (undoE s m))):=by
 have HST:=hh h;obtain ⟨bm,vb,vp,zs,h,hF⟩:=h;obtain ⟨ad,cap,hvp,h1,h2⟩:=h.past.shape;obtain ⟨n,hn⟩:=nm (s.past.length);rw [← hn] at hvp h1 htl;subst hvp;have c3:w.cell? ⟨g,3,none⟩=some (.slice ad n cap):=Lib.cell_of_heap h.bk.head 3;have HH:=hh h.bk.head;have HN:=hh hn;have HTL:=hh htl;clear h hF
 by_cases hm:0≤m∧m≤n
 ·obtain ⟨hm0,hm1⟩:=hm;have hE:undoE s m=true:=by unfold undoE;rw [← hn];simp;omega
  have hU:s.undo m=PS.backs (n - m.toNat) s:=by unfold PS.undo;rw [hE,if_pos rfl,← hn]
  rw [hE,hU];obtain ⟨k,rfl⟩:=Int.eq_ofNat_of_zero_le hm0;rw [Int.toNat_natCast];have hkn:k≤n:=by omega
  have j0:decide ((k:Int) < 0)=false:=by simp
  have j1:¬ n < k:=by omega
  clear hE hU hm0 hm1 hn
  go_enter Tryz.func57,Tryz.ntmps57
  go_wp2_with fail;refine (b0J g _ _ _ HH.out rfl).mono ?_;rintro e w1 ⟨rfl,rfl⟩;go_wp2_with fail;clear j0 j1
  go_loopw [5] (fun _ wr=>∃ j F',j≤n - k∧Hid (St wr g (PS.backs j s) F')∧Hid (Keep (·∈F) w wr)∧Hid (∀ x∈F',x∈F∨w.heap.size≤x)) (fun _ wr=>pastLen wr g - k)
  case atStart=>exact ⟨0,F,Nat.zero_le _,HST,hh (Keep.refl _ _),hh fun x hx=>.inl hx⟩
  case round=>
   obtain ⟨j,F',hj,HS,HK,HF⟩:=hrel;obtain ⟨s',hs'⟩:∃ s',s'=PS.backs j s:=⟨_,rfl⟩;rw [← hs'] at HS;have hpl:s'.past.length=n - j:=by rw [hs',d0t,← HN.out]
   have htl:s'.t.length < 1099511627776:=by have h3:=c0z j s;rw [← hs'] at h3;have:=HTL.out;omega
   obtain ⟨bm',vb',vp',zs',h',hF'⟩:=HS.out;have hmeas:pastLen wr g=s'.past.length:=e0S HS.out;obtain ⟨ad',cap',hvp',e1,e2⟩:=h'.past.shape;obtain ⟨q,hq⟩:=nm (s'.past.length);rw [← hq] at hvp' e1 hpl hmeas;have HB:=hh hs';have HT:=hh htl;have HQ:=hh hq;have HME:=hh hmeas;have HF':=hh hF';have HPL:=hh hpl;subst hvp';have H':=hh h';have c3':wr.cell? ⟨g,3,none⟩=some (.slice ad' q cap'):=Lib.cell_of_heap h'.bk.head 3;clear hs' htl hq hmeas hF' h' c3 hpl
   by_cases hlt:k < q
   ·obtain ⟨l,rfl⟩:∃ l,q=l+1:=⟨q - 1,by omega⟩;have hne:s'.past≠[]:=by intro e;have:=HQ.out;rw [e] at this;simp at this
    obtain ⟨init,r,hir⟩:∃ init r,s'.past=init ++ [r]:=⟨_,_,(List.dropLast_concat_getLast hne).symm⟩;have hil:init.length=l:=by have:=HQ.out;rw [hir,List.length_append] at this;simp at this;omega
    obtain ⟨gp,cap2,cur,hv2,hgp,d1,d2,d3,d4⟩:=H'.out.past.opened hne;have hadc:ad'=some ⟨gp,0,none⟩∧cap'=cap2:=⟨(Value.slice.inj hv2).1,(Value.slice.inj hv2).2.2⟩;obtain ⟨rfl,rfl⟩:=hadc;have hcell:∀ i,i < 3→wr.cell? ⟨gp,l*3+i,none⟩=(wasE r)[i]?:=by
     intro i hi;obtain ⟨ax,cx,e3,_,_,h3⟩:=H'.out.past.rd b0u;obtain ⟨b,off,e4,_,h5⟩:=h3 hne;have e5:=(Value.slice.inj e3).1.trans e4;simp only [Option.some.injEq,Addr.mk.injEq] at e5;obtain ⟨rfl,rfl,_⟩:=e5;have h6:=h5 l (by have:=HQ.out;omega) i hi;have h7:s'.past[l]'(by have:=HQ.out;omega)=r:=by
      have:s'.past[l]? = some r:=by rw [hir,List.getElem?_append_right (by omega),hil];simp
      rw [List.getElem?_eq_getElem (by have:=HQ.out;omega)] at this
      exact Option.some.inj this
     rw [h7,Nat.zero_add] at h6
     exact h6
    have q0:wr.cell? ⟨gp,l*3,none⟩=some (.string (bs r.1)):=hcell 0 (by omega);have q1:wr.cell? ⟨gp,l*3+1,none⟩=some (.string (bs r.2.1)):=hcell 1 (by omega);have q2:wr.cell? ⟨gp,l*3+2,none⟩=some (.bool r.2.2):=hcell 2 (by omega);have HIR:=hh hir;have HIL:=hh hil;have hcm:((l+1:Nat):Int)=(l:Int)+1:=by omega
    have hl40:l < 1099511627776:=by have:=HTL.out;have:=HPL.out;omega
    clear hcell hir hil hv2 hgp d1 d2 d3 d4 hne
    go_wp2_with (refine sA _ Tryz.zeroWas ?_)
    intro R w1 h1
    go_wp2_with (refine a0a (t:=131) (old:=#[.string (bs []),.string (bs []),.bool false]) rfl 131 _ _ rfl R #[.string (bs r.1),.string (bs r.2.1),.bool r.2.2] rfl rfl h1.out.cells Tryz.sizeWas rfl (by simp [Value.oneCell']) ?_)
    intro w2 h2' k12 z12;have hb12:Below wr.heap.size wr w2:=h1.out.below.trans (k12.below (B:=wr.heap.size) (fun x hx e=>by have:=h1.out.eq;omega) h1.out.below.size);have hR:R=wr.heap.size:=h1.out.eq;have H2:=hh (H'.out.keep (Keep.of_below (S:=fun _=>False) hb12) fun _ _=>id);have HW2:=hh h2';have HB12:=hh hb12;have HR:=hh hR;clear h2' k12 z12 hb12 hR h1 q0 q1 q2 c3';have c3':w2.cell? ⟨g,3,none⟩=some (.slice (some ⟨gp,0,none⟩) (l+1) cap'):=Lib.cell_of_heap H2.out.bk.head 3;have hlc:(l:Int)≤(cap':Int):=by omega
    have hlc2:(l:Int)≤(l:Int)+1:=by omega
    go_wp2_with (refine a0o rfl 65 _ _ rfl g 3 _ rfl rfl rfl rfl 67 _ H2.out.bk.head (by kernel_rfl) (by simp) _ rfl ?_)
    intro w3 h3 k23 z23;have hcut:LO w2 131 wasE 3 (.slice (some ⟨gp,0,none⟩) l l) init:=by
     have h4:=H2.out.past.cut b0u l l (by omega) (Nat.le_refl _) (by omega);rw [HIR.out,List.take_left' HIL.out] at h4
     exact h4
    have hcl:=c0H (w:=wr) (w2:=w2) (w4:=w2) (vp':=.slice (some ⟨gp,0,none⟩) l l) (p':=init) (t':=s'.t) H'.out H2.out (Keep.of_below HB12.out) (fun x hx=>.inl hx) hcut (Keep.refl _ _) (.inl rfl) h3 k23;have hr3:w3.heap[R]? = some (.cells #[.string (bs r.1),.string (bs r.2.1),.bool r.2.2] 131 (0,0)):=k23.at HW2.out (by have:=HR.out;have:=a0e H'.out.bk.head;omega);have HC3:=hh hcl;have HR3:=hh hr3;clear h3 k23 z23 hcut hcl hr3 c3' hlc hlc2;have r0:w3.cell? ⟨R,0,none⟩=some (.string (bs r.1)):=Lib.cell_of_heap HR3.out 0;have r1:w3.cell? ⟨R,1,none⟩=some (.string (bs r.2.1)):=Lib.cell_of_heap HR3.out 1;have r2:w3.cell? ⟨R,2,none⟩=some (.bool r.2.2):=Lib.cell_of_heap HR3.out 2;go_wp2_with fail;refine (f0P HC3.out.1 HT.out r.1 r.2.1 r.2.2).mono ?_;rintro e w6 ⟨rfl,vb6,zs6,h6,k36,hf6⟩;have hback:s'.back=⟨layP s'.t r.1 r.2.1 r.2.2,init⟩:=by
     unfold PS.back
     rw [HIR.out,List.getLast?_append]
     simp
    have hst6:St w6 g (PS.backs (j+1) s) (foot g bm' vb6 (.slice (some ⟨gp,0,none⟩) l l) zs6):=by
     rw [d0z,← HB.out,hback]
     exact ⟨_,_,_,_,h6,rfl⟩
    have hk6:Keep (·∈F) w w6:=by
     have a1:Keep (·∈F) w w3:=HK.out.then HC3.out.2.1 fun x hx=>HF.out x (by rw [HF'.out];exact hx)
     refine a1.then k36 fun x hx=>?_
     have hx3:x∈foot g bm' vb' (.slice (some ⟨gp,0,none⟩) l l) zs':=by
      rw [d0y]
      rcases hx with h | h | h
      ·exact .inl h
      ·exact .inr (.inl h)
      ·exact .inr (.inr (.inr h))
     rcases HC3.out.2.2 x hx3 with h | h
     ·exact HF.out x (by rw [HF'.out];exact h)
     ·exact .inr (Nat.le_trans HK.out.size h)
    have hf7:∀ x∈foot g bm' vb6 (.slice (some ⟨gp,0,none⟩) l l) zs6,x∈F∨w.heap.size≤x:=by
     intro x hx;have hx3:x∈foot g bm' vb' (.slice (some ⟨gp,0,none⟩) l l) zs'∨w3.heap.size≤x:=by
      rw [d0y] at hx ⊢
      rcases hx with h | h | h | h
      ·exact .inl (.inl h)
      ·exact .inl (.inr (.inl h))
      ·exact .inl (.inr (.inr (.inl h)))
      ·rcases hf6 x h with h | h
       ·exact .inl (.inr (.inr (.inr h)))
       ·exact .inr h
     rcases hx3 with hx3 | hx3
     ·rcases HC3.out.2.2 x hx3 with h | h
      ·exact HF.out x (by rw [HF'.out];exact h)
      ·exact .inr (Nat.le_trans HK.out.size h)
     ·exact .inr (Nat.le_trans HK.out.size (Nat.le_trans HC3.out.2.1.size hx3))
    have hme:pastLen w6 g=l:=by rw [e0S ⟨_,_,_,_,h6,rfl⟩];exact HIL.out
    have S6:=hh hst6;have K6:=hh hk6;have F6:=hh hf7;have M6:=hh hme;clear h6 k36 hf6 hback hst6 hk6 hf7 hme r0 r1 r2;go_wp2_with fail
    go_roundw
    case rel=>exact ⟨j+1,_,by have:=HPL.out;omega,S6,K6,F6⟩
    case measure=>rw [M6.out,HME.out];omega
   ·go_wp2_with fail
    go_ret
    have hjn:n - k=j:=by have:=HPL.out;omega
    refine ⟨rfl,F',?_,HK.out,HF.out⟩;rw [hjn,← HB.out]
    exact HS.out
 ·have hE:undoE s m=false:=by unfold undoE;rw [← hn];simp;omega
  have hU:s.undo m=s:=by unfold PS.undo;rw [hE,if_neg (by simp)]
  rw [hE,hU];clear hE hU hn
  by_cases hm0:m < 0
  ·have j0:decide (m < 0)=true:=by simpa using hm0
   go_enter Tryz.func57,Tryz.ntmps57
   go_wp2_with fail;refine (b0J g _ _ _ HH.out rfl).mono ?_;rintro e w1 ⟨rfl,rfl⟩;go_wp2_with fail
   go_ret
   exact ⟨rfl,_,HST.out,Keep.refl _ _,fun x hx=>.inl hx⟩
  ·have j0:decide (m < 0)=false:=by simpa using hm0
   have j1:decide (m > (n:Int))=true:=by simp;omega
   go_enter Tryz.func57,Tryz.ntmps57
   go_wp2_with fail;refine (b0J g _ _ _ HH.out rfl).mono ?_;rintro e w1 ⟨rfl,rfl⟩;go_wp2_with fail
   go_ret
   exact ⟨rfl,_,HST.out,Keep.refl _ _,fun x hx=>.inl hx⟩
end Go.Proofs.YtabminbgoclnkaaGreat
