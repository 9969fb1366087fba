/- lay, Set, Delete, Undo, Settle of a store: no condition. -/
import Derived.Test.YtabminbgoclnkaaGreatVaStoE
import Derived.Test.YtabminbgoclnkaaGreatVaReg
namespace Go.Proofs.YtabminbgoclnkaaGreat
set_option maxHeartbeats 8000000
set_option maxRecDepth 100000
open Go.RowKit

theorem Tryz.zeroWas (w:World):(zeroValue 131).run Tryz.prog w = .ok (.agg #[.string (bs []),.string (bs []),.bool false]) w:=by kernel_rfl
theorem Tryz.sizeWas:(Tryz.prog.info? 131).map (·.size)=some 3:=by kernel_rfl
theorem Tryz.infoWas:(Tryz.prog.info? 131).map (fun i=>(i.zero,i.size,i.bytes))=some (some (.agg #[.string ⟨#[]⟩,.string ⟨#[]⟩,.bool false]),3,40):=by kernel_rfl
def wasV (t:Tab) (k:Txt):WasP:=(k,(getP t k).getD [],(getP t k).isSome)
theorem m0i {zs:List (Value × List Txt)} (h:∀ z∈zs,z.2≠[]):zs.length≤((zs.map (·.2)).flatten).length:=by
 induction zs with
 | nil=>exact Nat.zero_le _
 | cons z zs ih=>
  rw [List.map_cons,List.flatten_cons,List.length_append,List.length_cons];have h1:=List.length_pos_iff.2 (h z List.mem_cons_self);have:=ih fun y hy=>h y (List.mem_cons_of_mem _ hy)
  omega
theorem StAt.few {w:World} {g:Nat} {s:PS} {bm:Nat} {vb vp:Value} {zs:List (Value × List Txt)} (h:StAt w g s bm vb vp zs):zs.length≤s.t.length:=by
 have:=m0i fun z hz=>(h.bk.ne z hz).1
 rw [h.flat] at this
 unfold keysP at this
 rw [List.length_map] at this
 exact this
theorem a0u {w:World} {g:Nat} {t:Tab} (h:MapIs w g t) {k:Nat} {cs:Array Value} {e:TypeId} (hk:w.heap[k]? = some (.cells cs e (0,0))):g≠k:=by
 rintro rfl;obtain ⟨es,c,hb,_⟩:=h;rw [hb] at hk;cases hk
theorem c0G {w:World} {g bm:Nat} {vb vp:Value} {zs:List (Value × List Txt)} (h:Bk w g bm vb vp zs) {t:Tab} (hm:MapIs w bm t):∀ x∈footB vb zs,x≠bm:=by
 rintro x hx rfl
 unfold footB at hx
 rcases List.mem_append.1 hx with hx | hx
 ·rw [Option.mem_toList] at hx;obtain ⟨cs,hc⟩:=h.blocks.kind hx
  exact a0u hm hc rfl
 ·obtain ⟨y,hy,e⟩:=List.mem_filterMap.1 hx;obtain ⟨cs,hc⟩:=(h.rows.rows y hy).kind e
  exact a0u hm hc rfl
theorem g0S {w:World} {g bm:Nat} {vb vp:Value} {zs:List (Value × List Txt)} (h:Bk w g bm vb vp zs) {l:List WasP} (hp:LO w 131 wasE 3 vp l):∀ x∈footB vb zs,vp.ownBlock≠some x:=by
 intro x hx e
 unfold footB at hx
 rcases List.mem_append.1 hx with hx | hx
 ·rw [Option.mem_toList] at hx;obtain ⟨cs,hc⟩:=h.blocks.kind hx
  exact hp.apart hc (by decide) e
 ·obtain ⟨y,hy,e2⟩:=List.mem_filterMap.1 hx;obtain ⟨cs,hc⟩:=(h.rows.rows y hy).kind e2
  exact hp.apart hc (by decide) e
def LayRet (w:World) (g bm:Nat) (vb vp:Value) (zs:List (Value × List Txt)) (s:PS) (k v:Txt) (there:Bool) (e:Ending) (w':World):Prop:=
 e = .returned (.agg (wasE (wasV s.t k)).toArray)∧∃ vb' zs',StAt w' g ⟨layP s.t k v there,s.past⟩ bm vb' vp zs'∧Keep (fun x=>x=g∨x=bm∨x∈footB vb zs) w w'∧∀ x∈footB vb' zs',x∈footB vb zs∨w.heap.size≤x

theorem d0m {w w1 w2 w3 w4:World} {g bm R:Nat} {vb vp vb2:Value} {zs zs2:List (Value × List Txt)} {s:PS} {t':Tab} (h0:StAt w g s bm vb vp zs) (hb01:Below w.heap.size w w1) (hR:R=w.heap.size) (hR1:R < w1.heap.size)
  (h1:StAt w1 g s bm vb vp zs) (hb2:Bk w2 g bm vb2 vp zs2) (k12:Keep (fun x=>x=g∨x∈footB vb zs) w1 w2) (hf2:∀ x∈footB vb2 zs2,x∈footB vb zs∨w1.heap.size≤x)
  (k23:Keep (· = bm) w2 w3) (hm3:MapIs w3 bm t') (k34:Keep (· = R) w3 w4) (hup:Up t') (hfl:(zs2.map (·.2)).flatten=keysP t') :
  StAt w4 g ⟨t',s.past⟩ bm vb2 vp zs2∧Keep (fun x=>x=g∨x=bm∨x∈footB vb zs) w w4∧∀ x∈footB vb2 zs2,x∈footB vb zs∨w.heap.size≤x:=by
 have hlt:∀ x∈foot g bm vb vp zs,x < w.heap.size:=fun x hx=>(St.lt ⟨bm,vb,vp,zs,h0,rfl⟩) x hx
 have hgR:g≠R:=by have:=hlt g (by simp [foot]);omega
 have hbR:bm≠R:=by have:=hlt bm (by simp [foot]);omega
 have hvR:∀ k,vp.ownBlock=some k→k≠R:=fun k e=>by have:=hlt k (by simp [foot,e]);omega
 have hfR:∀ x∈footB vb2 zs2,x≠R:=fun x hx=>by
  rcases hf2 x hx with h | h
  ·have:=hlt x (by simp [foot,h]);omega
  ·omega
 have hm1:MapIs w2 bm s.t:=h1.map.keep k12 (by
  rintro (e | e)
  ·exact a0u h1.map h1.bk.head e
  ·exact c0G h1.bk h1.map _ e rfl)
 have hp2:LO w2 131 wasE 3 vp s.past:=h1.past.keep k12 fun k e=>by
  rintro (e2 | e2)
  ·exact h1.past.apart h1.bk.head (by decide) (by rw [e,e2])
  ·exact g0S h1.bk h1.past k e2 e
 have hb3:=hb2.keep k23 (fun e=>a0u hm1 hb2.head e.symm) (fun x hx e=>c0G hb2 hm1 x hx e);have hp3:=hp2.keep k23 (fun k e e2=>by
  obtain ⟨cs,hc⟩:=hp2.kind e
  exact a0u hm1 hc e2.symm)
 refine ⟨⟨hb3.keep k34 hgR hfR,hm3.keep k34 hbR,hp3.keep k34 hvR,hup,hfl⟩,?_,fun x hx=>(hf2 x hx).imp id (Nat.le_trans hb01.size)⟩;refine ((((Keep.of_below hb01).then k12 ?_).then k23 ?_).then k34 ?_)
 ·rintro x (hx | hx)
  ·exact .inl (.inl hx)
  ·exact .inl (.inr (.inr hx))
 ·intro x hx;exact .inl (.inr (.inl hx))
 ·intro x hx;right;rw [hx,hR];exact Nat.le_refl _

theorem f0P {w:World} {g:Nat} {s:PS} {bm:Nat} {vb vp:Value} {zs:List (Value × List Txt)} (h:StAt w g s bm vb vp zs) (hl:s.t.length < 1099511627776) (k v:Txt) (there:Bool) :
  Calls Tryz.prog 106 #[.pointer (some ⟨g,0,none⟩),.string (bs k),.string (bs v),.bool there] w (LayRet w g bm vb vp zs s k v there):=by
 have H:=hh h;have hlz:zs.length < 1099511627776:=Nat.lt_of_le_of_lt h.few hl;have HLZ:=hh hlz;obtain ⟨ok,hok⟩:=nm ((getP s.t k).isSome);obtain ⟨old,hold⟩:=nm ((getP s.t k).getD []);have HOK:=hh hok;have HOLD:=hh hold;clear h hl hlz hok hold
 go_enter Tryz.func106,Tryz.ntmps106
 go_wp2_with (refine sA _ Tryz.zeroWas ?_)
 intro R w1 h1;have hst1:=H.out.keep (Keep.of_below (S:=fun _=>False) h1.out.below) fun _ _=>id
 have H1:=hh hst1;clear hst1;have c1:w1.cell? ⟨g,1,none⟩=some (.map (some bm)):=Lib.cell_of_heap H1.out.bk.head 1;have H01:=hh h1.out;have hlt:∀ x∈foot g bm vb vp zs,x < w.heap.size:=fun x hx=>(St.lt ⟨bm,vb,vp,zs,H.out,rfl⟩) x hx
 have hrg:g≠R:=by have:=hlt g (by simp [foot]);have:=h1.out.eq;omega
 have hrf:∀ x∈footB vb zs,x≠R:=fun x hx=>by have:=hlt x (by simp [foot,hx]);have:=h1.out.eq;omega
 have HRG:=hh hrg;have HRF:=hh hrf;have huk:UpK (zs.map (·.2)).flatten:=by rw [H.out.flat];exact c0Z.2 H.out.up
 have HUK:=hh huk;clear hlt hrg hrf huk h1
 cases there with
 | true=>
  cases ok with
  | true=>
   have hg:getP s.t k≠none:=by have:=HOK.out;intro e;rw [e] at this;cases this
   have HG:=hh hg;clear hg
   go_wp2_with (first | (refine a0I rfl 63 _ _ rfl Tryz.underlying63 Tryz.underlying9 zeroStr H1.out.map k rfl rfl ?_;rw [← HOK.out,← HOLD.out]) | (refine f0n rfl 63 _ _ _ rfl Tryz.underlying63 Tryz.underlying9 H.out.up H1.out.map k v rfl rfl rfl ?_))
   intro w3 hm3 k23 _;have HM3:=hh hm3;have K23:=hh k23;clear hm3 k23;have hr3:w3.heap[R]? = some (.cells #[.string (bs []),.string (bs []),.bool false] 131 (0,0)):=K23.out.at H01.out.cells (fun e=>a0u H1.out.map H01.out.cells e.symm);have HR3:=hh hr3;clear hr3
   go_wp2_with (refine sR 131 #[.string (bs k),.string (bs old),.bool true] HR3 Tryz.sizeWas ?_)
   intro w4 h4 k34 _;have H4:=hh h4;have K34:=hh k34;clear h4 k34;go_wp2_with fail;have hcl:=d0m (t':=layP s.t k v true) H.out H01.out.below H01.out.eq (a0e H01.out.cells) H1.out H1.out.bk (Keep.refl _ _) (fun x hx=>.inl hx) K23.out HM3.out K34.out (b0F H.out.up k v true) (by unfold layP;rw [if_pos rfl,e0O v H.out.up HG.out];exact H.out.flat);refine bodyPost_ret (results_cell_row rfl _ _ R _ _ _ _ rfl H4.out Tryz.underlying131 rfl Tryz.sizeWas) rfl ⟨?_,_,_,hcl⟩
   unfold wasV
   rw [← HOLD.out,← HOK.out];rfl
  | false=>
   have hg:getP s.t k=none:=by have:=HOK.out;cases e:getP s.t k with | none=>rfl | some _=>rw [e] at this;cases this
   have hk:k ∉ (zs.map (·.2)).flatten:=by rw [H.out.flat];exact fun h=>f0U.1 h hg
   have HG:=hh hg;have HK:=hh hk;clear hg hk
   go_wp2_with (refine a0I rfl 63 _ _ rfl Tryz.underlying63 Tryz.underlying9 zeroStr H1.out.map k rfl rfl ?_;rw [← HOK.out,← HOLD.out])
   refine (k0m H1.out.bk HUK.out HLZ.out k HK.out).mono ?_;rintro e w2 ⟨rfl,vb2,zs2,xs,ys,hb2,hx,hy,hlx,hly,k12,hf2⟩;have HB2:=hh hb2;have K12:=hh k12;have HF2:=hh hf2;have hfl:(zs2.map (·.2)).flatten=keysP (insP s.t k v):=by
    rw [hy];exact (h0W k v (by rw [← H.out.flat];exact hx) hlx hly).symm
   have HFL:=hh hfl;clear hb2 k12 hf2 hx hy hlx hly hfl c1;have c1:w2.cell? ⟨g,1,none⟩=some (.map (some bm)):=Lib.cell_of_heap HB2.out.head 1
   go_wp2_with (refine f0n rfl 63 _ _ _ rfl Tryz.underlying63 Tryz.underlying9 H.out.up (H1.out.map.keep K12.out (by rintro (e | e);exact a0u H1.out.map H1.out.bk.head e;exact c0G H1.out.bk H1.out.map _ e rfl)) k v rfl rfl rfl ?_)
   intro w3 hm3 k23 _;have HM3:=hh hm3;have K23:=hh k23;clear hm3 k23;have hr3:w3.heap[R]? = some (.cells #[.string (bs []),.string (bs []),.bool false] 131 (0,0)):=K23.out.at (K12.out.at H01.out.cells (by rintro (e | e);exact HRG.out e.symm;exact HRF.out _ e rfl)) (fun e=>a0u (H1.out.map.keep K12.out (by rintro (e | e);exact a0u H1.out.map H1.out.bk.head e;exact c0G H1.out.bk H1.out.map _ e rfl)) (K12.out.at H01.out.cells (by rintro (e | e);exact HRG.out e.symm;exact HRF.out _ e rfl)) e.symm);have HR3:=hh hr3;clear hr3
   go_wp2_with (refine sR 131 #[.string (bs k),.string (bs old),.bool false] HR3 Tryz.sizeWas ?_)
   intro w4 h4 k34 _;have H4:=hh h4;have K34:=hh k34;clear h4 k34;go_wp2_with fail;have hcl:=d0m (t':=layP s.t k v true) H.out H01.out.below H01.out.eq (a0e H01.out.cells) H1.out HB2.out K12.out HF2.out K23.out HM3.out K34.out (b0F H.out.up k v true) HFL.out;refine bodyPost_ret (results_cell_row rfl _ _ R _ _ _ _ rfl H4.out Tryz.underlying131 rfl Tryz.sizeWas) rfl ⟨?_,_,_,hcl⟩
   unfold wasV
   rw [← HOLD.out,← HOK.out];rfl
 | false=>
  cases ok with
  | true=>
   have hg:getP s.t k≠none:=by have:=HOK.out;intro e;rw [e] at this;cases this
   have hk:k∈(zs.map (·.2)).flatten:=by rw [H.out.flat];exact f0U.2 hg
   have HG:=hh hg;have HK:=hh hk;clear hg hk
   go_wp2_with (refine a0I rfl 63 _ _ rfl Tryz.underlying63 Tryz.underlying9 zeroStr H1.out.map k rfl rfl ?_;rw [← HOK.out,← HOLD.out])
   refine (k0k H1.out.bk HUK.out HLZ.out k HK.out).mono ?_;rintro e w2 ⟨rfl,vb2,zs2,xs,ys,hb2,hx,hy,k12,hf2⟩;have HB2:=hh hb2;have K12:=hh k12;have HF2:=hh hf2;have hfl:(zs2.map (·.2)).flatten=keysP (delP s.t k):=by
    rw [hy];exact (i0v H.out.up (by rw [← H.out.flat];exact hx)).symm
   have HFL:=hh hfl;clear hb2 k12 hf2 hx hy hfl c1;have c1:w2.cell? ⟨g,1,none⟩=some (.map (some bm)):=Lib.cell_of_heap HB2.out.head 1
   go_wp2_with (refine e0u rfl 63 9 _ _ rfl Tryz.underlying63 Tryz.underlying9 H.out.up (H1.out.map.keep K12.out (by rintro (e | e);exact a0u H1.out.map H1.out.bk.head e;exact c0G H1.out.bk H1.out.map _ e rfl)) k rfl rfl ?_)
   intro w3 hm3 k23 _;have HM3:=hh hm3;have K23:=hh k23;clear hm3 k23;have hr3:w3.heap[R]? = some (.cells #[.string (bs []),.string (bs []),.bool false] 131 (0,0)):=K23.out.at (K12.out.at H01.out.cells (by rintro (e | e);exact HRG.out e.symm;exact HRF.out _ e rfl)) (fun e=>a0u (H1.out.map.keep K12.out (by rintro (e | e);exact a0u H1.out.map H1.out.bk.head e;exact c0G H1.out.bk H1.out.map _ e rfl)) (K12.out.at H01.out.cells (by rintro (e | e);exact HRG.out e.symm;exact HRF.out _ e rfl)) e.symm);have HR3:=hh hr3;clear hr3
   go_wp2_with (refine sR 131 #[.string (bs k),.string (bs old),.bool true] HR3 Tryz.sizeWas ?_)
   intro w4 h4 k34 _;have H4:=hh h4;have K34:=hh k34;clear h4 k34;go_wp2_with fail;have hcl:=d0m (t':=layP s.t k v false) H.out H01.out.below H01.out.eq (a0e H01.out.cells) H1.out HB2.out K12.out HF2.out K23.out HM3.out K34.out (b0F H.out.up k v false) HFL.out;refine bodyPost_ret (results_cell_row rfl _ _ R _ _ _ _ rfl H4.out Tryz.underlying131 rfl Tryz.sizeWas) rfl ⟨?_,_,_,hcl⟩
   unfold wasV
   rw [← HOLD.out,← HOK.out];rfl
  | false=>
   have hg:getP s.t k=none:=by have:=HOK.out;cases e:getP s.t k with | none=>rfl | some _=>rw [e] at this;cases this
   have HG:=hh hg;clear hg
   go_wp2_with (first | (refine a0I rfl 63 _ _ rfl Tryz.underlying63 Tryz.underlying9 zeroStr H1.out.map k rfl rfl ?_;rw [← HOK.out,← HOLD.out]) | (refine e0u rfl 63 9 _ _ rfl Tryz.underlying63 Tryz.underlying9 H.out.up H1.out.map k rfl rfl ?_))
   intro w3 hm3 k23 _;have HM3:=hh hm3;have K23:=hh k23;clear hm3 k23;have hr3:w3.heap[R]? = some (.cells #[.string (bs []),.string (bs []),.bool false] 131 (0,0)):=K23.out.at H01.out.cells (fun e=>a0u H1.out.map H01.out.cells e.symm);have HR3:=hh hr3;clear hr3
   go_wp2_with (refine sR 131 #[.string (bs k),.string (bs old),.bool false] HR3 Tryz.sizeWas ?_)
   intro w4 h4 k34 _;have H4:=hh h4;have K34:=hh k34;clear h4 k34;go_wp2_with fail;have hcl:=d0m (t':=layP s.t k v false) H.out H01.out.below H01.out.eq (a0e H01.out.cells) H1.out H1.out.bk (Keep.refl _ _) (fun x hx=>.inl hx) K23.out HM3.out K34.out (b0F H.out.up k v false) (by unfold layP;rw [if_neg (by simp),c0c HG.out];exact H.out.flat);refine bodyPost_ret (results_cell_row rfl _ _ R _ _ _ _ rfl H4.out Tryz.underlying131 rfl Tryz.sizeWas) rfl ⟨?_,_,_,hcl⟩
   unfold wasV
   rw [← HOLD.out,← HOK.out];rfl
end Go.Proofs.YtabminbgoclnkaaGreat
