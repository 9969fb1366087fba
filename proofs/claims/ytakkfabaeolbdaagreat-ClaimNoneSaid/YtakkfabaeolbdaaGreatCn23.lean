/- Under, All and Copy of a store: no condition. Plain facts on numbers in a store: no condition. -/
import Derived.Test.YtakkfabaeolbdaaGreatCn22
import Derived.Test.YtakkfabaeolbdaaGreatCn5
namespace Go.Proofs.YtakkfabaeolbdaaGreat
section
set_option maxHeartbeats 8000000
set_option maxRecDepth 100000
open Go.RowKit

theorem k0t (a b:Txt) (w:World):Calls Tryz.prog 197 #[.string (bs a),.string (bs b)] w fun e w'=>e = .returned (.bool (b.isPrefixOf a))∧w=w':=by
 obtain ⟨n,hn⟩:=nm (a.length);obtain ⟨m,hm⟩:=nm (b.length);have ha:(bs a).size=n:=by rw [b0e,hn]
 have hb:(bs b).size=m:=by rw [b0e,hm]
 by_cases h:m≤n
 ·have hext:(bs a).extract 0 m=bs (a.take m):=by rw [g0Q];simp
  have hres:((bs (a.take m)).toList == (bs b).toList)=b.isPrefixOf a:=by
   rw [a0j,a0j,Bool.eq_iff_iff,beq_iff_eq,List.isPrefixOf_iff_prefix,List.prefix_iff_eq_take,← hm]
   exact ⟨fun h=>h.symm,fun h=>h.symm⟩
  obtain ⟨r,hr⟩:=nm (b.isPrefixOf a);rw [← hr] at hres ⊢;have hmn:(m:Int)≤(n:Int):=by omega
  clear hr hn hm
  go_enter Tryz.func197,Tryz.ntmps197
  go_wp2
  go_ret
  exact ⟨rfl,rfl⟩
 ·have hres:b.isPrefixOf a=false:=by
   rw [Bool.eq_false_iff];intro h2;rw [List.isPrefixOf_iff_prefix] at h2;have:=h2.length_le
   omega
  rw [hres];have hmn:¬ m≤n:=h
  go_enter Tryz.func197,Tryz.ntmps197
  go_wp2
  go_ret
  exact ⟨rfl,rfl⟩
theorem m0r (a b:Txt) (w:World):Calls Tryz.prog 151 #[.string (bs a),.string (bs b)] w fun e w'=>e = .returned (.bool (b.isPrefixOf a))∧w=w':=by
 go_enter Tryz.func151,Tryz.ntmps151
 go_wp2_with (go_at_call 197;refine (k0t a b _).mono ?_;rintro e w1 ⟨rfl,rfl⟩)
 go_ret
 exact ⟨rfl,rfl⟩
theorem Tryz.infoPair:(Tryz.prog.info? 135).map (fun i=>(i.zero,i.size,i.bytes))=some (some (.agg #[.string ⟨#[]⟩,.string ⟨#[]⟩]),2,32):=by kernel_rfl
theorem j0d (b:Txt) (p:Txt × Txt) (t:Tab):scanP b (p :: t)=if b.isPrefixOf p.1 then p :: scanP b t else if less b p.1 then [] else scanP b t:=rfl
theorem r0m (b:Txt):scanP b [] = []:=rfl
structure RestOf (t:Tab) (ks:List Txt) (r:Tab):Prop where
 keys:keysP r=ks
 get:∀ p∈r,getP t p.1=some p.2
theorem RestOf.cons {t:Tab} {k:Txt} {ks:List Txt} {r:Tab} (h:RestOf t (k :: ks) r):∃ v r',r=(k,v) :: r'∧getP t k=some v∧RestOf t ks r':=by
 obtain ⟨h1,h2⟩:=h
 cases r with
 | nil=>cases h1
 | cons p r=>
  have h3:p.1=k∧keysP r=ks:=List.cons.inj h1;refine ⟨p.2,r,by rw [← h3.1],by rw [← h3.1];exact h2 p List.mem_cons_self,⟨h3.2,fun q hq=>h2 q (List.mem_cons_of_mem _ hq)⟩⟩
theorem m0O {w:World} {g:Nat} {s:PS} {bm:Nat} {vb vp:Value} {zs:List (Value × List Txt)} (h:StAt w g s bm vb vp zs) {b:Txt} {i:Nat} (hf:Find (zs.map (·.2)) b i) :
  ∃ r,RestOf s.t ((zs.drop i).map (·.2)).flatten r∧scanP b r=underP s.t b:=by
 have hub:UpK (zs.map (·.2)).flatten:=by rw [h.flat];exact e0f.2 h.up
 have hn:∀ c∈zs.map (·.2),c≠[]:=fun c hc=>by obtain ⟨z,hz,rfl⟩:=List.mem_map.1 hc;exact (h.bk.ne z hz).1
 have hb:=hf.before hub hn;obtain ⟨n,hnn⟩:=nm ((((zs.map (·.2)).take i).flatten).length);have e1:keysP s.t=((zs.map (·.2)).take i).flatten ++ ((zs.drop i).map (·.2)).flatten:=by
  rw [← h.flat,← List.flatten_append,List.map_drop,List.take_append_drop]
 have e2:keysP (s.t.take n)=((zs.map (·.2)).take i).flatten:=by
  unfold keysP at e1 ⊢
  rw [List.map_take,e1,hnn]
  exact List.take_left' rfl
 have e3:keysP (s.t.drop n)=((zs.drop i).map (·.2)).flatten:=by
  unfold keysP at e1 ⊢
  rw [List.map_drop,e1,hnn]
  exact List.drop_left' rfl
 refine ⟨s.t.drop n,⟨e3,fun p hp=>f0x h.up (List.mem_of_mem_drop hp)⟩,?_⟩;rw [e0o b (List.Pairwise.sublist (List.drop_sublist _ _) h.up)];have e4:underP s.t b=underP (s.t.take n) b ++ underP (s.t.drop n) b:=by rw [← j0C,List.take_append_drop]
 rw [e4,m0F (t:=s.t.take n) fun p hp=>hb p.1 (by rw [← e2];exact List.mem_map.2 ⟨p,hp,rfl⟩)]
 rfl

theorem m0u {w:World} {g:Nat} {s:PS} {F:List Nat} (h:St w g s F) (htl:s.t.length < 1099511627776) (b:Txt) :
  Calls Tryz.prog 71 #[.pointer (some ⟨g,0,none⟩),.string (bs b)] w (CloneRet w 135 pairE 2 (underP s.t b)):=by
 obtain ⟨bm,vb,vp,zs,h,hF⟩:=h;obtain ⟨ad,cap,hvb,h1,h2⟩:=h.bk.blocks.shape;rw [List.length_map] at hvb h1;obtain ⟨n,hn⟩:=nm (zs.length);rw [← hn] at hvb h1;subst hvb;have hlz:n < 1099511627776:=by rw [hn];exact Nat.lt_of_le_of_lt h.few htl
 have c2:w.cell? ⟨g,2,none⟩=some (.slice ad n cap):=Lib.cell_of_heap h.bk.head 2;have H:=hh h;have HN:=hh hn;have HTL:=hh htl;have HH:=hh h.bk.head;have C2:=hh c2
 by_cases hn0:n=0
 ·have hnil:underP s.t b = []:=by
   have:zs = []:=List.eq_nil_of_length_eq_zero (by rw [← hn];exact hn0);have h3:=h.flat;rw [this] at h3;have h4:s.t = []:=List.map_eq_nil_iff.1 h3.symm;rw [h4];rfl
  rw [hnil];have j0:((n:Int) == 0)=true:=by simp;omega
  clear hF h hn htl hlz hn0 hnil
  go_enter Tryz.func71,Tryz.ntmps71
  go_wp2_with fail;refine (b0M g _ _ _ HH.out rfl).mono ?_;rintro e w1 ⟨rfl,rfl⟩;go_wp2_with fail
  go_ret
  exact ⟨_,rfl,LO.nil _ _ _ _,Below.refl _ _,fun k e=>by cases e⟩
 have j0:((n:Int) == 0)=false:=by simp;omega
 have hne:zs≠[]:=by intro e;rw [e] at hn;exact hn0 hn
 have huk:UpK (zs.map (·.2)).flatten:=by rw [h.flat];exact e0f.2 h.up
 have HNE:=hh hne;have HUK:=hh huk;obtain ⟨gv,hgv⟩:∃ gv,ad=some ⟨gv,0,none⟩:=by
  rcases h.bk.blocks with ⟨e,_⟩ | ⟨q,c,cu,e,_⟩
  ·exact absurd (Value.slice.inj e).2.1 hn0
  ·exact ⟨q,(Value.slice.inj e).1⟩
 subst hgv;clear hF h hn htl hne huk
 go_enter Tryz.func71,Tryz.ntmps71
 go_wp2_with fail;refine (b0M g _ _ _ HH.out rfl).mono ?_;rintro e w1 ⟨rfl,rfl⟩;go_wp2_with fail;clear j0;have hS:w.drew.cell? ⟨g,2,none⟩=some (.slice (some ⟨gv,0,none⟩) n cap):=C2.out;have hbd:Bk w.drew g bm (.slice (some ⟨gv,0,none⟩) n cap) vp zs:=(H.out.keep (Keep.of_below (S:=fun _=>False) (Below.refl _ _).drew) fun _ _=>id).bk;have HBD:=hh hbd;clear hbd;refine a0f (fun w'=>w'.cell? ⟨g,2,none⟩=some (.slice (some ⟨gv,0,none⟩) n cap)) 10 10 (by kernel_rfl) rfl ?_;refine tA1 0 21 hS ?_;go_frame;refine tA1 1 22 hS ?_;go_frame;refine tA1 2 23 hS ?_;go_frame;refine tk 3 (some 24) rfl rfl (.inl ⟨by rfl,fun w' hS'=>(by have hc:w'.cell? ⟨g,2,none⟩=_:=hS';go_simp;rfl)⟩) hS ?_;go_frame;refine tA1 4 25 hS ?_;go_frame;refine tA1 5 26 hS ?_;go_frame;refine tA1 9 30 hS ?_;go_frame;refine t1 6 fun K hK=>?_
 simp only [gA,jB,gC];go_simp;refine (f0v HBD.out HUK.out (by rw [← HN.out];omega) HNE.out b).mono ?_;rintro e w2 ⟨i0,rfl,hf,rfl⟩;refine hK _ _ (fun _ _=>hS) ?_;have hi0:i0 < n:=by have:=hf.lt;rw [List.length_map] at this;rw [HN.out];exact this
 have HF:=hh hf;have hci:¬ cap=i0:=by omega
 have hi1:(i0:Int)≤(n:Int):=by omega
 clear hK hf;refine tA1 7 28 hS ?_;go_frame;refine tA1 8 29 hS ?_;go_frame;clear hS;refine tD ?_;obtain ⟨rest0,hr0,hsc0⟩:=m0O H.out HF.out;obtain ⟨wd,hwd⟩:=nm (w.drew);have hbw:Below w.heap.size w wd:=by rw [hwd];exact (Below.refl _ _).drew
 rw [← hwd];have HR0:=hh hr0;have HBW:=hh hbw;have HSC0:=hh hsc0;clear hwd hr0 hsc0 hbw HBD;have hni:((n - i0:Nat):Int)=(n:Int) - (i0:Int):=by omega
 obtain ⟨m,hm⟩:=nm (n - i0);rw [← hm];have hmn:i0+m=n:=by omega
 have HMN:=hh hmn;clear hni hm hmn;go_wp2_with fail
 go_loopw [5,30] (fun vo vi wr=>∃ (i:Nat) (done rest:Tab),vi = .int .i64 i∧i≤m∧Hid (RestOf s.t ((zs.drop (i0+i)).map (·.2)).flatten rest)∧Hid (scanP b rest0=done ++ scanP b rest)∧Hid (LO wr 135 pairE 2 vo done)∧Hid (Below w.heap.size w wr)∧Hid (∀ k,vo.ownBlock=some k→w.heap.size≤k)) (fun _ vi _=>m - (intOf vi).toNat)
 case atStart=>exact ⟨0,[],rest0,rfl,Nat.zero_le _,HR0,hh (List.nil_append _).symm,hh (LO.nil _ _ _ _),HBW,hh fun k e=>by cases e⟩
 case round=>
  obtain ⟨i,done,rest,rfl,him,RR,SC,LOO,BW,OW⟩:=hrel
  by_cases hlt:i < m
  ·have hil:i0+i < zs.length:=by rw [← HN.out];have:=HMN.out;omega
   obtain ⟨z,hz⟩:=nm (zs[i0+i]);have hzm:z∈zs:=by rw [hz];exact List.getElem_mem _
   have hdz:zs.drop (i0+i)=z :: zs.drop (i0+i+1):=by rw [hz,List.getElem_cons_drop hil]
   have hrz:=(H.out.bk.rows.rows z hzm).rd g0E;have hlz64:=(H.out.bk.ne z hzm).2;obtain ⟨bv,off,e1,hbv,hcv⟩:=(H.out.bk.blocks.rd l0E).at (i0+i) (by rw [List.length_map];exact hil);have hcz:wr.cell? ⟨gv,i0+i,none⟩=some z.1:=by
    simp only [Option.some.injEq,Addr.mk.injEq] at e1;obtain ⟨rfl,rfl,_⟩:=e1;rw [Nat.zero_add,List.getElem_map,← hz] at hcv
    exact (BW.out.cell (p:=⟨gv,i0+i,none⟩) hbv).trans hcv
   obtain ⟨x,ks⟩:=z;obtain ⟨adz,capz,hxz,e2,e3⟩:=hrz.shape;simp only at hxz hcz hrz hlz64;subst hxz;obtain ⟨nz,hnz⟩:=nm (ks.length);simp only at e2;rw [← hnz] at hcz hrz e2 hlz64;have hrr:=RR.out;rw [hdz,List.map_cons,List.flatten_cons] at hrr;obtain ⟨tail,htail⟩:=nm (((zs.drop (i0+i+1)).map (·.2)).flatten);rw [← htail] at hrr;have HRZ:=hh hrz;have HNZ:=hh hnz;have RR0:=hh hrr;have HTAIL:=hh htail;clear hil hz hzm hdz e1 hbv hcv hnz hrr RR htail hrz;have hc1:∀ wx:World,Below w.heap.size w wx→wx.cell? ⟨g,1,none⟩=some (.map (some bm)):=fun wx hb=>(hb.cell (p:=⟨g,1,none⟩) (a0b HH.out)).trans (Lib.cell_of_heap HH.out 1)
   have HC1:=hh hc1;have HLT:=hh hlt;clear hc1;go_wp2_with fail
   go_loopw [5,36] (fun vo vi wr=>∃ (j:Nat) (done rest:Tab),vi = .int .i64 j∧j≤nz∧Hid (RestOf s.t (ks.drop j ++ tail) rest)∧Hid (scanP b rest0=done ++ scanP b rest)∧Hid (LO wr 135 pairE 2 vo done)∧Hid (Below w.heap.size w wr)∧Hid (∀ k,vo.ownBlock=some k→w.heap.size≤k)) (fun _ vi _=>nz - (intOf vi).toNat)
   case atStart=>exact ⟨0,done,rest,rfl,Nat.zero_le _,RR0,SC,LOO,BW,OW⟩
   case round=>
    clear RR0 SC LOO BW OW;obtain ⟨j,done,rest,rfl,hjn,RR,SC,LOO,BW,OW⟩:=hrel
    by_cases hjlt:j < nz
    ·have hjk:j < ks.length:=by rw [← HNZ.out];exact hjlt
     obtain ⟨y,hy⟩:=nm (ks[j]);have hdj:ks.drop j=y :: ks.drop (j+1):=by rw [hy,List.getElem_cons_drop hjk]
     obtain ⟨by',offy,e4,hby,hcy⟩:=HRZ.out.at j hjk;subst e4;have hcy':wr.cell? ⟨by',offy+j,none⟩=some (.string (bs y)):=by
      rw [hy]
      exact (BW.out.cell (p:=⟨by',offy+j,none⟩) hby).trans hcy
     have hrr:=RR.out;rw [hdj,List.cons_append] at hrr;obtain ⟨v,rest',rfl,hgv,hrr'⟩:=hrr.cons;have hmap:MapIs wr bm s.t:=H.out.map.keep (Keep.of_below (S:=fun _=>False) BW.out) id;have c1':=HC1.out wr BW.out;have HGV:=hh hgv;have RR':=hh hrr';have HMP:=hh hmap;have HJK:=hh hjlt;clear hjk hy hdj hby hcy hrr hgv hrr' hmap RR;go_wp2_with fail;refine (m0r y b _).mono ?_;rintro e w3 ⟨rfl,rfl⟩
     cases hpre:b.isPrefixOf y with
     | true=>
      have hsc1:scanP b ((y,v) :: rest')=(y,v) :: scanP b rest':=by rw [j0d,if_pos hpre]
      have hsc2:scanP b rest0=(done ++ [(y,v)]) ++ scanP b rest':=by rw [SC.out,hsc1];simp
      have HS2:=hh hsc2;have hle:done.length≤s.t.length:=by
       have h8:=congrArg List.length hsc2;rw [HSC0.out,List.length_append,List.length_append] at h8;have h9:(underP s.t b).length≤s.t.length:=List.length_filter_le _ _
       omega
      have HLE:=hh hle;clear hpre hsc1 hsc2 hle;have hbal:Below wr.heap.size wr (wr.alloc (.cells #[.string (bs y),.string (bs v)] 135)):=(Below.refl _ _).alloc (Nat.le_refl _) _;have HBAL:=hh hbal;clear hbal
      go_wp2_with (first
       | (refine j0Q rfl 37 _ _ rfl Tryz.underlying37 Tryz.underlying9 zeroStr HMP.out y rfl rfl ?_;rw [HGV.out,Option.getD_some])
       | (at_builtin;refine d0x (enc:=pairE) rfl _ _ 81 81 rfl Tryz.underlying81 Tryz.underlying81 Tryz.infoPair rfl (by decide) a0v (LOO.out.later HBAL.out) rfl (y,v) (a0x [(y,v)] _ List.mem_cons_self) wr.heap.size #[.string (bs y),.string (bs v)] 135 (heap_alloc_new _ _) rfl rfl (by have:=HLE.out;have:=HTL.out;unfold maxLen;omega) (by have:=HLE.out;have:=HTL.out;omega) ?_))
      intro v' w4 r1 r2 r3;have hb4:Below w.heap.size w w4:=(BW.out.trans (HBAL.out.mono BW.out.size)).trans (r2.below (B:=w.heap.size) (fun q hq e=>by have:=OW.out q e;omega) (Nat.le_trans BW.out.size HBAL.out.size));have ho4:∀ k,v'.ownBlock=some k→w.heap.size≤k:=by
       intro k e
       rcases r3 with h | ⟨q,h,h'⟩
       ·exact OW.out k (by rw [← h];exact e)
       ·rw [e] at h;cases h;exact Nat.le_trans (Nat.le_trans BW.out.size HBAL.out.size) h'
      have R1:=hh r1;have HB4:=hh hb4;have HO4:=hh ho4;clear r1 r2 r3 hb4 ho4;go_wp2_with fail
      go_roundw
      case rel=>exact ⟨j+1,done ++ [(y,v)],rest',by go_num,by have:=HJK.out;omega,RR',HS2,R1,HB4,HO4⟩
      case measure=>have:=HJK.out;simp [intOf];omega
     | false=>
      have hsc1:scanP b ((y,v) :: rest')=if less b y then [] else scanP b rest':=by rw [j0d,if_neg (by rw [hpre];simp)]
      cases hby:less b y with
      | true=>
       have hsc2:scanP b rest0=done:=by rw [SC.out,hsc1,if_pos hby,List.append_nil]
       have g1:Op.bytesLess (bs y).toList (bs b).toList=false:=by rw [a0j,a0j];exact e0w hby
       have g2:((bs y).toList == (bs b).toList)=false:=by rw [a0j,a0j,beq_eq_false_iff_ne];exact (b0I hby).symm
       have HS2:=hh hsc2;clear hpre hsc1 hsc2 hby
       go_wp2_with fail
       go_ret
       rw [← HSC0.out,HS2.out]
       exact ⟨_,rfl,LOO.out,BW.out,OW.out⟩
      | false=>
       have hsc2:scanP b rest0=done ++ scanP b rest':=by rw [SC.out,hsc1,if_neg (by rw [hby];simp)]
       have HS2:=hh hsc2;have hor:=d0M hby
       clear hpre hsc1 hsc2 hby
       rcases hor with hor | hor
       ·have g2:((bs y).toList == (bs b).toList)=true:=by rw [a0j,a0j,hor];simp
        clear hor;go_wp2_with fail
        go_roundw
        case rel=>exact ⟨j+1,done,rest',by go_num,by have:=HJK.out;omega,RR',HS2,LOO,BW,OW⟩
        case measure=>have:=HJK.out;simp [intOf];omega
       ·have g1:Op.bytesLess (bs y).toList (bs b).toList=true:=by rw [a0j,a0j];exact hor
        clear hor;go_wp2_with fail
        go_roundw
        case rel=>exact ⟨j+1,done,rest',by go_num,by have:=HJK.out;omega,RR',HS2,LOO,BW,OW⟩
        case measure=>have:=HJK.out;simp [intOf];omega
    ·have hjz:j=nz:=by omega
     have RR1:Hid (RestOf s.t ((zs.drop (i0+(i+1))).map (·.2)).flatten rest):=by
      have h8:=RR.out;rw [List.drop_of_length_le (by rw [← HNZ.out];omega),List.nil_append,HTAIL.out] at h8
      exact hh h8
     clear hjz RR;have hh2:i < 1099511627776:=by have:=HLT.out;have:=HMN.out;omega
     go_wp2_with fail
     go_roundw
     case rel=>exact ⟨i+1,done,rest,by go_num,Nat.succ_le_of_lt HLT.out,RR1,SC,LOO,BW,OW⟩
     case measure=>have hhq:i < m:=HLT.out;simp [intOf];omega
  ·have hfin:Hid (scanP b rest0=done):=by
    have h8:=RR.out;rw [List.drop_of_length_le (by rw [← HN.out];have:=HMN.out;omega)] at h8;have h9:rest = []:=List.map_eq_nil_iff.1 h8.keys;have h10:=SC.out;rw [h9,r0m,List.append_nil] at h10
    exact hh h10
   go_wp2_with fail
   go_ret
   rw [← HSC0.out,hfin.out]
   exact ⟨_,rfl,LOO.out,BW.out,OW.out⟩
end
section
open Go.RowKit

theorem h0J (n:Int) (h0:0≤n) (h1:n < 18446744073709551616):(be (numL n):Int)=n:=by
 have e:∀ i:Nat,((UInt8.ofNat (n / 256 ^ i % 256).toNat).toNat:Int)=n / 256 ^ i % 256:=fun i=>u8_of _ (Int.emod_nonneg _ (by decide)) (Int.emod_lt_of_pos _ (by decide))
 have e0:=e 0;have e1:=e 1;have e2:=e 2;have e3:=e 3;have e4:=e 4;have e5:=e 5;have e6:=e 6;have e7:=e 7;have hb:be (numL n)=((((((((0*256+(UInt8.ofNat (n / 256 ^ 7 % 256).toNat).toNat)*256+(UInt8.ofNat (n / 256 ^ 6 % 256).toNat).toNat)*256+(UInt8.ofNat (n / 256 ^ 5 % 256).toNat).toNat)*256+(UInt8.ofNat (n / 256 ^ 4 % 256).toNat).toNat)*256+(UInt8.ofNat (n / 256 ^ 3 % 256).toNat).toNat)*256+(UInt8.ofNat (n / 256 ^ 2 % 256).toNat).toNat)*256+(UInt8.ofNat (n / 256 ^ 1 % 256).toNat).toNat)*256+(UInt8.ofNat (n / 256 ^ 0 % 256).toNat).toNat):=rfl;rw [hb]
 generalize (UInt8.ofNat (n / 256 ^ 0 % 256).toNat).toNat=c0 at *
 generalize (UInt8.ofNat (n / 256 ^ 1 % 256).toNat).toNat=c1 at *
 generalize (UInt8.ofNat (n / 256 ^ 2 % 256).toNat).toNat=c2 at *
 generalize (UInt8.ofNat (n / 256 ^ 3 % 256).toNat).toNat=c3 at *
 generalize (UInt8.ofNat (n / 256 ^ 4 % 256).toNat).toNat=c4 at *
 generalize (UInt8.ofNat (n / 256 ^ 5 % 256).toNat).toNat=c5 at *
 generalize (UInt8.ofNat (n / 256 ^ 6 % 256).toNat).toNat=c6 at *
 generalize (UInt8.ofNat (n / 256 ^ 7 % 256).toNat).toNat=c7 at *
 omega

theorem b0y (l:List Int):(l.flatMap numL).length=8*l.length:=by
 induction l with
 | nil=>rfl
 | cons x l ih=>rw [List.flatMap_cons,List.length_append,ih,a0s,List.length_cons];omega
theorem m0t (l:List Int):∀ k,(l.flatMap numL).drop (8*k)=(l.drop k).flatMap numL:=by
 induction l with
 | nil=>intro k;simp
 | cons x l ih=>
  intro k
  cases k with
  | zero=>simp
  | succ k=>
   rw [List.flatMap_cons,List.drop_append,a0s,List.drop_of_length_le (by rw [a0s];omega),show 8*(k+1) - 8=8*k by omega,ih k]
   simp
theorem k0m (l:List Int) (k:Nat) (hk:k < l.length):chunk (l.flatMap numL) k=numL l[k]:=by
 unfold chunk
 rw [m0t,List.drop_eq_getElem_cons hk,List.flatMap_cons,List.take_append,a0s]
 simp [List.take_of_length_le,a0s]
theorem j0f (l:List Int) (h:∀ x∈l,0≤x∧x < 9223372036854775808):∀ k,k≤l.length→numsTo (l.flatMap numL) k=some (l.take k):=by
 intro k
 induction k with
 | zero=>intro _;rfl
 | succ k ih=>
  intro hk;have hk2:k < l.length:=by omega
  have hb:=h l[k] (List.getElem_mem hk2);have e:=h0J l[k] hb.1 (by omega);rw [numsTo,ih (by omega)];simp only [k0m l k hk2,e];rw [if_pos (by omega),List.take_succ_eq_append_getElem hk2]
theorem k0u (l:List Int) (h:∀ x∈l,0≤x∧x < 9223372036854775808):numsF (l.flatMap numL)=some l:=by
 refine f0G (k:=l.length) (by rw [b0y];omega) (by rw [b0y]) ?_;rw [j0f l h _ (Nat.le_refl _),List.take_length]

def rowF (v:Txt):List Int:=(numsF v).getD []
def valF (f:Txt→Option Txt) (k:Txt):Txt:=(f k).getD []
theorem e0I {l:List UInt8}:∀ {k:Nat} {xs:List Int},numsTo l k=some xs→∀ x∈xs,0≤x∧x < 9223372036854775808
 | 0,xs,h=>by simp [numsTo] at h;subst h;simp
 | k+1,xs,h=>by
  unfold numsTo at h
  cases h2:numsTo l k with
  | none=>simp [h2] at h
  | some ys=>
   rw [h2] at h;simp only at h
   split at h
   ·rename_i hlt
    cases h
    intro x hx
    rcases List.mem_append.1 hx with hx | hx
    ·exact e0I h2 x hx
    ·simp at hx;subst hx;exact ⟨by omega,by omega⟩
   ·cases h
theorem h0s (v:Txt):∀ x∈rowF v,0≤x∧x < 9223372036854775808:=by
 intro x hx
 unfold rowF at hx
 cases h:numsF v with
 | none=>rw [h] at hx;simp at hx
 | some xs=>
  rw [h] at hx
  unfold numsF at h
  split at h
  ·exact e0I h x hx
  ·cases h
theorem i0I {l:List Int} (h:∀ x∈l,0≤x∧x < 9223372036854775808):rowF (l.flatMap numL)=l:=by
 unfold rowF;rw [k0u l h];rfl
theorem q0i:rowF [] = []:=by kernel_rfl
def PS.putv (s:PS) (k v:Txt):PS:=if v = [] then s.del k else s.set k v
def PS.setRow (s:PS) (k:Txt) (l:List Int):PS:=if ∃ x∈l,x < 0 then s else s.putv k (l.flatMap numL)
def PS.sz (s:PS):Nat:=s.t.length+s.past.length
theorem r0D (s:PS) (k v:Txt) (b:Bool):(s.put k v b).sz≤s.sz+2:=by
 unfold PS.put PS.sz
 have:=e0a s.t k v b;simp only [List.length_append,List.length_cons,List.length_nil]
 omega
theorem l0w (s:PS) (k v:Txt):(s.set k v).sz≤s.sz+2:=by
 unfold PS.set
 split
 ·omega
 ·exact r0D _ _ _ _
theorem p0F (s:PS) (k:Txt):(s.del k).sz≤s.sz+2:=by
 unfold PS.del
 split
 ·omega
 ·exact r0D _ _ _ _
theorem s0C (s:PS) (k v:Txt):(s.putv k v).sz≤s.sz+2:=by
 unfold PS.putv
 split
 ·exact p0F _ _
 ·exact l0w _ _ _
theorem g0i (s:PS) (k:Txt) (l:List Int):(s.setRow k l).sz≤s.sz+2:=by
 unfold PS.setRow
 split
 ·omega
 ·exact s0C _ _ _
def Fit (s:PS):Prop:=∀ p∈s.t,p.2.length≤1000000
theorem Fit.new:Fit PS.new:=fun _ h=>by cases h
theorem Fit.get {s:PS} (h:Fit s) {k v:Txt} (hk:getP s.t k=some v):v.length≤1000000:=h _ (d0Z hk)
theorem Fit.set {s:PS} (h:Fit s) (k:Txt) {v:Txt} (hv:v.length≤1000000):Fit (s.set k v):=by
 unfold PS.set
 split
 ·exact h
 ·intro p hp
  rcases n0z (show p∈insP s.t k v from hp) with h1 | h1
  ·rw [h1];exact hv
  ·exact h p h1
theorem Fit.del {s:PS} (h:Fit s) (k:Txt):Fit (s.del k):=by
 unfold PS.del
 split
 ·exact h
 ·intro p hp;have hp2:p∈delP s.t k:=hp
  unfold delP at hp2
  exact h p (List.mem_filter.1 hp2).1
theorem Fit.putv {s:PS} (h:Fit s) (k:Txt) {v:Txt} (hv:v.length≤1000000):Fit (s.putv k v):=by
 unfold PS.putv
 split
 ·exact h.del k
 ·exact h.set k hv
theorem Fit.setRow {s:PS} (h:Fit s) (k:Txt) {l:List Int} (hl:l.length≤100000):Fit (s.setRow k l):=by
 unfold PS.setRow
 split
 ·exact h
 ·exact h.putv k (by rw [b0y];omega)
theorem Fit.val {s:PS} (h:Fit s) (k:Txt):(valF (getP s.t) k).length≤1000000:=by
 unfold valF
 cases hk:getP s.t k with
 | none=>simp
 | some v=>exact h.get hk
def FitF (f:Txt→Option Txt):Prop:=∀ k,(valF f k).length≤1000000
theorem Fit.f {s:PS} (h:Fit s):FitF (getP s.t):=fun k=>h.val k
theorem FitF.none:FitF (fun _=>none):=fun k=>by simp [valF]
end
end Go.Proofs.YtakkfabaeolbdaaGreat
