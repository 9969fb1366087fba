/- Under, All and Copy of a store: no condition. All and Copy of a store: no condition. -/
import Derived.Test.YtabminbgoclnkaaGreatVaStoU
namespace Go.Proofs.YtabminbgoclnkaaGreat
section
set_option maxHeartbeats 8000000
set_option maxRecDepth 100000
open Go.RowKit

theorem g0X (a b:Txt) (w:World):Calls Tryz.prog 155 #[.string (bs a),.string (bs b)] w fun e w'=>e = .returned (.bool (b.isPrefixOf a))∧w=w':=by
 obtain ⟨n,hn⟩:=nm (a.length);obtain ⟨m,hm⟩:=nm (b.length);have ha:(bs a).size=n:=by rw [b0o,hn]
 have hb:(bs b).size=m:=by rw [b0o,hm]
 by_cases h:m≤n
 ·have hext:(bs a).extract 0 m=bs (a.take m):=by rw [j0w];simp
  have hres:((bs (a.take m)).toList == (bs b).toList)=b.isPrefixOf a:=by
   rw [a0g,a0g,Bool.eq_iff_iff,beq_iff_eq,List.isPrefixOf_iff_prefix,List.prefix_iff_eq_take,← hm]
   exact ⟨fun h=>h.symm,fun h=>h.symm⟩
  obtain ⟨r,hr⟩:=nm (b.isPrefixOf a);rw [← hr] at hres ⊢;have hmn:(m:Int)≤(n:Int):=by omega
  clear hr hn hm
  go_enter Tryz.func155,Tryz.ntmps155
  go_wp2
  go_ret
  exact ⟨rfl,rfl⟩
 ·have hres:b.isPrefixOf a=false:=by
   rw [Bool.eq_false_iff];intro h2;rw [List.isPrefixOf_iff_prefix] at h2;have:=h2.length_le
   omega
  rw [hres];have hmn:¬ m≤n:=h
  go_enter Tryz.func155,Tryz.ntmps155
  go_wp2
  go_ret
  exact ⟨rfl,rfl⟩
theorem j0h (a b:Txt) (w:World):Calls Tryz.prog 124 #[.string (bs a),.string (bs b)] w fun e w'=>e = .returned (.bool (b.isPrefixOf a))∧w=w':=by
 go_enter Tryz.func124,Tryz.ntmps124
 go_wp2_with (go_at_call 155;refine (g0X a b _).mono ?_;rintro e w1 ⟨rfl,rfl⟩)
 go_ret
 exact ⟨rfl,rfl⟩
theorem Tryz.infoPair:(Tryz.prog.info? 106).map (fun i=>(i.zero,i.size,i.bytes))=some (some (.agg #[.string ⟨#[]⟩,.string ⟨#[]⟩]),2,32):=by kernel_rfl
theorem g0O (b:Txt) (p:Txt × Txt) (t:Tab):scanP b (p :: t)=if b.isPrefixOf p.1 then p :: scanP b t else if less b p.1 then [] else scanP b t:=rfl
theorem m0r (b:Txt):scanP b [] = []:=rfl
structure RestOf (t:Tab) (ks:List Txt) (r:Tab):Prop where
 keys:keysP r=ks
 get:∀ p∈r,getP t p.1=some p.2
theorem RestOf.cons {t:Tab} {k:Txt} {ks:List Txt} {r:Tab} (h:RestOf t (k :: ks) r):∃ v r',r=(k,v) :: r'∧getP t k=some v∧RestOf t ks r':=by
 obtain ⟨h1,h2⟩:=h
 cases r with
 | nil=>cases h1
 | cons p r=>
  have h3:p.1=k∧keysP r=ks:=List.cons.inj h1;refine ⟨p.2,r,by rw [← h3.1],by rw [← h3.1];exact h2 p List.mem_cons_self,⟨h3.2,fun q hq=>h2 q (List.mem_cons_of_mem _ hq)⟩⟩
theorem j0n {w:World} {g:Nat} {s:PS} {bm:Nat} {vb vp:Value} {zs:List (Value × List Txt)} (h:StAt w g s bm vb vp zs) {b:Txt} {i:Nat} (hf:Find (zs.map (·.2)) b i) :
  ∃ r,RestOf s.t ((zs.drop i).map (·.2)).flatten r∧scanP b r=underP s.t b:=by
 have hub:UpK (zs.map (·.2)).flatten:=by rw [h.flat];exact c0Z.2 h.up
 have hn:∀ c∈zs.map (·.2),c≠[]:=fun c hc=>by obtain ⟨z,hz,rfl⟩:=List.mem_map.1 hc;exact (h.bk.ne z hz).1
 have hb:=hf.before hub hn;obtain ⟨n,hnn⟩:=nm ((((zs.map (·.2)).take i).flatten).length);have e1:keysP s.t=((zs.map (·.2)).take i).flatten ++ ((zs.drop i).map (·.2)).flatten:=by
  rw [← h.flat,← List.flatten_append,List.map_drop,List.take_append_drop]
 have e2:keysP (s.t.take n)=((zs.map (·.2)).take i).flatten:=by
  unfold keysP at e1 ⊢
  rw [List.map_take,e1,hnn]
  exact List.take_left' rfl
 have e3:keysP (s.t.drop n)=((zs.drop i).map (·.2)).flatten:=by
  unfold keysP at e1 ⊢
  rw [List.map_drop,e1,hnn]
  exact List.drop_left' rfl
 refine ⟨s.t.drop n,⟨e3,fun p hp=>e0G h.up (List.mem_of_mem_drop hp)⟩,?_⟩;rw [d0r b (List.Pairwise.sublist (List.drop_sublist _ _) h.up)];have e4:underP s.t b=underP (s.t.take n) b ++ underP (s.t.drop n) b:=by rw [← g0N,List.take_append_drop]
 rw [e4,j0j (t:=s.t.take n) fun p hp=>hb p.1 (by rw [← e2];exact List.mem_map.2 ⟨p,hp,rfl⟩)]
 rfl

theorem f0g {w:World} {g:Nat} {s:PS} {F:List Nat} (h:St w g s F) (htl:s.t.length < 1099511627776) (b:Txt) :
  Calls Tryz.prog 72 #[.pointer (some ⟨g,0,none⟩),.string (bs b)] w (CloneRet w 106 pairE 2 (underP s.t b)):=by
 obtain ⟨bm,vb,vp,zs,h,hF⟩:=h;obtain ⟨ad,cap,hvb,h1,h2⟩:=h.bk.blocks.shape;rw [List.length_map] at hvb h1;obtain ⟨n,hn⟩:=nm (zs.length);rw [← hn] at hvb h1;subst hvb;have hlz:n < 1099511627776:=by rw [hn];exact Nat.lt_of_le_of_lt h.few htl
 have c2:w.cell? ⟨g,2,none⟩=some (.slice ad n cap):=Lib.cell_of_heap h.bk.head 2;have H:=hh h;have HN:=hh hn;have HTL:=hh htl;have HH:=hh h.bk.head;have C2:=hh c2
 by_cases hn0:n=0
 ·have hnil:underP s.t b = []:=by
   have:zs = []:=List.eq_nil_of_length_eq_zero (by rw [← hn];exact hn0);have h3:=h.flat;rw [this] at h3;have h4:s.t = []:=List.map_eq_nil_iff.1 h3.symm;rw [h4];rfl
  rw [hnil];have j0:((n:Int) == 0)=true:=by simp;omega
  clear hF h hn htl hlz hn0 hnil
  go_enter Tryz.func72,Tryz.ntmps72
  go_wp2_with fail;refine (b0J g _ _ _ HH.out rfl).mono ?_;rintro e w1 ⟨rfl,rfl⟩;go_wp2_with fail
  go_ret
  exact ⟨_,rfl,LO.nil _ _ _ _,Below.refl _ _,fun k e=>by cases e⟩
 have j0:((n:Int) == 0)=false:=by simp;omega
 have hne:zs≠[]:=by intro e;rw [e] at hn;exact hn0 hn
 have huk:UpK (zs.map (·.2)).flatten:=by rw [h.flat];exact c0Z.2 h.up
 have HNE:=hh hne;have HUK:=hh huk;obtain ⟨gv,hgv⟩:∃ gv,ad=some ⟨gv,0,none⟩:=by
  rcases h.bk.blocks with ⟨e,_⟩ | ⟨q,c,cu,e,_⟩
  ·exact absurd (Value.slice.inj e).2.1 hn0
  ·exact ⟨q,(Value.slice.inj e).1⟩
 subst hgv;clear hF h hn htl hne huk
 go_enter Tryz.func72,Tryz.ntmps72
 go_wp2_with fail;refine (b0J g _ _ _ HH.out rfl).mono ?_;rintro e w1 ⟨rfl,rfl⟩;go_wp2_with fail;clear j0;have hS:w.drew.cell? ⟨g,2,none⟩=some (.slice (some ⟨gv,0,none⟩) n cap):=C2.out;have hbd:Bk w.drew g bm (.slice (some ⟨gv,0,none⟩) n cap) vp zs:=(H.out.keep (Keep.of_below (S:=fun _=>False) (Below.refl _ _).drew) fun _ _=>id).bk;have HBD:=hh hbd;clear hbd;refine a0b (fun w'=>w'.cell? ⟨g,2,none⟩=some (.slice (some ⟨gv,0,none⟩) n cap)) 10 10 (by kernel_rfl) rfl ?_;refine tA1 0 21 hS ?_;go_frame;refine tA1 1 22 hS ?_;go_frame;refine tA1 2 23 hS ?_;go_frame;refine tk 3 (some 24) rfl rfl (.inl ⟨by rfl,fun w' hS'=>(by have hc:w'.cell? ⟨g,2,none⟩=_:=hS';go_simp;rfl)⟩) hS ?_;go_frame;refine tA1 4 25 hS ?_;go_frame;refine tA1 5 26 hS ?_;go_frame;refine tA1 9 30 hS ?_;go_frame;refine t1 6 fun K hK=>?_
 simp only [gA,jB,gC];go_simp;refine (e0B HBD.out HUK.out (by rw [← HN.out];omega) HNE.out b).mono ?_;rintro e w2 ⟨i0,rfl,hf,rfl⟩;refine hK _ _ (fun _ _=>hS) ?_;have hi0:i0 < n:=by have:=hf.lt;rw [List.length_map] at this;rw [HN.out];exact this
 have HF:=hh hf;have hci:¬ cap=i0:=by omega
 have hi1:(i0:Int)≤(n:Int):=by omega
 clear hK hf;refine tA1 7 28 hS ?_;go_frame;refine tA1 8 29 hS ?_;go_frame;clear hS;refine tD ?_;obtain ⟨rest0,hr0,hsc0⟩:=j0n H.out HF.out;obtain ⟨wd,hwd⟩:=nm (w.drew);have hbw:Below w.heap.size w wd:=by rw [hwd];exact (Below.refl _ _).drew
 rw [← hwd];have HR0:=hh hr0;have HBW:=hh hbw;have HSC0:=hh hsc0;clear hwd hr0 hsc0 hbw HBD;have hni:((n - i0:Nat):Int)=(n:Int) - (i0:Int):=by omega
 obtain ⟨m,hm⟩:=nm (n - i0);rw [← hm];have hmn:i0+m=n:=by omega
 have HMN:=hh hmn;clear hni hm hmn;go_wp2_with fail
 go_loopw [5,30] (fun vo vi wr=>∃ (i:Nat) (done rest:Tab),vi = .int .i64 i∧i≤m∧Hid (RestOf s.t ((zs.drop (i0+i)).map (·.2)).flatten rest)∧Hid (scanP b rest0=done ++ scanP b rest)∧Hid (LO wr 106 pairE 2 vo done)∧Hid (Below w.heap.size w wr)∧Hid (∀ k,vo.ownBlock=some k→w.heap.size≤k)) (fun _ vi _=>m - (intOf vi).toNat)
 case atStart=>exact ⟨0,[],rest0,rfl,Nat.zero_le _,HR0,hh (List.nil_append _).symm,hh (LO.nil _ _ _ _),HBW,hh fun k e=>by cases e⟩
 case round=>
  obtain ⟨i,done,rest,rfl,him,RR,SC,LOO,BW,OW⟩:=hrel
  by_cases hlt:i < m
  ·have hil:i0+i < zs.length:=by rw [← HN.out];have:=HMN.out;omega
   obtain ⟨z,hz⟩:=nm (zs[i0+i]);have hzm:z∈zs:=by rw [hz];exact List.getElem_mem _
   have hdz:zs.drop (i0+i)=z :: zs.drop (i0+i+1):=by rw [hz,List.getElem_cons_drop hil]
   have hrz:=(H.out.bk.rows.rows z hzm).rd e0A;have hlz64:=(H.out.bk.ne z hzm).2;obtain ⟨bv,off,e1,hbv,hcv⟩:=(H.out.bk.blocks.rd h0O).at (i0+i) (by rw [List.length_map];exact hil);have hcz:wr.cell? ⟨gv,i0+i,none⟩=some z.1:=by
    simp only [Option.some.injEq,Addr.mk.injEq] at e1;obtain ⟨rfl,rfl,_⟩:=e1;rw [Nat.zero_add,List.getElem_map,← hz] at hcv
    exact (BW.out.cell (p:=⟨gv,i0+i,none⟩) hbv).trans hcv
   obtain ⟨x,ks⟩:=z;obtain ⟨adz,capz,hxz,e2,e3⟩:=hrz.shape;simp only at hxz hcz hrz hlz64;subst hxz;obtain ⟨nz,hnz⟩:=nm (ks.length);simp only at e2;rw [← hnz] at hcz hrz e2 hlz64;have hrr:=RR.out;rw [hdz,List.map_cons,List.flatten_cons] at hrr;obtain ⟨tail,htail⟩:=nm (((zs.drop (i0+i+1)).map (·.2)).flatten);rw [← htail] at hrr;have HRZ:=hh hrz;have HNZ:=hh hnz;have RR0:=hh hrr;have HTAIL:=hh htail;clear hil hz hzm hdz e1 hbv hcv hnz hrr RR htail hrz;have hc1:∀ wx:World,Below w.heap.size w wx→wx.cell? ⟨g,1,none⟩=some (.map (some bm)):=fun wx hb=>(hb.cell (p:=⟨g,1,none⟩) (a0e HH.out)).trans (Lib.cell_of_heap HH.out 1)
   have HC1:=hh hc1;have HLT:=hh hlt;clear hc1;go_wp2_with fail
   go_loopw [5,36] (fun vo vi wr=>∃ (j:Nat) (done rest:Tab),vi = .int .i64 j∧j≤nz∧Hid (RestOf s.t (ks.drop j ++ tail) rest)∧Hid (scanP b rest0=done ++ scanP b rest)∧Hid (LO wr 106 pairE 2 vo done)∧Hid (Below w.heap.size w wr)∧Hid (∀ k,vo.ownBlock=some k→w.heap.size≤k)) (fun _ vi _=>nz - (intOf vi).toNat)
   case atStart=>exact ⟨0,done,rest,rfl,Nat.zero_le _,RR0,SC,LOO,BW,OW⟩
   case round=>
    clear RR0 SC LOO BW OW;obtain ⟨j,done,rest,rfl,hjn,RR,SC,LOO,BW,OW⟩:=hrel
    by_cases hjlt:j < nz
    ·have hjk:j < ks.length:=by rw [← HNZ.out];exact hjlt
     obtain ⟨y,hy⟩:=nm (ks[j]);have hdj:ks.drop j=y :: ks.drop (j+1):=by rw [hy,List.getElem_cons_drop hjk]
     obtain ⟨by',offy,e4,hby,hcy⟩:=HRZ.out.at j hjk;subst e4;have hcy':wr.cell? ⟨by',offy+j,none⟩=some (.string (bs y)):=by
      rw [hy]
      exact (BW.out.cell (p:=⟨by',offy+j,none⟩) hby).trans hcy
     have hrr:=RR.out;rw [hdj,List.cons_append] at hrr;obtain ⟨v,rest',rfl,hgv,hrr'⟩:=hrr.cons;have hmap:MapIs wr bm s.t:=H.out.map.keep (Keep.of_below (S:=fun _=>False) BW.out) id;have c1':=HC1.out wr BW.out;have HGV:=hh hgv;have RR':=hh hrr';have HMP:=hh hmap;have HJK:=hh hjlt;clear hjk hy hdj hby hcy hrr hgv hrr' hmap RR;go_wp2_with fail;refine (j0h y b _).mono ?_;rintro e w3 ⟨rfl,rfl⟩
     cases hpre:b.isPrefixOf y with
     | true=>
      have hsc1:scanP b ((y,v) :: rest')=(y,v) :: scanP b rest':=by rw [g0O,if_pos hpre]
      have hsc2:scanP b rest0=(done ++ [(y,v)]) ++ scanP b rest':=by rw [SC.out,hsc1];simp
      have HS2:=hh hsc2;have hle:done.length≤s.t.length:=by
       have h8:=congrArg List.length hsc2;rw [HSC0.out,List.length_append,List.length_append] at h8;have h9:(underP s.t b).length≤s.t.length:=List.length_filter_le _ _
       omega
      have HLE:=hh hle;clear hpre hsc1 hsc2 hle;have hbal:Below wr.heap.size wr (wr.alloc (.cells #[.string (bs y),.string (bs v)] 106)):=(Below.refl _ _).alloc (Nat.le_refl _) _;have HBAL:=hh hbal;clear hbal
      go_wp2_with (first
       | (refine h0p rfl 63 _ _ rfl Tryz.underlying63 Tryz.underlying9 zeroStr HMP.out y rfl rfl ?_;rw [HGV.out,Option.getD_some])
       | (at_builtin;refine c0Q (enc:=pairE) rfl _ _ 30 30 rfl Tryz.underlying30 Tryz.underlying30 Tryz.infoPair rfl (by decide) a0t (LOO.out.later HBAL.out) rfl (y,v) (a0y [(y,v)] _ List.mem_cons_self) wr.heap.size #[.string (bs y),.string (bs v)] 106 (heap_alloc_new _ _) rfl rfl (by have:=HLE.out;have:=HTL.out;unfold maxLen;omega) (by have:=HLE.out;have:=HTL.out;omega) ?_))
      intro v' w4 r1 r2 r3;have hb4:Below w.heap.size w w4:=(BW.out.trans (HBAL.out.mono BW.out.size)).trans (r2.below (B:=w.heap.size) (fun q hq e=>by have:=OW.out q e;omega) (Nat.le_trans BW.out.size HBAL.out.size));have ho4:∀ k,v'.ownBlock=some k→w.heap.size≤k:=by
       intro k e
       rcases r3 with h | ⟨q,h,h'⟩
       ·exact OW.out k (by rw [← h];exact e)
       ·rw [e] at h;cases h;exact Nat.le_trans (Nat.le_trans BW.out.size HBAL.out.size) h'
      have R1:=hh r1;have HB4:=hh hb4;have HO4:=hh ho4;clear r1 r2 r3 hb4 ho4;go_wp2_with fail
      go_roundw
      case rel=>exact ⟨j+1,done ++ [(y,v)],rest',by go_num,by have:=HJK.out;omega,RR',HS2,R1,HB4,HO4⟩
      case measure=>have:=HJK.out;simp [intOf];omega
     | false=>
      have hsc1:scanP b ((y,v) :: rest')=if less b y then [] else scanP b rest':=by rw [g0O,if_neg (by rw [hpre];simp)]
      cases hby:less b y with
      | true=>
       have hsc2:scanP b rest0=done:=by rw [SC.out,hsc1,if_pos hby,List.append_nil]
       have g1:Op.bytesLess (bs y).toList (bs b).toList=false:=by rw [a0g,a0g];exact d0x hby
       have g2:((bs y).toList == (bs b).toList)=false:=by rw [a0g,a0g,beq_eq_false_iff_ne];exact (b0H hby).symm
       have HS2:=hh hsc2;clear hpre hsc1 hsc2 hby
       go_wp2_with fail
       go_ret
       rw [← HSC0.out,HS2.out]
       exact ⟨_,rfl,LOO.out,BW.out,OW.out⟩
      | false=>
       have hsc2:scanP b rest0=done ++ scanP b rest':=by rw [SC.out,hsc1,if_neg (by rw [hby];simp)]
       have HS2:=hh hsc2;have hor:=d0n hby
       clear hpre hsc1 hsc2 hby
       rcases hor with hor | hor
       ·have g2:((bs y).toList == (bs b).toList)=true:=by rw [a0g,a0g,hor];simp
        clear hor;go_wp2_with fail
        go_roundw
        case rel=>exact ⟨j+1,done,rest',by go_num,by have:=HJK.out;omega,RR',HS2,LOO,BW,OW⟩
        case measure=>have:=HJK.out;simp [intOf];omega
       ·have g1:Op.bytesLess (bs y).toList (bs b).toList=true:=by rw [a0g,a0g];exact hor
        clear hor;go_wp2_with fail
        go_roundw
        case rel=>exact ⟨j+1,done,rest',by go_num,by have:=HJK.out;omega,RR',HS2,LOO,BW,OW⟩
        case measure=>have:=HJK.out;simp [intOf];omega
    ·have hjz:j=nz:=by omega
     have RR1:Hid (RestOf s.t ((zs.drop (i0+(i+1))).map (·.2)).flatten rest):=by
      have h8:=RR.out;rw [List.drop_of_length_le (by rw [← HNZ.out];omega),List.nil_append,HTAIL.out] at h8
      exact hh h8
     clear hjz RR;have hh2:i < 1099511627776:=by have:=HLT.out;have:=HMN.out;omega
     go_wp2_with fail
     go_roundw
     case rel=>exact ⟨i+1,done,rest,by go_num,Nat.succ_le_of_lt HLT.out,RR1,SC,LOO,BW,OW⟩
     case measure=>have hhq:i < m:=HLT.out;simp [intOf];omega
  ·have hfin:Hid (scanP b rest0=done):=by
    have h8:=RR.out;rw [List.drop_of_length_le (by rw [← HN.out];have:=HMN.out;omega)] at h8;have h9:rest = []:=List.map_eq_nil_iff.1 h8.keys;have h10:=SC.out;rw [h9,m0r,List.append_nil] at h10
    exact hh h10
   go_wp2_with fail
   go_ret
   rw [← HSC0.out,hfin.out]
   exact ⟨_,rfl,LOO.out,BW.out,OW.out⟩
end
section
open Go.RowKit

theorem m0g {w:World} {g:Nat} {s:PS} {F:List Nat} (h:St w g s F) (htl:s.t.length < 1099511627776) :
  Calls Tryz.prog 26 #[.pointer (some ⟨g,0,none⟩)] w (CloneRet w 106 pairE 2 s.t):=by
 have HS:=hh h;have HT:=hh htl;clear h htl
 go_enter Tryz.func26,Tryz.ntmps26
 go_wp2_with fail;refine (f0g HS.out HT.out []).mono ?_;rintro e w1 ⟨v,rfl,r1,r2,r3⟩;rw [k0B] at r1;have R1:=hh r1;have R2:=hh r2;have R3:=hh r3;clear r1 r2 r3;go_wp2_with fail
 go_ret
 exact ⟨_,rfl,R1.out,R2.out,R3.out⟩
def CopyRet (w:World) (s:PS) (e:Ending) (w':World):Prop:=∃ X F',e = .returned (.pointer (some ⟨X,0,none⟩))∧St w' X s F'∧Below w.heap.size w w'∧∀ x∈F',w.heap.size≤x
end
end Go.Proofs.YtabminbgoclnkaaGreat
