/- enter and leave of a store: no condition. -/
import Derived.Test.YtabminbgoclnkaaGreatVa6
namespace Go.Proofs.YtabminbgoclnkaaGreat
set_option maxHeartbeats 8000000
set_option maxRecDepth 100000
open Go.RowKit

def strV (k:Txt):Value:=.string (bs k)
theorem n0b (b:List Txt):b.flatMap tE=b.map strV:=by
 induction b with
 | nil=>rfl
 | cons x b ih=>rw [List.flatMap_cons,ih];rfl
theorem i0e {w:World} {e:TypeId} {v:Value} {b:List Txt}:LO w e tE 1 v b↔LO w e vE 1 v (b.map strV):=by
 unfold LO
 rw [n0b,a0U,List.length_map]
 constructor
 ·rintro (⟨h1,h2⟩ | h)
  ·exact .inl ⟨h1,by rw [h2];rfl⟩
  ·exact .inr h
 ·rintro (⟨h1,h2⟩ | h)
  ·exact .inl ⟨h1,List.map_eq_nil_iff.1 h2⟩
  ·exact .inr h
theorem i0b (b:List Txt):∀ u∈b.map strV,u.oneCell'=true:=fun u hu=>by
 obtain ⟨k,_,rfl⟩:=List.mem_map.1 hu;rfl
theorem LO.one {w:World} {v:Value} {b:List Txt} (h:LO w 9 tE 1 v b):v.oneCell'=true:=by
 rcases h with ⟨rfl,_⟩ | ⟨g,cap,cur,rfl,_⟩<;>rfl
theorem f0x {w:World} {zs:List (Value × List Txt)} (h:RowsZ w zs):∀ u∈zs.map (·.1),u.oneCell'=true:=fun u hu=>by
 obtain ⟨z,hz,rfl⟩:=List.mem_map.1 hu;exact (h.rows z hz).one
theorem g0a {w:World} {g:Nat} {x o:Obj} (h:w.heap[g]? = some x):(w.alloc o).heap[g]? = some x:=by
 exact (Below.heap_alloc _ _ _ (a0e h)).trans h

def EnterRet (w:World) (g bm:Nat) (vb vp:Value) (zs:List (Value × List Txt)) (k:Txt) (e:Ending) (w':World):Prop:=
 e = .returned (.tuple #[])∧∃ vb' zs' xs ys,Bk w' g bm vb' vp zs'∧(zs.map (·.2)).flatten=xs ++ ys∧(zs'.map (·.2)).flatten=xs ++ k :: ys∧(∀ x∈xs,less x k=true)∧(∀ y∈ys,less k y=true) ∧
  Keep (fun x=>x=g∨x∈footB vb zs) w w'∧∀ x∈footB vb' zs',x∈footB vb zs∨w.heap.size≤x

theorem h0i {w:World} {g bm:Nat} {vb vp:Value} (h:Bk w g bm vb vp []) (k:Txt):Calls Tryz.prog 143 #[.pointer (some ⟨g,0,none⟩),.string (bs k)] w (EnterRet w g bm vb vp [] k):=by
 obtain ⟨ad,cap,hvb,h1,h2⟩:=h.blocks.shape;simp only [List.map_nil,List.length_nil] at hvb;subst hvb;have c2:w.cell? ⟨g,2,none⟩=some (.slice ad 0 cap):=Lib.cell_of_heap h.head 2;have HH:=hh h.head;clear h h1
 go_enter Tryz.func143,Tryz.ntmps143
 go_wp2_with (refine a0o rfl 64 _ _ rfl g 2 _ rfl rfl rfl rfl 67 #[.bool true,.map (some bm),.slice ad 0 cap,vp] (g0a (g0a HH.out)) (by kernel_rfl) (by simp) _ rfl ?_)
 intro w' h4 k4 z4;have hb:Below w.heap.size w ((w.alloc (.cells #[.string (bs k)] 9)).alloc (.cells #[.slice (some ⟨w.heap.size,0,none⟩) 1 1] 150)):=((Below.refl _ _).alloc (Nat.le_refl _) _).alloc (by simp) _;have hg:=a0e HH.out;have hrow:w'.heap[w.heap.size]? = some (.cells #[.string (bs k)] 9 (0,0)):=by
  rw [k4.block _ (by simp;omega) (by omega)]
  exact g0a (heap_alloc_new _ _)
 have hblk:w'.heap[w.heap.size+1]? = some (.cells #[.slice (some ⟨w.heap.size,0,none⟩) 1 1] 150 (0,0)):=by
  rw [k4.block _ (by simp) (by omega)];have:=heap_alloc_new (w.alloc (.cells #[.string (bs k)] 9)) (.cells #[.slice (some ⟨w.heap.size,0,none⟩) 1 1] 150);rw [World.size_alloc] at this
  exact this
 have hk:Keep (fun x=>x=g∨x∈footB (.slice ad 0 cap) []) w w':=(Keep.of_below hb).then k4 (fun x hx=>.inl (.inl hx));have H4:=hh h4;have HR:=hh hrow;have HB:=hh hblk;have HK:=hh hk;clear h4 k4 z4 hrow hblk hk hb;go_wp2_with fail
 go_end0
 refine ⟨rfl,.slice (some ⟨w.heap.size+1,0,none⟩) 1 1,[(.slice (some ⟨w.heap.size,0,none⟩) 1 1,[k])],[],[],⟨H4.out,LO.mk rfl HB.out (Nat.le_refl _) (by unfold maxLen;omega) (by simp) rfl,⟨fun z hz=>?_,by simp [Value.ownBlock]⟩,fun z hz=>?_⟩,rfl,rfl,fun x hx=>absurd hx (by simp),fun x hx=>absurd hx (by simp),HK.out,fun x hx=>?_⟩
 ·rw [List.mem_singleton.1 hz]
  exact LO.mk rfl HR.out (Nat.le_refl _) (by unfold maxLen;omega) (by simp) rfl
 ·rw [List.mem_singleton.1 hz];exact ⟨by simp,by simp⟩
 ·simp [footB,Value.ownBlock] at hx
  omega

theorem LO.apart {α:Type} {w:World} {e e':TypeId} {enc:α→List Value} {sz:Nat} {v:Value} {l:List α} (h:LO w e enc sz v l) {g:Nat} {cs:Array Value} (hg:w.heap[g]? = some (.cells cs e' (0,0))) (hne:e≠e'):v.ownBlock≠some g:=by
 intro hv;obtain ⟨cs',hc⟩:=h.kind hv;rw [hg] at hc;simp only [Option.some.injEq,Obj.cells.injEq] at hc
 exact hne hc.2.1.symm
theorem a0h {P:Program} {o:Oper} {a:Act} {w:World} {K:Act→World→Prop} {Q:Exit→Act→World→Prop} (ty:TypeId) (x y:Operand) (ho:o.op = .store ty x y)
  (g i:Nat) (v:Value) (hx:a.eval x = .pointer (some ⟨g,i,none⟩)) (hy:a.eval y=v) (hv:v.cells=#[v]) (h1:v.oneCell'=true)
  (t:TypeId) (cs:Array Value) (hg:w.heap[g]? = some (.cells cs t (0,0))) (hi:(P.info? ty).map (·.size)=some 1) (hb:i < cs.size) (new:Array Value) (hnew:cs.setIfInBounds i v=new)
  (h:∀ w',w'.heap[g]? = some (.cells new t (0,0))→Keep (· = g) w w'→w'.heap.size=w.heap.size→K (a.put o.dst undef) w'):o.wp P a w K Q:=by
 have hc:(w.cell? ⟨g,i,none⟩).isSome=true:=by rw [Lib.cell_of_heap hg,Array.getElem?_eq_getElem hb];rfl
 have hf:w.frozen? ⟨g,i,none⟩=false:=Lib.frozen_of_heap hg i;have z0:∀ j,j < [v].length→j=0:=fun j hj=>by simpa using hj
 have hst:=run_storeCells_cells (P:=P) g i [v] 0 w (fun j hj=>by rw [z0 j hj];exact hc) (fun j hj=>by rw [z0 j hj];exact hf) (fun u hu=>(by simpa using hu:u=v)▸h1);have hsv:(storeVar ty ⟨g,i,none⟩ v).run P w = .ok () (w.setCell ⟨g,i,none⟩ v):=by
  cases hq:P.info? ty with
  | none=>simp [hq] at hi
  | some inf=>
   have hs:inf.size=1:=by simpa [hq] using hi
   simp only [Nat.add_zero] at hst
   simp [storeVar,sizeOf,typeInfo,hq,hv,hs,hst,World.setCells]
 unfold Oper.wp execOp
 simp only [ho,hx,hy,Instr.storeAt,Instr.sureAddr,Sem.run_bind,Sem.run_pure,Result.andThen_ok,hsv]
 exact h _ (by rw [heap_setCell_same _ _ _ _ _ _ hg,hnew]) (Keep.setCell (S:=(· = g)) (p:=⟨g,i,none⟩) (Keep.refl _ _) (.inl rfl) _) (by simp [World.setCell])
theorem LO.set {w':World} {e:TypeId} {g n cap:Nat} {us:List Value} {cur:Array Value} {i:Nat} (x:Value) (hn:n=us.length) (h1:n≤cap) (h2:cap≤maxLen) (h3:cap*1≤cur.size) (h4:cur.toList.take (n*1)=us.flatMap vE) (hw:w'.heap[g]? = some (.cells (cur.setIfInBounds i x) e (0,0))):LO w' e vE 1 (.slice (some ⟨g,0,none⟩) n cap) (us.set i x):=by
 refine LO.mk (by rw [List.length_set];exact hn) hw h1 h2 (by rw [Array.size_setIfInBounds];exact h3) ?_;rw [a0U,Nat.mul_one] at *;rw [Array.toList_setIfInBounds,List.take_set,h4]
theorem LO.rdFrom {α:Type} {w:World} {e:TypeId} {enc:α→List Value} {g n cap:Nat} {l:List α} (h:LO w e enc 1 (.slice (some ⟨g,0,none⟩) n cap) l) (he:∀ x,(enc x).length=1) (j:Nat):Rd w enc 1 (.slice (some ⟨g,j,none⟩) (n - j) (cap - j)) (l.drop j):=by
 have hr:=h.rd he;obtain ⟨ad,c,e1,h1,h2,h3⟩:=hr
 cases e1
 refine ⟨_,_,by rw [List.length_drop],by rw [List.length_drop];omega,by omega,fun hl=>?_⟩;have hl2:l≠[]:=by rintro rfl;simp at hl
 obtain ⟨b,off,e2,h4,h5⟩:=h3 hl2
 cases e2
 refine ⟨g,j,rfl,h4,fun i hi q hq=>?_⟩;rw [List.length_drop] at hi;have:=h5 (j+i) (by omega) q hq;rw [List.getElem_drop];rw [← this]
 congr 2
 omega
theorem h0a {zs pre post:List (Value × List Txt)} {x:Value} {b:List Txt} {k:Txt} {a:Nat} (hzs:zs=pre ++ (x,b) :: post) (hu:UpK (zs.map (·.2)).flatten) (hn:∀ z∈zs,z.2≠[]) (hf:Find (zs.map (·.2)) k pre.length) (ha:At b k a) (hk:k ∉ (zs.map (·.2)).flatten) :
  (zs.map (·.2)).flatten=((pre.map (·.2)).flatten ++ b.take a) ++ (b.drop a ++ (post.map (·.2)).flatten)∧(∀ q∈(pre.map (·.2)).flatten ++ b.take a,less q k=true)∧∀ q∈b.drop a ++ (post.map (·.2)).flatten,less k q=true:=by
 have hnn:∀ c∈zs.map (·.2),c≠[]:=fun c hc=>by obtain ⟨z,hz,rfl⟩:=List.mem_map.1 hc;exact hn z hz
 have e1:(zs.map (·.2)).take pre.length=pre.map (·.2):=by
  rw [hzs,List.map_append];exact List.take_left' (List.length_map _)
 have e2:(zs.map (·.2)).drop (pre.length+1)=post.map (·.2):=by
  rw [hzs,List.map_append,List.map_cons,show pre.map (·.2) ++ (x,b).2 :: post.map (·.2)=(pre.map (·.2) ++ [b]) ++ post.map (·.2) by simp]
  exact List.drop_left' (by simp)
 have e3:(zs.map (·.2)).flatten=(pre.map (·.2)).flatten ++ (b ++ (post.map (·.2)).flatten):=by
  rw [hzs,List.map_append,List.flatten_append,List.map_cons,List.flatten_cons]
 have hb:=hf.before hu hnn;have hhq:=hf.behind hu hnn;rw [e1] at hb;rw [e2] at hhq;have hkb:k ∉ b:=fun hm=>hk (by rw [e3];simp [hm])
 refine ⟨?_,fun q hq=>?_,fun q hq=>?_⟩
 ·rw [e3,List.append_assoc,← List.append_assoc (b.take a),List.take_append_drop]
 ·rcases List.mem_append.1 hq with hq | hq
  ·exact hb q hq
  ·exact ha.take q hq
 ·rcases List.mem_append.1 hq with hq | hq
  ·exact ha.drop hkb q hq
  ·exact hhq q hq

theorem c0R {w:World} {vb:Value} {pre post:List (Value × List Txt)} {z z':Value × List Txt} (hm:MovedO w z.1 z'.1):∀ q∈footB vb (pre ++ z' :: post),q∈footB vb (pre ++ z :: post)∨w.heap.size≤q:=by
 intro q hq
 unfold footB at hq ⊢
 rcases List.mem_append.1 hq with hq | hq
 ·exact .inl (List.mem_append_left _ hq)
 ·obtain ⟨y,hy,e⟩:=List.mem_filterMap.1 hq
  rcases List.mem_append.1 hy with hy | hy
  ·exact .inl (List.mem_append_right _ (b0c (List.mem_append_left _ hy) e))
  ·rcases List.mem_cons.1 hy with rfl | hy
   ·rcases hm with h | ⟨g,h,h'⟩
    ·exact .inl (List.mem_append_right _ (b0c (z:=z) (by simp) (by rw [← h];exact e)))
    ·rw [e] at h;cases h;exact .inr h'
   ·exact .inl (List.mem_append_right _ (b0c (List.mem_append_right _ (List.mem_cons_of_mem _ hy)) e))
theorem map_set {pre post:List (Value × List Txt)} (z z':Value × List Txt):((pre ++ z :: post).map (·.1)).set pre.length z'.1=(pre ++ z' :: post).map (·.1):=by
 rw [List.map_append,List.map_append,List.map_cons,List.map_cons,List.set_append_right _ _ (by rw [List.length_map];exact Nat.le_refl _),List.length_map,Nat.sub_self];rfl
theorem RowsZ.apart {w:World} {zs:List (Value × List Txt)} (h:RowsZ w zs) {g:Nat} {cs:Array Value} {e':TypeId} (hg:w.heap[g]? = some (.cells cs e' (0,0))) (hne:9≠e'):∀ q∈zs.filterMap (·.1.ownBlock),q≠g:=by
 rintro q hq rfl;obtain ⟨y,hy,e⟩:=List.mem_filterMap.1 hq
 exact (h.rows y hy).apart hg hne e

def clone_ok (n:Nat):Prop:=n < 1099511627776
theorem i0l {zs:List (Value × List Txt)} {i:Nat} (h:i < zs.length):zs=zs.take i ++ zs[i] :: zs.drop (i+1):=by rw [List.getElem_cons_drop h,List.take_append_drop]

theorem i0T {w:World} {g bm:Nat} {vb vp:Value} {zs:List (Value × List Txt)} (h:Bk w g bm vb vp zs) (hub:UpK (zs.map (·.2)).flatten) (hlz:zs.length < 1099511627776) (hne:zs≠[]) (k:Txt) (hk:k ∉ (zs.map (·.2)).flatten) :
  Calls Tryz.prog 143 #[.pointer (some ⟨g,0,none⟩),.string (bs k)] w (EnterRet w g bm vb vp zs k):=by
 obtain ⟨gv,cap,cur,hvb,hgv,d1,d2,d3,d4⟩:=h.blocks.opened (by intro e;exact hne (List.map_eq_nil_iff.1 e));rw [List.length_map] at hvb d1 d4;obtain ⟨n,hn⟩:=nm (zs.length);rw [← hn] at hvb d1 d4 hlz;subst hvb;have hn0:0 < n:=by rw [hn];exact List.length_pos_iff.2 hne
 have c2:w.cell? ⟨g,2,none⟩=some (.slice (some ⟨gv,0,none⟩) n cap):=Lib.cell_of_heap h.head 2;have H:=hh h;have HU:=hh hub;have HN:=hh hn;have HE:=hh hne;have HK:=hh hk;have HG:=hh hgv;have D3:=hh d3;have D4:=hh d4;clear h hub hn hne hk hgv d3 d4
 unfold maxLen at d2
 go_enter Tryz.func143,Tryz.ntmps143
 go_wp2_with fail;refine (e0B H.out HU.out (by have:=HN.out;omega) HE.out k).mono ?_;rintro e w1 ⟨i,rfl,hf,rfl⟩;have hin:i < n:=by have:=hf.lt;rw [List.length_map] at this;rw [HN.out];exact this
 have hil:i < zs.length:=by rw [← HN.out];exact hin
 have HF:=hh hf;have HIL:=hh hil;clear hf hil;obtain ⟨pre,hpre⟩:=nm (zs.take i);obtain ⟨z,hz⟩:=nm (zs[i]'HIL.out);obtain ⟨post,hpost⟩:=nm (zs.drop (i+1));have hzs:zs=pre ++ z :: post:=by rw [hpre,hz,hpost];exact i0l HIL.out
 have hpl:pre.length=i:=by rw [hpre,List.length_take];have:=HIL.out;omega
 have hci:w.cell? ⟨gv,i,none⟩=some z.1:=by
  rw [Lib.cell_of_heap HG.out];have h5:=D4.out;rw [a0U,Nat.mul_one] at h5;have h6:(zs.map (·.1))[i]? = some z.1:=by rw [List.getElem?_map,List.getElem?_eq_getElem HIL.out,hz];rfl
  rw [← h5,List.getElem?_take,if_pos hin] at h6
  simpa using h6
 have hzm:z∈zs:=by rw [hzs];simp
 have hrow:=H.out.rows.rows z hzm;have hlen:=(H.out.ne z hzm);have hzz:(zs.map (·.2))[i]'HF.out.lt=z.2:=by rw [List.getElem_map,hz]
 obtain ⟨x,b⟩:=z;simp only at hci hrow hlen hzz;have HZS:=hh hzs;have HPL:=hh hpl;have HROW:=hh hrow;have HLEN:=hh hlen;have HZZ:=hh hzz;have HPRE:=hh hpre;have HPOST:=hh hpost;clear hpre hz hpost hzs hpl hzm hrow hlen hzz;go_wp2_with fail;have hub2:UpK b:=by
  have:=e0d HU.out (List.getElem_mem HF.out.lt);rw [HZZ.out] at this;exact this
 refine (e0c _ x b k (HROW.out.rd e0A) hub2 (by have:=HLEN.out;omega)).mono ?_;rintro e w1 ⟨a,_,rfl,ha,rfl⟩;have HA:=hh ha;have HB2:=hh hub2;clear ha hub2;go_wp2_with fail;obtain ⟨wA,hwA⟩:=nm (w.alloc (.cells #[.string (bs k)] 9));obtain ⟨X,hX⟩:=nm (w.heap.size);have hbA:Below w.heap.size w wA:=by rw [hwA];exact (Below.refl _ _).alloc (Nat.le_refl _) _
 have hxA:wA.heap[X]? = some (.cells #[strV k] 9 (0,0)):=by rw [hwA,hX];exact heap_alloc_new _ _
 have hxo:x.ownBlock≠some X:=fun e=>by have:=HROW.out.lt X e;omega
 rw [← hwA,← hX];refine (n0i wA x (b.map strV) (i0b b) (i0e.1 (HROW.out.later hbA)) a (by rw [List.length_map];exact HA.out.le) (strV k) rfl X _ hxA hxo (by rw [List.length_map];have:=HLEN.out;omega)).mono ?_;rintro e w2 ⟨x',rfl,hlo,hkp,hmv⟩;obtain ⟨b',hb'⟩:∃ b',b'=b.take a ++ k :: b.drop a:=⟨_,rfl⟩;have hlo2:LO w2 9 tE 1 x' b':=by
  rw [i0e,hb',List.map_append,List.map_cons,List.map_take,List.map_drop];exact hlo
 have hbl:b'.length=b.length+1:=by
  rw [hb',List.length_append,List.length_cons,List.length_take,List.length_drop];have:=HA.out.le;omega
 have hk2:Keep (fun q=>x.ownBlock=some q) w w2:=(Keep.of_below hbA).then hkp (fun q h=>.inl h);have hm2:MovedO w x x':=by
  rcases hmv with h | ⟨q,h,h'⟩
  ·exact .inl h
  ·exact .inr ⟨q,h,Nat.le_trans hbA.size h'⟩
 have hord:=h0a HZS.out HU.out (fun z hz=>(H.out.ne z hz).1) (by rw [HPL.out];exact HF.out) HA.out HK.out;have hxg:x.ownBlock≠some g:=HROW.out.apart H.out.head (by decide);have hxv:x.ownBlock≠some gv:=HROW.out.apart HG.out (by decide);have hg2:=hk2.at H.out.head hxg;have hv2:=hk2.at HG.out hxv;obtain ⟨ad',cap',hx',e1,e2⟩:=hlo2.shape;subst hx';have HLO:=hh hlo2;have HB':=hh hb';have HBL:=hh hbl;have HK2:=hh hk2;have HM2:=hh hm2;have HORD:=hh hord;have HG2:=hh hg2;have HV2:=hh hv2;have hgv:g≠gv:=fun e=>by have h1:=H.out.head;have h2:=HG.out;rw [e,h2] at h1;simp at h1
 clear hwA hX hbA hxA hxo hlo hkp hmv hb' hlo2 hbl hk2 hm2 hord hxg hxv hg2 hv2
 by_cases h64:b.length < 64
 ·have hble:b'.length≤64:=by rw [HBL.out];omega
  obtain ⟨m,hm⟩:=nm (b'.length);rw [← hm] at hble HLO e1 HM2 ⊢;have HM:=hh hm;clear hm h64;have c2':w2.cell? ⟨g,2,none⟩=some (.slice (some ⟨gv,0,none⟩) n cap):=Lib.cell_of_heap HG2.out 2;have hlq:(m:Int)≤64:=by omega
  go_wp2_with (refine a0o rfl 150 _ _ rfl gv i _ rfl rfl rfl rfl 150 cur HV2.out (by kernel_rfl) (by have:=D3.out;omega) _ rfl ?_)
  intro w3 h4 k4 z4;have H4:=hh h4;have K4:=hh k4;clear h4 k4 z4;go_wp2_with fail
  go_end0
  have hrows2:RowsZ w2 (pre ++ (.slice ad' m cap',b') :: post):=by
   have h5:=H.out.rows;rw [HZS.out] at h5
   exact h5.update HK2.out HLO.out HM2.out
  have hgm:gv∈footB (.slice (some ⟨gv,0,none⟩) n cap) zs:=by simp [footB,Value.ownBlock]
  refine ⟨rfl,.slice (some ⟨gv,0,none⟩) n cap,pre ++ (.slice ad' m cap',b') :: post,_,_,⟨K4.out.at HG2.out hgv,?_,hrows2.keep K4.out (fun q hq=>hrows2.apart HV2.out (by decide) q hq),?_⟩,HORD.out.1,?_,HORD.out.2.1,HORD.out.2.2,?_,?_⟩
  ·have h6:=LO.set (us:=zs.map (·.1)) (i:=i) (.slice ad' m cap') (by rw [List.length_map];exact HN.out) d1 (by unfold maxLen;exact d2) D3.out (by have:=D4.out;exact this) H4.out;rw [HZS.out,← HPL.out] at h6;rw [map_set (x,b) (.slice ad' m cap',b')] at h6
   exact h6
  ·intro z hz
   rcases List.mem_append.1 hz with hz | hz
   ·exact H.out.ne z (by rw [HZS.out];exact List.mem_append_left _ hz)
   ·rcases List.mem_cons.1 hz with rfl | hz
    ·exact ⟨by rw [HB'.out];simp,by rw [← HM.out];exact hble⟩
    ·exact H.out.ne z (by rw [HZS.out];exact List.mem_append_right _ (List.mem_cons_of_mem _ hz))
  ·rw [List.map_append,List.flatten_append,List.map_cons,List.flatten_cons,HB'.out];simp
  ·refine (HK2.out.mono fun q _ hq=>?_).then K4.out fun q hq=>.inl (.inr (by rw [hq];exact hgm))
   right
   rw [HZS.out]
   exact List.mem_append_right _ (b0c (z:=(x,b)) (by simp) hq)
  ·rw [HZS.out];exact c0R HM2.out
 ·have hb64:b.length=64:=by have:=HLEN.out;omega
  have hb65:b'.length=65:=by rw [HBL.out,hb64]
  rw [hb65] at HLO e1 HM2 ⊢;have H65:=hh hb65;obtain ⟨D,hD⟩:∃ D,ad'=some ⟨D,0,none⟩:=by
   rcases HLO.out with ⟨h,_⟩ | ⟨q,c,cu,h,_⟩
   ·cases h
   ·exact ⟨q,(Value.slice.inj h).1⟩
  subst hD;clear hb64 hb65 h64;have c2':w2.cell? ⟨g,2,none⟩=some (.slice (some ⟨gv,0,none⟩) n cap):=Lib.cell_of_heap HG2.out 2;go_wp2_with fail;have C2:Hid (∀ w':World,w'.heap[g]? = some (.cells #[.bool true,.map (some bm),.slice (some ⟨gv,0,none⟩) n cap,vp] 67 (0,0))→w'.cell? ⟨g,2,none⟩=some (.slice (some ⟨gv,0,none⟩) n cap)):=hh fun w' h=>Lib.cell_of_heap h 2
  have hS:=HG2.out;have hcap:65≤cap':=e1;have h32:(32:Int)≤(cap':Int):=by omega
  have h65:(65:Int)≤(cap':Int):=by omega
  clear c2 c2' hci;refine a0b (fun w'=>w'.heap[g]? = some (.cells #[.bool true,.map (some bm),.slice (some ⟨gv,0,none⟩) n cap,vp] 67 (0,0))) 10 11 (by kernel_rfl) rfl ?_;refine tA1 0 55 hS ?_;go_frame;refine tA1 1 56 hS ?_;go_frame;refine tA1 2 57 hS ?_;go_frame;refine tk 3 (some 58) rfl rfl (.inl ⟨by rfl,fun w' hS'=>(by have hc:=C2.out w' hS';go_simp;rfl)⟩) hS ?_;go_frame;refine tA1 4 59 hS ?_;go_frame;refine tA1 5 60 hS ?_;go_frame;refine tA1 6 61 hS ?_;go_frame;refine tA1 7 62 hS ?_;go_frame;refine tA1 8 63 hS ?_;go_frame;refine tA1 9 64 hS ?_;go_frame;refine t1 10 fun K hK=>?_
  simp only [gA,jB,gC];refine a0h 150 _ _ rfl gv i _ rfl rfl rfl rfl 150 cur HV2.out (by kernel_rfl) (by have:=D3.out;omega) _ rfl ?_;intro w3 h4 k4 z4;refine hK _ _ (fun h=>absurd rfl h) ?_;clear hK hS;refine tD ?_;have k23:Keep (· = gv) w2 w3:=(Keep.refl _ _).drew.trans (k4.mono fun q _ h=>.inl h);have hg3:=k23.at HG2.out hgv;have hrows2:RowsZ w2 (pre ++ (.slice (some ⟨D,0,none⟩) 65 cap',b') :: post):=by
   have h5:=H.out.rows;rw [HZS.out] at h5
   exact h5.update HK2.out HLO.out HM2.out
  have hcut:LO w2 9 tE 1 (.slice (some ⟨D,0,none⟩) 32 32) (b'.take 32):=HLO.out.cut e0A 32 32 (by omega) (by omega) (by omega);have hrows2c:RowsZ w2 (pre ++ (.slice (some ⟨D,0,none⟩) 32 32,b'.take 32) :: post):=hrows2.update (Keep.refl _ _) hcut (.inl rfl);have hrows3:=hrows2c.keep k23 (fun q hq=>hrows2c.apart HV2.out (by decide) q hq);have hlo3:=HLO.out.keep k23 (fun q e=>by have:=HLO.out.apart HV2.out (by decide);intro h;exact this (by rw [e,h]));have hblk3:LO w3 150 vE 1 (.slice (some ⟨gv,0,none⟩) n cap) ((pre ++ (.slice (some ⟨D,0,none⟩) 32 32,b'.take 32) :: post).map (·.1)):=by
   have h6:=LO.set (us:=zs.map (·.1)) (i:=i) (.slice (some ⟨D,0,none⟩) 32 32) (by rw [List.length_map];exact HN.out) d1 (by unfold maxLen;exact d2) D3.out (by have:=D4.out;exact this) h4;rw [HZS.out,← HPL.out] at h6;rw [map_set (x,b) (.slice (some ⟨D,0,none⟩) 32 32,b'.take 32)] at h6
   exact h6
  have HG3:=hh hg3;have HR3:=hh hrows3;have HLO3:=hh hlo3;have HBLK3:=hh hblk3;have K23:=hh k23;clear k23 hg3 hrows2 hcut hrows2c hrows3 hlo3 hblk3 h4 k4 z4;have hS:=HG3.out;have hb3:Below w3.heap.size w3 w3.drew:=(Below.refl _ _).drew;have hwi:IntKind.i64.wrap ((i:Int)+1)=(i:Int)+1:=IntWalk.i64_in _ (by omega);have hc32:¬ cap'=32:=by omega
  go_wp2_with fail;refine a0b (fun w'=>w'.heap[g]? = some (.cells #[.bool true,.map (some bm),.slice (some ⟨gv,0,none⟩) n cap,vp] 67 (0,0))) 15 16 (by kernel_rfl) rfl ?_;refine tA1 0 65 hS ?_;go_frame;refine tA1 1 66 hS ?_;go_frame;refine tA1 2 67 hS ?_;go_frame;refine tA1 3 68 hS ?_;go_frame;refine tk 4 (some 69) rfl rfl (.inl ⟨by rfl,fun w' hS'=>(by have hc:=C2.out w' hS';go_simp;rfl)⟩) hS ?_;go_frame;refine tA1 5 70 hS ?_;go_frame;refine tA1 6 71 hS ?_;go_frame;refine tA1 7 72 hS ?_;go_frame;refine tA1 8 73 hS ?_;go_frame;refine tA1 9 74 hS ?_;go_frame;refine t1 10 fun K hK=>?_
  simp only [gA,jB,gC];go_simp;have hrd:=(HLO3.out.rdFrom e0A 32).later hb3;have hcn:clone_ok (b'.drop 32).length:=by unfold clone_ok;rw [List.length_drop];have:=H65.out;omega
  refine (j0z w3.drew (.slice (some ⟨D,32,none⟩) 33 (cap' - 32)) (b'.drop 32) hrd hcn).mono ?_;rintro e w4 ⟨x4,rfl,hlo4,hb4,ho4⟩;obtain ⟨ad4,cap4,hx4,_,_⟩:=hlo4.shape;obtain ⟨n4,hn4⟩:=nm ((b'.drop 32).length);rw [← hn4] at hx4;clear hn4;obtain ⟨x4',hx4'⟩:∃ x4':Value,x4' = .slice ad4 n4 cap4:=⟨_,rfl⟩;rw [← hx4'] at hx4;subst hx4;have hs4:w3.drew.heap.size=w3.heap.size:=rfl;rw [hs4] at hb4 ho4;have hb34:Below w3.heap.size w3 w4:=hb3.trans hb4;have hS4:=(hb4.block g (a0e HG3.out)).trans hS;refine hK _ _ (fun _ _=>hS4) ?_;have hrows4:=HR3.out.keep (Keep.of_below (S:=fun _=>False) hb34) fun _ _=>id
  have hblk4:=HBLK3.out.later hb34;have hrows4x:RowsZ w4 (pre ++ (.slice (some ⟨D,0,none⟩) 32 32,b'.take 32) :: (x4,b'.drop 32) :: post):=by
   have h7:pre ++ (.slice (some ⟨D,0,none⟩) 32 32,b'.take 32) :: (x4,b'.drop 32) :: post=(pre ++ [(Value.slice (some ⟨D,0,none⟩) 32 32,b'.take 32)]) ++ (x4,b'.drop 32) :: post:=by simp
   rw [h7];refine RowsZ.insert (by simpa using hrows4) hlo4 fun q e hq=>?_
   have h8:=ho4 q e;obtain ⟨y,hy,e2⟩:=List.mem_filterMap.1 hq;have:=(HR3.out.rows y (by simpa using hy)).lt q e2
   omega
  have HX4:=hh hx4';have hxc:x4.cells=#[x4]:=by rw [hx4'];rfl
  have HXC:=hh hxc;subst hx4';have HLO4:=hh hlo4;have HB34:=hh hb34;have HO4:=hh ho4;have HR4:=hh hrows4x;have HBLK4:=hh hblk4;clear hK hS hrd hcn hlo4 hb4 ho4 hs4 hb34 hrows4 hblk4 hrows4x;have hS:=hS4;clear hS4;refine t1 11 fun K hK=>?_
  simp only [gA,jB,gC];go_simp;obtain ⟨w5,hw5⟩:=nm (w4.alloc (.cells #[.slice ad4 n4 cap4] 150));obtain ⟨Y,hY⟩:=nm (w4.heap.size);rw [← hw5,← hY];have hb45:Below w4.heap.size w4 w5:=by rw [hw5];exact (Below.refl _ _).alloc (Nat.le_refl _) _
  have hy5:w5.heap[Y]? = some (.cells #[.slice ad4 n4 cap4] 150 (0,0)):=by rw [hw5,hY];exact heap_alloc_new _ _
  have hS5:=(hb45.block g (a0e hS)).trans hS;have hyg:gv < Y:=by rw [hY];exact Nat.lt_of_lt_of_le (HBLK3.out.lt gv rfl) HB34.out.size
  refine hK _ _ (fun _ _=>hS5) ?_;have HB45:=hh hb45;have HY5:=hh hy5;clear hK hS hw5 hY hb45 hy5;have hS:=hS5;clear hS5;refine t1 12 fun K hK=>?_
  simp only [gA,jB,gC];go_simp;rw [show ((i:Int)+1)=((i+1:Nat):Int) by omega];obtain ⟨us,hus⟩:=nm ((pre ++ (Value.slice (some ⟨D,0,none⟩) 32 32,b'.take 32) :: post).map (·.1));have hul:us.length=n:=by
   have h8:=HN.out;have h9:=congrArg List.length HZS.out;rw [hus,List.length_map];rw [List.length_append,List.length_cons] at h9 ⊢
   omega
  have hown5:LO w5 150 vE 1 (.slice (some ⟨gv,0,none⟩) n cap) us:=by rw [hus];exact HBLK4.out.later HB45.out
  have hone5:∀ u∈us,u.oneCell'=true:=by rw [hus];exact f0x HR3.out
  have HUS:=hh hus;refine (l0d w5 _ us hone5 hown5 (i+1) (by rw [hul];omega) (.slice ad4 n4 cap4) rfl Y _ HY5.out (by intro e;have h3:gv=Y:=Option.some.inj e;omega) (by rw [hul];exact hlz)).mono ?_;rintro e w6 ⟨v7,rfl,hlo6,k6,hm6⟩;have hfin:us.take (i+1) ++ .slice ad4 n4 cap4 :: us.drop (i+1)=(pre ++ (Value.slice (some ⟨D,0,none⟩) 32 32,b'.take 32) :: (.slice ad4 n4 cap4,b'.drop 32) :: post).map (·.1):=by
   have e3:us=(pre.map (·.1) ++ [Value.slice (some ⟨D,0,none⟩) 32 32]) ++ post.map (·.1):=by rw [HUS.out];simp
   have e4:(pre.map (·.1) ++ [Value.slice (some ⟨D,0,none⟩) 32 32]).length=i+1:=by rw [List.length_append,List.length_map,HPL.out];rfl
   rw [e3,List.take_left' e4,List.drop_left' e4]
   simp
  rw [hfin] at hlo6;have hS6:w6.heap[g]? = some (.cells #[.bool true,.map (some bm),.slice (some ⟨gv,0,none⟩) n cap,vp] 67 (0,0)):=k6.at hS (fun e=>hgv (Option.some.inj e).symm);refine hK _ _ (fun _ _=>hS6) ?_;obtain ⟨ad7,cap7,hv7,_,_⟩:=hlo6.shape;obtain ⟨n7,hn7⟩:=nm (((pre ++ (Value.slice (some ⟨D,0,none⟩) 32 32,b'.take 32) :: (Value.slice ad4 n4 cap4,b'.drop 32) :: post).map (·.1)).length);rw [← hn7] at hv7;subst hv7;have HLO6:=hh hlo6;have K6:=hh k6;have HM6:=hh hm6;clear hK hS hus hul hown5 hone5 hlo6 k6 hm6 hfin hn7;have hS:=hS6;clear hS6;refine tA1 13 78 hS ?_;go_frame;refine tA1 14 79 hS ?_;go_frame;refine t1 15 fun K hK=>?_
  simp only [gA,jB,gC];refine a0h 64 _ _ rfl g 2 _ rfl rfl rfl rfl 67 _ hS (by kernel_rfl) (by simp) _ rfl ?_;intro w7 h7 k7 z7;refine hK _ _ (fun h=>absurd rfl h) ?_;refine tD ?_;have hrows7:RowsZ w7 (pre ++ (Value.slice (some ⟨D,0,none⟩) 32 32,b'.take 32) :: (.slice ad4 n4 cap4,b'.drop 32) :: post):=by
   have r5:=HR4.out.keep (Keep.of_below (S:=fun _=>False) HB45.out) fun _ _=>id
   have hv5:∃ cs,w5.heap[gv]? = some (.cells cs 150 (0,0)):=(HBLK4.out.later HB45.out).kind rfl;obtain ⟨cs5,hv5⟩:=hv5;have r6:=r5.keep K6.out (fun q hq e=>r5.apart hv5 (by decide) q hq (Option.some.inj e).symm)
   exact r6.keep k7 (fun q hq=>r6.apart hS (by decide) q hq)
  have hblk7:LO w7 150 vE 1 (.slice ad7 n7 cap7) ((pre ++ (Value.slice (some ⟨D,0,none⟩) 32 32,b'.take 32) :: (Value.slice ad4 n4 cap4,b'.drop 32) :: post).map (·.1)):=HLO6.out.keep k7 (fun q e h=>HLO6.out.apart hS (by decide) (by rw [e,h]));have hgm:gv∈footB (.slice (some ⟨gv,0,none⟩) n cap) zs:=by simp [footB,Value.ownBlock]
  have hkeep:Keep (fun q=>q=g∨q∈footB (.slice (some ⟨gv,0,none⟩) n cap) zs) w w7:=by
   have a2:Keep (fun q=>q=g∨q∈footB (.slice (some ⟨gv,0,none⟩) n cap) zs) w w2:=HK2.out.mono fun q _ hq=>by
    right
    rw [HZS.out]
    exact List.mem_append_right _ (b0c (z:=(x,b)) (by simp) hq)
   have a3:=a2.then K23.out (fun q hq=>.inl (.inr (by rw [hq];exact hgm)));have a5:=a3.trans (Keep.of_below ((HB34.out.trans (HB45.out.mono HB34.out.size))));have a6:=a5.then K6.out (fun q hq=>.inl (.inr (by rw [← Option.some.inj hq];exact hgm)))
   exact a6.then k7 (fun q hq=>.inl (.inl hq))
  have H7:=hh h7;have HR7:=hh hrows7;have HB7:=hh hblk7;have HK7:=hh hkeep;have hw5s:w.heap.size≤w5.heap.size:=Nat.le_trans (Nat.le_trans HK2.out.size K23.out.size) (Nat.le_trans HB34.out.size HB45.out.size);clear hK hS h7 k7 z7 hrows7 hblk7 hkeep;go_wp2_with fail
  go_end0
  have hbf:b'.take 32 ++ b'.drop 32=b':=List.take_append_drop _ _;refine ⟨rfl,.slice ad7 n7 cap7,_,_,_,⟨H7.out,HB7.out,HR7.out,?_⟩,HORD.out.1,?_,HORD.out.2.1,HORD.out.2.2,HK7.out,?_⟩
  ·intro z hz;have h65:=H65.out
   rcases List.mem_append.1 hz with hz | hz
   ·exact H.out.ne z (by rw [HZS.out];exact List.mem_append_left _ hz)
   ·rcases List.mem_cons.1 hz with rfl | hz
    ·exact ⟨fun e=>by have:=congrArg List.length e;simp [h65] at this,by rw [List.length_take];omega⟩
    ·rcases List.mem_cons.1 hz with rfl | hz
     ·exact ⟨fun e=>by have:=congrArg List.length e;simp [h65] at this,by rw [List.length_drop];omega⟩
     ·exact H.out.ne z (by rw [HZS.out];exact List.mem_append_right _ (List.mem_cons_of_mem _ hz))
  ·rw [List.map_append,List.flatten_append,List.map_cons,List.flatten_cons,List.map_cons,List.flatten_cons,← List.append_assoc (b'.take 32),hbf,HB'.out];simp
  ·intro q hq
   unfold footB at hq
   rcases List.mem_append.1 hq with hq | hq
   ·rcases HM6.out with h | ⟨q',h,h'⟩
    ·left
     rw [h] at hq
     simp [Value.ownBlock] at hq
     rw [hq];exact hgm
    ·right
     rw [Option.mem_toList,h] at hq
     cases hq
     have:=hw5s
     omega
   ·obtain ⟨y,hy,e⟩:=List.mem_filterMap.1 hq
    rcases List.mem_append.1 hy with hy | hy
    ·left;rw [HZS.out];exact List.mem_append_right _ (b0c (List.mem_append_left _ hy) e)
    ·rcases List.mem_cons.1 hy with rfl | hy
     ·rw [HZS.out]
      exact c0R (vb:=.slice (some ⟨gv,0,none⟩) n cap) (pre:=pre) (post:=post) (z:=(x,b)) (z':=(.slice (some ⟨D,0,none⟩) 65 cap',b')) HM2.out q (List.mem_append_right _ (b0c (z:=(Value.slice (some ⟨D,0,none⟩) 65 cap',b')) (by simp) e))
     ·rcases List.mem_cons.1 hy with rfl | hy
      ·right
       have:=HO4.out q e;have:=K23.out.size;have:=HK2.out.size
       omega
      ·left;rw [HZS.out];exact List.mem_append_right _ (b0c (List.mem_append_right _ (List.mem_cons_of_mem _ hy)) e)
theorem k0m {w:World} {g bm:Nat} {vb vp:Value} {zs:List (Value × List Txt)} (h:Bk w g bm vb vp zs) (hub:UpK (zs.map (·.2)).flatten) (hlz:zs.length < 1099511627776) (k:Txt) (hk:k ∉ (zs.map (·.2)).flatten) :
  Calls Tryz.prog 143 #[.pointer (some ⟨g,0,none⟩),.string (bs k)] w (EnterRet w g bm vb vp zs k):=by
 by_cases hne:zs = []
 ·subst hne;exact h0i h k
 ·exact i0T h hub hlz hne k hk

def LeaveRet (w:World) (g bm:Nat) (vb vp:Value) (zs:List (Value × List Txt)) (k:Txt) (e:Ending) (w':World):Prop:=
 e = .returned (.tuple #[])∧∃ vb' zs' xs ys,Bk w' g bm vb' vp zs'∧(zs.map (·.2)).flatten=xs ++ k :: ys∧(zs'.map (·.2)).flatten=xs ++ ys ∧
  Keep (fun x=>x=g∨x∈footB vb zs) w w'∧∀ x∈footB vb' zs',x∈footB vb zs∨w.heap.size≤x

theorem k0k {w:World} {g bm:Nat} {vb vp:Value} {zs:List (Value × List Txt)} (h:Bk w g bm vb vp zs) (hub:UpK (zs.map (·.2)).flatten) (hlz:zs.length < 1099511627776) (k:Txt) (hk:k∈(zs.map (·.2)).flatten) :
  Calls Tryz.prog 144 #[.pointer (some ⟨g,0,none⟩),.string (bs k)] w (LeaveRet w g bm vb vp zs k):=by
 have hne:zs≠[]:=by rintro rfl;simp at hk
 obtain ⟨gv,cap,cur,hvb,hgv,d1,d2,d3,d4⟩:=h.blocks.opened (by intro e;exact hne (List.map_eq_nil_iff.1 e));rw [List.length_map] at hvb d1 d4;obtain ⟨n,hn⟩:=nm (zs.length);rw [← hn] at hvb d1 d4 hlz;subst hvb;have hn0:0 < n:=by rw [hn];exact List.length_pos_iff.2 hne
 have c2:w.cell? ⟨g,2,none⟩=some (.slice (some ⟨gv,0,none⟩) n cap):=Lib.cell_of_heap h.head 2;have H:=hh h;have HU:=hh hub;have HN:=hh hn;have HE:=hh hne;have HK:=hh hk;have HG:=hh hgv;have D3:=hh d3;have D4:=hh d4;clear h hub hn hne hk hgv d3 d4
 unfold maxLen at d2
 go_enter Tryz.func144,Tryz.ntmps144
 go_wp2_with fail;refine (e0B H.out HU.out (by have:=HN.out;omega) HE.out k).mono ?_;rintro e w1 ⟨i,rfl,hf,rfl⟩;have hin:i < n:=by have:=hf.lt;rw [List.length_map] at this;rw [HN.out];exact this
 have hil:i < zs.length:=by rw [← HN.out];exact hin
 have HF:=hh hf;have HIL:=hh hil;clear hf hil;obtain ⟨pre,hpre⟩:=nm (zs.take i);obtain ⟨z,hz⟩:=nm (zs[i]'HIL.out);obtain ⟨post,hpost⟩:=nm (zs.drop (i+1));have hzs:zs=pre ++ z :: post:=by rw [hpre,hz,hpost];exact i0l HIL.out
 have hpl:pre.length=i:=by rw [hpre,List.length_take];have:=HIL.out;omega
 have hci:w.cell? ⟨gv,i,none⟩=some z.1:=by
  rw [Lib.cell_of_heap HG.out];have h5:=D4.out;rw [a0U,Nat.mul_one] at h5;have h6:(zs.map (·.1))[i]? = some z.1:=by rw [List.getElem?_map,List.getElem?_eq_getElem HIL.out,hz];rfl
  rw [← h5,List.getElem?_take,if_pos hin] at h6
  simpa using h6
 have hzm:z∈zs:=by rw [hzs];simp
 have hrow:=H.out.rows.rows z hzm;have hlen:=(H.out.ne z hzm);have hzz:(zs.map (·.2))[i]'HF.out.lt=z.2:=by rw [List.getElem_map,hz]
 obtain ⟨x,b⟩:=z;simp only at hci hrow hlen hzz;have hub2:UpK b:=by
  have:=e0d HU.out (List.getElem_mem HF.out.lt);rw [hzz] at this;exact this
 have hkb:k∈b:=by
  have hnn:∀ c∈zs.map (·.2),c≠[]:=fun c hc=>by obtain ⟨z,hz,rfl⟩:=List.mem_map.1 hc;exact (H.out.ne z hz).1
  have hm:=HK.out;rw [e0Q HF.out.lt,hzz] at hm
  rcases List.mem_append.1 hm with hm | hm
  ·have:=HF.out.before HU.out hnn k hm;rw [a0r] at this;cases this
  ·rcases List.mem_append.1 hm with hm | hm
   ·exact hm
   ·have:=HF.out.behind HU.out hnn k hm;rw [a0r] at this;cases this
 have HZS:=hh hzs;have HPL:=hh hpl;have HROW:=hh hrow;have HLEN:=hh hlen;have HUB2:=hh hub2;have HKB:=hh hkb;clear hpre hz hpost hzs hpl hzm hrow hlen hzz hub2 hkb;go_wp2_with fail;refine (e0c _ x b k (HROW.out.rd e0A) HUB2.out (by have:=HLEN.out;omega)).mono ?_;rintro e w1 ⟨a,_,rfl,ha,rfl⟩;obtain ⟨hab,hak⟩:=ha.there HUB2.out HKB.out;have HAB:=hh hab;have HAK:Hid (b[a]'HAB.out=k):=hh hak;have hab64:a < 64:=by have:=HLEN.out;omega
 have hwa:IntKind.i64.wrap ((a:Int)+1)=(a:Int)+1:=IntWalk.i64_in _ (by omega);clear ha hab hak;go_wp2_with fail;refine (m0V w x (b.map strV) (i0b b) (i0e.1 HROW.out) a (by rw [List.length_map];exact HAB.out) (by rw [List.length_map];have:=HLEN.out;omega)).mono ?_;rintro e w2 ⟨x',rfl,hlo,hk2,hm⟩;obtain ⟨b',hb'⟩:∃ b',b'=b.take a ++ b.drop (a+1):=⟨_,rfl⟩;have hlo2:LO w2 9 tE 1 x' b':=by
  rw [i0e,hb',List.map_append,List.map_take,List.map_drop];exact hlo
 have hbl:b'.length+1=b.length:=by
  rw [hb',List.length_append,List.length_take,List.length_drop];have:=HAB.out;omega
 have hbb:b=b.take a ++ k :: b.drop (a+1):=by rw [← HAK.out,List.getElem_cons_drop HAB.out,List.take_append_drop]
 have hxg:x.ownBlock≠some g:=HROW.out.apart H.out.head (by decide);have hxv:x.ownBlock≠some gv:=HROW.out.apart HG.out (by decide);have hg2:=hk2.at H.out.head hxg;have hv2:=hk2.at HG.out hxv;obtain ⟨ad',cap',hx',e1,e2⟩:=hlo2.shape;subst hx';have hrows2:RowsZ w2 (pre ++ (.slice ad' b'.length cap',b') :: post):=by
  have h5:=H.out.rows;rw [HZS.out] at h5
  exact h5.update hk2 hlo2 (.inl hm)
 have hf1:(zs.map (·.2)).flatten=((pre.map (·.2)).flatten ++ b.take a) ++ k :: (b.drop (a+1) ++ (post.map (·.2)).flatten):=by
  rw [HZS.out,List.map_append,List.flatten_append,List.map_cons,List.flatten_cons]
  show (pre.map (·.2)).flatten ++ (b ++ _)=_
  conv=>lhs;rw [hbb]
  simp
 have hgm:gv∈footB (.slice (some ⟨gv,0,none⟩) n cap) zs:=by simp [footB,Value.ownBlock]
 have hkp2:Keep (fun q=>q=g∨q∈footB (.slice (some ⟨gv,0,none⟩) n cap) zs) w w2:=hk2.mono fun q _ hq=>by
  right
  rw [HZS.out]
  exact List.mem_append_right _ (b0c (z:=(x,b)) (by simp) hq)
 have HB':=hh hb';have HBL:=hh hbl;have HM2:=hh hm;have HG2:=hh hg2;have HV2:=hh hv2;have HR2:=hh hrows2;have HF1:=hh hf1;have HKP2:=hh hkp2;have HGM:=hh hgm;have hgv:g≠gv:=fun e=>by have h1:=H.out.head;have h2:=HG.out;rw [e,h2] at h1;simp at h1
 obtain ⟨m,hmm⟩:=nm (b'.length);rw [← hmm] at HR2 HM2 ⊢;have HMM:=hh hmm;have hm64:m < 64:=by have:=HBL.out;have:=HLEN.out;omega
 have c2':w2.cell? ⟨g,2,none⟩=some (.slice (some ⟨gv,0,none⟩) n cap):=Lib.cell_of_heap HG2.out 2;have hmm0:(zs.map (·.1)).length=n:=by rw [List.length_map];exact HN.out.symm
 have HMM0:=hh hmm0;clear hlo hk2 hm hb' hlo2 hbl hbb hxg hxv hg2 hv2 hrows2 hf1 hgm hkp2 hmm c2 hci e1 e2 hmm0;have hsetb:∀ {w3:World},Keep (· = gv) w2 w3→w3.heap[g]? = some (.cells #[.bool true,.map (some bm),.slice (some ⟨gv,0,none⟩) n cap,vp] 67 (0,0)):=fun k=>k.at HG2.out hgv
 by_cases hm0:m=0
 ·have jm:((m:Int) == 0)=true:=by simp;omega
  have hb0:b' = []:=List.eq_nil_of_length_eq_zero (by rw [← HMM.out];exact hm0);have HB0:=hh hb0;have hwi:IntKind.i64.wrap ((i:Int)+1)=(i:Int)+1:=IntWalk.i64_in _ (by omega);have hone:∀ u∈(pre ++ (Value.slice ad' m cap',b') :: post).map (·.1),u.oneCell'=true:=f0x HR2.out;have hone0:∀ u∈zs.map (·.1),u.oneCell'=true:=f0x H.out.rows;have hblk2:LO w2 150 vE 1 (.slice (some ⟨gv,0,none⟩) n cap) (zs.map (·.1)):=LO.mk HMM0.out.symm HV2.out d1 (by unfold maxLen;exact d2) D3.out D4.out;have HO0:=hh hone0;have HBL2:=hh hblk2;clear hone hone0 hblk2 hm0 hb0;go_wp2_with fail;refine (l0j w2 _ (zs.map (·.1)) HO0.out HBL2.out i (by rw [HMM0.out];exact hin) (by rw [HMM0.out];exact hlz)).mono ?_;rintro e w3 ⟨v7,rfl,hlo6,k6,hm6⟩;have hfin:(zs.map (·.1)).take i ++ (zs.map (·.1)).drop (i+1)=(pre ++ post).map (·.1):=by
   have e3:zs.map (·.1)=pre.map (·.1) ++ x :: post.map (·.1):=by rw [HZS.out];simp
   have e4:(pre.map (·.1)).length=i:=by rw [List.length_map];exact HPL.out
   have e5:(pre.map (·.1) ++ [x]).length=i+1:=by rw [List.length_append,e4];rfl
   rw [e3,List.take_left' e4,show pre.map (·.1) ++ x :: post.map (·.1)=(pre.map (·.1) ++ [x]) ++ post.map (·.1) by simp,List.drop_left' e5]
   simp
  rw [hfin] at hlo6;have k6':Keep (· = gv) w2 w3:=k6.mono fun q _ e=>(Option.some.inj e).symm
  have hg3:=hsetb k6';obtain ⟨ad7,cap7,hv7,_,_⟩:=hlo6.shape;obtain ⟨n7,hn7⟩:=nm (((pre ++ post).map (·.1)).length);rw [← hn7] at hv7;subst hv7;have hrows3:RowsZ w3 (pre ++ post):=(HR2.out.keep k6' (fun q hq=>HR2.out.apart HV2.out (by decide) q hq)).remove;have HLO6:=hh hlo6;have K6:=hh k6';have HM6:=hh hm6;have HG3:=hh hg3;have HR3:=hh hrows3;clear hlo6 k6 k6' hm6 hfin hn7 hg3 hrows3
  go_wp2_with (refine a0o rfl 64 _ _ rfl g 2 _ rfl rfl rfl rfl 67 _ HG3.out (by kernel_rfl) (by simp) _ rfl ?_)
  intro w7 h7 k7 z7;have H7:=hh h7;have K7:=hh k7;clear h7 k7 z7;go_wp2_with fail
  go_end0
  refine ⟨rfl,.slice ad7 n7 cap7,pre ++ post,_,_,⟨H7.out,HLO6.out.keep K7.out (fun q e h=>HLO6.out.apart HG3.out (by decide) (by rw [e,h])),HR3.out.keep K7.out (fun q hq=>HR3.out.apart HG3.out (by decide) q hq),?_⟩,HF1.out,?_,?_,?_⟩
  ·intro z hz
   rcases List.mem_append.1 hz with hz | hz
   ·exact H.out.ne z (by rw [HZS.out];exact List.mem_append_left _ hz)
   ·exact H.out.ne z (by rw [HZS.out];exact List.mem_append_right _ (List.mem_cons_of_mem _ hz))
  ·have:=HB0.out;rw [HB'.out] at this;rw [List.map_append,List.flatten_append,List.append_assoc,← List.append_assoc (b.take a),this];rfl
  ·exact (HKP2.out.then K6.out fun q hq=>.inl (.inr (by rw [hq];exact HGM.out))).then K7.out fun q hq=>.inl (.inl hq)
  ·intro q hq
   left
   unfold footB at hq
   rcases List.mem_append.1 hq with hq | hq
   ·rw [HM6.out] at hq
    simp [Value.ownBlock] at hq
    rw [hq];exact HGM.out
   ·obtain ⟨y,hy,e⟩:=List.mem_filterMap.1 hq;rw [HZS.out]
    rcases List.mem_append.1 hy with hy | hy
    ·exact List.mem_append_right _ (b0c (List.mem_append_left _ hy) e)
    ·exact List.mem_append_right _ (b0c (List.mem_append_right _ (List.mem_cons_of_mem _ hy)) e)
 ·have jm:((m:Int) == 0)=false:=by simp;omega
  go_wp2_with (refine a0o rfl 150 _ _ rfl gv i _ rfl rfl rfl rfl 150 cur HV2.out (by kernel_rfl) (by have:=D3.out;omega) _ rfl ?_)
  intro w3 h4 k4 z4;have H4:=hh h4;have K4:=hh k4;clear h4 k4 z4;go_wp2_with fail
  go_end0
  refine ⟨rfl,.slice (some ⟨gv,0,none⟩) n cap,pre ++ (.slice ad' m cap',b') :: post,_,_,⟨hsetb K4.out,?_,HR2.out.keep K4.out (fun q hq=>HR2.out.apart HV2.out (by decide) q hq),?_⟩,HF1.out,?_,HKP2.out.then K4.out (fun q hq=>.inl (.inr (by rw [hq];exact HGM.out))),?_⟩
  ·have h6:=LO.set (us:=zs.map (·.1)) (i:=i) (.slice ad' m cap') HMM0.out.symm d1 (by unfold maxLen;exact d2) D3.out (by have:=D4.out;exact this) H4.out;rw [HZS.out,← HPL.out] at h6;rw [map_set (x,b) (.slice ad' m cap',b')] at h6
   exact h6
  ·intro z hz
   rcases List.mem_append.1 hz with hz | hz
   ·exact H.out.ne z (by rw [HZS.out];exact List.mem_append_left _ hz)
   ·rcases List.mem_cons.1 hz with rfl | hz
    ·refine ⟨fun e=>hm0 ?_,?_⟩
     ·rw [HMM.out,show b' = [] from e];rfl
     ·rw [← HMM.out];omega
    ·exact H.out.ne z (by rw [HZS.out];exact List.mem_append_right _ (List.mem_cons_of_mem _ hz))
  ·rw [List.map_append,List.flatten_append,List.map_cons,List.flatten_cons,HB'.out];simp
  ·rw [HZS.out];exact c0R (w:=w) (.inl HM2.out)
end Go.Proofs.YtabminbgoclnkaaGreat
