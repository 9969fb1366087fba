/- enter and leave of a store: no condition. lay, Set, Delete, Undo, Settle of a store: no condition. Set, Delete, Settle and Undo of a store: no condition. -/
import Derived.Test.YtakkfabaeolbdaaGreatCn21
import Derived.Test.YtakkfabaeolbdaaGreatCnReg
namespace Go.Proofs.YtakkfabaeolbdaaGreat
section
set_option maxHeartbeats 8000000
set_option maxRecDepth 100000
open Go.RowKit

def strV (k:Txt):Value:=.string (bs k)
theorem r0W (b:List Txt):b.flatMap tE=b.map strV:=by
 induction b with
 | nil=>rfl
 | cons x b ih=>rw [List.flatMap_cons,ih];rfl
theorem l0n {w:World} {e:TypeId} {v:Value} {b:List Txt}:LO w e tE 1 v b↔LO w e vE 1 v (b.map strV):=by
 unfold LO
 rw [r0W,a0W,List.length_map]
 constructor
 ·rintro (⟨h1,h2⟩ | h)
  ·exact .inl ⟨h1,by rw [h2];rfl⟩
  ·exact .inr h
 ·rintro (⟨h1,h2⟩ | h)
  ·exact .inl ⟨h1,List.map_eq_nil_iff.1 h2⟩
  ·exact .inr h
theorem l0p (b:List Txt):∀ u∈b.map strV,u.oneCell'=true:=fun u hu=>by
 obtain ⟨k,_,rfl⟩:=List.mem_map.1 hu;rfl
theorem LO.one {w:World} {v:Value} {b:List Txt} (h:LO w 9 tE 1 v b):v.oneCell'=true:=by
 rcases h with ⟨rfl,_⟩ | ⟨g,cap,cur,rfl,_⟩<;>rfl
theorem h0R {w:World} {zs:List (Value × List Txt)} (h:RowsZ w zs):∀ u∈zs.map (·.1),u.oneCell'=true:=fun u hu=>by
 obtain ⟨z,hz,rfl⟩:=List.mem_map.1 hu;exact (h.rows z hz).one
theorem h0U {w:World} {g:Nat} {x o:Obj} (h:w.heap[g]? = some x):(w.alloc o).heap[g]? = some x:=by
 exact (Below.heap_alloc _ _ _ (a0b h)).trans h

def EnterRet (w:World) (g bm:Nat) (vb vp:Value) (zs:List (Value × List Txt)) (k:Txt) (e:Ending) (w':World):Prop:=
 e = .returned (.tuple #[])∧∃ vb' zs' xs ys,Bk w' g bm vb' vp zs'∧(zs.map (·.2)).flatten=xs ++ ys∧(zs'.map (·.2)).flatten=xs ++ k :: ys∧(∀ x∈xs,less x k=true)∧(∀ y∈ys,less k y=true) ∧
  Keep (fun x=>x=g∨x∈footB vb zs) w w'∧∀ x∈footB vb' zs',x∈footB vb zs∨w.heap.size≤x

theorem k0F {w:World} {g bm:Nat} {vb vp:Value} (h:Bk w g bm vb vp []) (k:Txt):Calls Tryz.prog 207 #[.pointer (some ⟨g,0,none⟩),.string (bs k)] w (EnterRet w g bm vb vp [] k):=by
 obtain ⟨ad,cap,hvb,h1,h2⟩:=h.blocks.shape;simp only [List.map_nil,List.length_nil] at hvb;subst hvb;have c2:w.cell? ⟨g,2,none⟩=some (.slice ad 0 cap):=Lib.cell_of_heap h.head 2;have HH:=hh h.head;clear h h1
 go_enter Tryz.func207,Tryz.ntmps207
 go_wp2_with (refine a0h rfl 38 _ _ rfl g 2 _ rfl rfl rfl rfl 41 #[.bool true,.map (some bm),.slice ad 0 cap,vp] (h0U (h0U HH.out)) (by kernel_rfl) (by simp) _ rfl ?_)
 intro w' h4 k4 z4;have hb:Below w.heap.size w ((w.alloc (.cells #[.string (bs k)] 9)).alloc (.cells #[.slice (some ⟨w.heap.size,0,none⟩) 1 1] 229)):=((Below.refl _ _).alloc (Nat.le_refl _) _).alloc (by simp) _;have hg:=a0b HH.out;have hrow:w'.heap[w.heap.size]? = some (.cells #[.string (bs k)] 9 (0,0)):=by
  rw [k4.block _ (by simp;omega) (by omega)]
  exact h0U (heap_alloc_new _ _)
 have hblk:w'.heap[w.heap.size+1]? = some (.cells #[.slice (some ⟨w.heap.size,0,none⟩) 1 1] 229 (0,0)):=by
  rw [k4.block _ (by simp) (by omega)];have:=heap_alloc_new (w.alloc (.cells #[.string (bs k)] 9)) (.cells #[.slice (some ⟨w.heap.size,0,none⟩) 1 1] 229);rw [World.size_alloc] at this
  exact this
 have hk:Keep (fun x=>x=g∨x∈footB (.slice ad 0 cap) []) w w':=(Keep.of_below hb).then k4 (fun x hx=>.inl (.inl hx));have H4:=hh h4;have HR:=hh hrow;have HB:=hh hblk;have HK:=hh hk;clear h4 k4 z4 hrow hblk hk hb;go_wp2_with fail
 go_end0
 refine ⟨rfl,.slice (some ⟨w.heap.size+1,0,none⟩) 1 1,[(.slice (some ⟨w.heap.size,0,none⟩) 1 1,[k])],[],[],⟨H4.out,LO.mk rfl HB.out (Nat.le_refl _) (by unfold maxLen;omega) (by simp) rfl,⟨fun z hz=>?_,by simp [Value.ownBlock]⟩,fun z hz=>?_⟩,rfl,rfl,fun x hx=>absurd hx (by simp),fun x hx=>absurd hx (by simp),HK.out,fun x hx=>?_⟩
 ·rw [List.mem_singleton.1 hz]
  exact LO.mk rfl HR.out (Nat.le_refl _) (by unfold maxLen;omega) (by simp) rfl
 ·rw [List.mem_singleton.1 hz];exact ⟨by simp,by simp⟩
 ·simp [footB,Value.ownBlock] at hx
  omega

theorem LO.apart {α:Type} {w:World} {e e':TypeId} {enc:α→List Value} {sz:Nat} {v:Value} {l:List α} (h:LO w e enc sz v l) {g:Nat} {cs:Array Value} (hg:w.heap[g]? = some (.cells cs e' (0,0))) (hne:e≠e'):v.ownBlock≠some g:=by
 intro hv;obtain ⟨cs',hc⟩:=h.kind hv;rw [hg] at hc;simp only [Option.some.injEq,Obj.cells.injEq] at hc
 exact hne hc.2.1.symm
theorem a0q {P:Program} {o:Oper} {a:Act} {w:World} {K:Act→World→Prop} {Q:Exit→Act→World→Prop} (ty:TypeId) (x y:Operand) (ho:o.op = .store ty x y)
  (g i:Nat) (v:Value) (hx:a.eval x = .pointer (some ⟨g,i,none⟩)) (hy:a.eval y=v) (hv:v.cells=#[v]) (h1:v.oneCell'=true)
  (t:TypeId) (cs:Array Value) (hg:w.heap[g]? = some (.cells cs t (0,0))) (hi:(P.info? ty).map (·.size)=some 1) (hb:i < cs.size) (new:Array Value) (hnew:cs.setIfInBounds i v=new)
  (h:∀ w',w'.heap[g]? = some (.cells new t (0,0))→Keep (· = g) w w'→w'.heap.size=w.heap.size→K (a.put o.dst undef) w'):o.wp P a w K Q:=by
 have hc:(w.cell? ⟨g,i,none⟩).isSome=true:=by rw [Lib.cell_of_heap hg,Array.getElem?_eq_getElem hb];rfl
 have hf:w.frozen? ⟨g,i,none⟩=false:=Lib.frozen_of_heap hg i;have z0:∀ j,j < [v].length→j=0:=fun j hj=>by simpa using hj
 have hst:=run_storeCells_cells (P:=P) g i [v] 0 w (fun j hj=>by rw [z0 j hj];exact hc) (fun j hj=>by rw [z0 j hj];exact hf) (fun u hu=>(by simpa using hu:u=v)▸h1);have hsv:(storeVar ty ⟨g,i,none⟩ v).run P w = .ok () (w.setCell ⟨g,i,none⟩ v):=by
  cases hq:P.info? ty with
  | none=>simp [hq] at hi
  | some inf=>
   have hs:inf.size=1:=by simpa [hq] using hi
   simp only [Nat.add_zero] at hst
   simp [storeVar,sizeOf,typeInfo,hq,hv,hs,hst,World.setCells]
 unfold Oper.wp execOp
 simp only [ho,hx,hy,Instr.storeAt,Instr.sureAddr,Sem.run_bind,Sem.run_pure,Result.andThen_ok,hsv]
 exact h _ (by rw [heap_setCell_same _ _ _ _ _ _ hg,hnew]) (Keep.setCell (S:=(· = g)) (p:=⟨g,i,none⟩) (Keep.refl _ _) (.inl rfl) _) (by simp [World.setCell])
theorem LO.set {w':World} {e:TypeId} {g n cap:Nat} {us:List Value} {cur:Array Value} {i:Nat} (x:Value) (hn:n=us.length) (h1:n≤cap) (h2:cap≤maxLen) (h3:cap*1≤cur.size) (h4:cur.toList.take (n*1)=us.flatMap vE) (hw:w'.heap[g]? = some (.cells (cur.setIfInBounds i x) e (0,0))):LO w' e vE 1 (.slice (some ⟨g,0,none⟩) n cap) (us.set i x):=by
 refine LO.mk (by rw [List.length_set];exact hn) hw h1 h2 (by rw [Array.size_setIfInBounds];exact h3) ?_;rw [a0W,Nat.mul_one] at *;rw [Array.toList_setIfInBounds,List.take_set,h4]
theorem LO.rdFrom {α:Type} {w:World} {e:TypeId} {enc:α→List Value} {g n cap:Nat} {l:List α} (h:LO w e enc 1 (.slice (some ⟨g,0,none⟩) n cap) l) (he:∀ x,(enc x).length=1) (j:Nat):Rd w enc 1 (.slice (some ⟨g,j,none⟩) (n - j) (cap - j)) (l.drop j):=by
 have hr:=h.rd he;obtain ⟨ad,c,e1,h1,h2,h3⟩:=hr
 cases e1
 refine ⟨_,_,by rw [List.length_drop],by rw [List.length_drop];omega,by omega,fun hl=>?_⟩;have hl2:l≠[]:=by rintro rfl;simp at hl
 obtain ⟨b,off,e2,h4,h5⟩:=h3 hl2
 cases e2
 refine ⟨g,j,rfl,h4,fun i hi q hq=>?_⟩;rw [List.length_drop] at hi;have:=h5 (j+i) (by omega) q hq;rw [List.getElem_drop];rw [← this]
 congr 2
 omega
theorem k0j {zs pre post:List (Value × List Txt)} {x:Value} {b:List Txt} {k:Txt} {a:Nat} (hzs:zs=pre ++ (x,b) :: post) (hu:UpK (zs.map (·.2)).flatten) (hn:∀ z∈zs,z.2≠[]) (hf:Find (zs.map (·.2)) k pre.length) (ha:At b k a) (hk:k ∉ (zs.map (·.2)).flatten) :
  (zs.map (·.2)).flatten=((pre.map (·.2)).flatten ++ b.take a) ++ (b.drop a ++ (post.map (·.2)).flatten)∧(∀ q∈(pre.map (·.2)).flatten ++ b.take a,less q k=true)∧∀ q∈b.drop a ++ (post.map (·.2)).flatten,less k q=true:=by
 have hnn:∀ c∈zs.map (·.2),c≠[]:=fun c hc=>by obtain ⟨z,hz,rfl⟩:=List.mem_map.1 hc;exact hn z hz
 have e1:(zs.map (·.2)).take pre.length=pre.map (·.2):=by
  rw [hzs,List.map_append];exact List.take_left' (List.length_map _)
 have e2:(zs.map (·.2)).drop (pre.length+1)=post.map (·.2):=by
  rw [hzs,List.map_append,List.map_cons,show pre.map (·.2) ++ (x,b).2 :: post.map (·.2)=(pre.map (·.2) ++ [b]) ++ post.map (·.2) by simp]
  exact List.drop_left' (by simp)
 have e3:(zs.map (·.2)).flatten=(pre.map (·.2)).flatten ++ (b ++ (post.map (·.2)).flatten):=by
  rw [hzs,List.map_append,List.flatten_append,List.map_cons,List.flatten_cons]
 have hb:=hf.before hu hnn;have hhq:=hf.behind hu hnn;rw [e1] at hb;rw [e2] at hhq;have hkb:k ∉ b:=fun hm=>hk (by rw [e3];simp [hm])
 refine ⟨?_,fun q hq=>?_,fun q hq=>?_⟩
 ·rw [e3,List.append_assoc,← List.append_assoc (b.take a),List.take_append_drop]
 ·rcases List.mem_append.1 hq with hq | hq
  ·exact hb q hq
  ·exact ha.take q hq
 ·rcases List.mem_append.1 hq with hq | hq
  ·exact ha.drop hkb q hq
  ·exact hhq q hq

theorem d0z {w:World} {vb:Value} {pre post:List (Value × List Txt)} {z z':Value × List Txt} (hm:MovedO w z.1 z'.1):∀ q∈footB vb (pre ++ z' :: post),q∈footB vb (pre ++ z :: post)∨w.heap.size≤q:=by
 intro q hq
 unfold footB at hq ⊢
 rcases List.mem_append.1 hq with hq | hq
 ·exact .inl (List.mem_append_left _ hq)
 ·obtain ⟨y,hy,e⟩:=List.mem_filterMap.1 hq
  rcases List.mem_append.1 hy with hy | hy
  ·exact .inl (List.mem_append_right _ (b0k (List.mem_append_left _ hy) e))
  ·rcases List.mem_cons.1 hy with rfl | hy
   ·rcases hm with h | ⟨g,h,h'⟩
    ·exact .inl (List.mem_append_right _ (b0k (z:=z) (by simp) (by rw [← h];exact e)))
    ·rw [e] at h;cases h;exact .inr h'
   ·exact .inl (List.mem_append_right _ (b0k (List.mem_append_right _ (List.mem_cons_of_mem _ hy)) e))
theorem map_set {pre post:List (Value × List Txt)} (z z':Value × List Txt):((pre ++ z :: post).map (·.1)).set pre.length z'.1=(pre ++ z' :: post).map (·.1):=by
 rw [List.map_append,List.map_append,List.map_cons,List.map_cons,List.set_append_right _ _ (by rw [List.length_map];exact Nat.le_refl _),List.length_map,Nat.sub_self];rfl
theorem RowsZ.apart {w:World} {zs:List (Value × List Txt)} (h:RowsZ w zs) {g:Nat} {cs:Array Value} {e':TypeId} (hg:w.heap[g]? = some (.cells cs e' (0,0))) (hne:9≠e'):∀ q∈zs.filterMap (·.1.ownBlock),q≠g:=by
 rintro q hq rfl;obtain ⟨y,hy,e⟩:=List.mem_filterMap.1 hq
 exact (h.rows y hy).apart hg hne e

def clone_ok (n:Nat):Prop:=n < 1099511627776
theorem l0K {zs:List (Value × List Txt)} {i:Nat} (h:i < zs.length):zs=zs.take i ++ zs[i] :: zs.drop (i+1):=by rw [List.getElem_cons_drop h,List.take_append_drop]

theorem l0Y {w:World} {g bm:Nat} {vb vp:Value} {zs:List (Value × List Txt)} (h:Bk w g bm vb vp zs) (hub:UpK (zs.map (·.2)).flatten) (hlz:zs.length < 1099511627776) (hne:zs≠[]) (k:Txt) (hk:k ∉ (zs.map (·.2)).flatten) :
  Calls Tryz.prog 207 #[.pointer (some ⟨g,0,none⟩),.string (bs k)] w (EnterRet w g bm vb vp zs k):=by
 obtain ⟨gv,cap,cur,hvb,hgv,d1,d2,d3,d4⟩:=h.blocks.opened (by intro e;exact hne (List.map_eq_nil_iff.1 e));rw [List.length_map] at hvb d1 d4;obtain ⟨n,hn⟩:=nm (zs.length);rw [← hn] at hvb d1 d4 hlz;subst hvb;have hn0:0 < n:=by rw [hn];exact List.length_pos_iff.2 hne
 have c2:w.cell? ⟨g,2,none⟩=some (.slice (some ⟨gv,0,none⟩) n cap):=Lib.cell_of_heap h.head 2;have H:=hh h;have HU:=hh hub;have HN:=hh hn;have HE:=hh hne;have HK:=hh hk;have HG:=hh hgv;have D3:=hh d3;have D4:=hh d4;clear h hub hn hne hk hgv d3 d4
 unfold maxLen at d2
 go_enter Tryz.func207,Tryz.ntmps207
 go_wp2_with fail;refine (f0v H.out HU.out (by have:=HN.out;omega) HE.out k).mono ?_;rintro e w1 ⟨i,rfl,hf,rfl⟩;have hin:i < n:=by have:=hf.lt;rw [List.length_map] at this;rw [HN.out];exact this
 have hil:i < zs.length:=by rw [← HN.out];exact hin
 have HF:=hh hf;have HIL:=hh hil;clear hf hil;obtain ⟨pre,hpre⟩:=nm (zs.take i);obtain ⟨z,hz⟩:=nm (zs[i]'HIL.out);obtain ⟨post,hpost⟩:=nm (zs.drop (i+1));have hzs:zs=pre ++ z :: post:=by rw [hpre,hz,hpost];exact l0K HIL.out
 have hpl:pre.length=i:=by rw [hpre,List.length_take];have:=HIL.out;omega
 have hci:w.cell? ⟨gv,i,none⟩=some z.1:=by
  rw [Lib.cell_of_heap HG.out];have h5:=D4.out;rw [a0W,Nat.mul_one] at h5;have h6:(zs.map (·.1))[i]? = some z.1:=by rw [List.getElem?_map,List.getElem?_eq_getElem HIL.out,hz];rfl
  rw [← h5,List.getElem?_take,if_pos hin] at h6
  simpa using h6
 have hzm:z∈zs:=by rw [hzs];simp
 have hrow:=H.out.rows.rows z hzm;have hlen:=(H.out.ne z hzm);have hzz:(zs.map (·.2))[i]'HF.out.lt=z.2:=by rw [List.getElem_map,hz]
 obtain ⟨x,b⟩:=z;simp only at hci hrow hlen hzz;have HZS:=hh hzs;have HPL:=hh hpl;have HROW:=hh hrow;have HLEN:=hh hlen;have HZZ:=hh hzz;have HPRE:=hh hpre;have HPOST:=hh hpost;clear hpre hz hpost hzs hpl hzm hrow hlen hzz;go_wp2_with fail;have hub2:UpK b:=by
  have:=g0a HU.out (List.getElem_mem HF.out.lt);rw [HZZ.out] at this;exact this
 refine (f0N _ x b k (HROW.out.rd g0E) hub2 (by have:=HLEN.out;omega)).mono ?_;rintro e w1 ⟨a,_,rfl,ha,rfl⟩;have HA:=hh ha;have HB2:=hh hub2;clear ha hub2;go_wp2_with fail;obtain ⟨wA,hwA⟩:=nm (w.alloc (.cells #[.string (bs k)] 9));obtain ⟨X,hX⟩:=nm (w.heap.size);have hbA:Below w.heap.size w wA:=by rw [hwA];exact (Below.refl _ _).alloc (Nat.le_refl _) _
 have hxA:wA.heap[X]? = some (.cells #[strV k] 9 (0,0)):=by rw [hwA,hX];exact heap_alloc_new _ _
 have hxo:x.ownBlock≠some X:=fun e=>by have:=HROW.out.lt X e;omega
 rw [← hwA,← hX];refine (s0L wA x (b.map strV) (l0p b) (l0n.1 (HROW.out.later hbA)) a (by rw [List.length_map];exact HA.out.le) (strV k) rfl X _ hxA hxo (by rw [List.length_map];have:=HLEN.out;omega)).mono ?_;rintro e w2 ⟨x',rfl,hlo,hkp,hmv⟩;obtain ⟨b',hb'⟩:∃ b',b'=b.take a ++ k :: b.drop a:=⟨_,rfl⟩;have hlo2:LO w2 9 tE 1 x' b':=by
  rw [l0n,hb',List.map_append,List.map_cons,List.map_take,List.map_drop];exact hlo
 have hbl:b'.length=b.length+1:=by
  rw [hb',List.length_append,List.length_cons,List.length_take,List.length_drop];have:=HA.out.le;omega
 have hk2:Keep (fun q=>x.ownBlock=some q) w w2:=(Keep.of_below hbA).then hkp (fun q h=>.inl h);have hm2:MovedO w x x':=by
  rcases hmv with h | ⟨q,h,h'⟩
  ·exact .inl h
  ·exact .inr ⟨q,h,Nat.le_trans hbA.size h'⟩
 have hord:=k0j HZS.out HU.out (fun z hz=>(H.out.ne z hz).1) (by rw [HPL.out];exact HF.out) HA.out HK.out;have hxg:x.ownBlock≠some g:=HROW.out.apart H.out.head (by decide);have hxv:x.ownBlock≠some gv:=HROW.out.apart HG.out (by decide);have hg2:=hk2.at H.out.head hxg;have hv2:=hk2.at HG.out hxv;obtain ⟨ad',cap',hx',e1,e2⟩:=hlo2.shape;subst hx';have HLO:=hh hlo2;have HB':=hh hb';have HBL:=hh hbl;have HK2:=hh hk2;have HM2:=hh hm2;have HORD:=hh hord;have HG2:=hh hg2;have HV2:=hh hv2;have hgv:g≠gv:=fun e=>by have h1:=H.out.head;have h2:=HG.out;rw [e,h2] at h1;simp at h1
 clear hwA hX hbA hxA hxo hlo hkp hmv hb' hlo2 hbl hk2 hm2 hord hxg hxv hg2 hv2
 by_cases h64:b.length < 64
 ·have hble:b'.length≤64:=by rw [HBL.out];omega
  obtain ⟨m,hm⟩:=nm (b'.length);rw [← hm] at hble HLO e1 HM2 ⊢;have HM:=hh hm;clear hm h64;have c2':w2.cell? ⟨g,2,none⟩=some (.slice (some ⟨gv,0,none⟩) n cap):=Lib.cell_of_heap HG2.out 2;have hlq:(m:Int)≤64:=by omega
  go_wp2_with (refine a0h rfl 229 _ _ rfl gv i _ rfl rfl rfl rfl 229 cur HV2.out (by kernel_rfl) (by have:=D3.out;omega) _ rfl ?_)
  intro w3 h4 k4 z4;have H4:=hh h4;have K4:=hh k4;clear h4 k4 z4;go_wp2_with fail
  go_end0
  have hrows2:RowsZ w2 (pre ++ (.slice ad' m cap',b') :: post):=by
   have h5:=H.out.rows;rw [HZS.out] at h5
   exact h5.update HK2.out HLO.out HM2.out
  have hgm:gv∈footB (.slice (some ⟨gv,0,none⟩) n cap) zs:=by simp [footB,Value.ownBlock]
  refine ⟨rfl,.slice (some ⟨gv,0,none⟩) n cap,pre ++ (.slice ad' m cap',b') :: post,_,_,⟨K4.out.at HG2.out hgv,?_,hrows2.keep K4.out (fun q hq=>hrows2.apart HV2.out (by decide) q hq),?_⟩,HORD.out.1,?_,HORD.out.2.1,HORD.out.2.2,?_,?_⟩
  ·have h6:=LO.set (us:=zs.map (·.1)) (i:=i) (.slice ad' m cap') (by rw [List.length_map];exact HN.out) d1 (by unfold maxLen;exact d2) D3.out (by have:=D4.out;exact this) H4.out;rw [HZS.out,← HPL.out] at h6;rw [map_set (x,b) (.slice ad' m cap',b')] at h6
   exact h6
  ·intro z hz
   rcases List.mem_append.1 hz with hz | hz
   ·exact H.out.ne z (by rw [HZS.out];exact List.mem_append_left _ hz)
   ·rcases List.mem_cons.1 hz with rfl | hz
    ·exact ⟨by rw [HB'.out];simp,by rw [← HM.out];exact hble⟩
    ·exact H.out.ne z (by rw [HZS.out];exact List.mem_append_right _ (List.mem_cons_of_mem _ hz))
  ·rw [List.map_append,List.flatten_append,List.map_cons,List.flatten_cons,HB'.out];simp
  ·refine (HK2.out.mono fun q _ hq=>?_).then K4.out fun q hq=>.inl (.inr (by rw [hq];exact hgm))
   right
   rw [HZS.out]
   exact List.mem_append_right _ (b0k (z:=(x,b)) (by simp) hq)
  ·rw [HZS.out];exact d0z HM2.out
 ·have hb64:b.length=64:=by have:=HLEN.out;omega
  have hb65:b'.length=65:=by rw [HBL.out,hb64]
  rw [hb65] at HLO e1 HM2 ⊢;have H65:=hh hb65;obtain ⟨D,hD⟩:∃ D,ad'=some ⟨D,0,none⟩:=by
   rcases HLO.out with ⟨h,_⟩ | ⟨q,c,cu,h,_⟩
   ·cases h
   ·exact ⟨q,(Value.slice.inj h).1⟩
  subst hD;clear hb64 hb65 h64;have c2':w2.cell? ⟨g,2,none⟩=some (.slice (some ⟨gv,0,none⟩) n cap):=Lib.cell_of_heap HG2.out 2;go_wp2_with fail;have C2:Hid (∀ w':World,w'.heap[g]? = some (.cells #[.bool true,.map (some bm),.slice (some ⟨gv,0,none⟩) n cap,vp] 41 (0,0))→w'.cell? ⟨g,2,none⟩=some (.slice (some ⟨gv,0,none⟩) n cap)):=hh fun w' h=>Lib.cell_of_heap h 2
  have hS:=HG2.out;have hcap:65≤cap':=e1;have h32:(32:Int)≤(cap':Int):=by omega
  have h65:(65:Int)≤(cap':Int):=by omega
  clear c2 c2' hci;refine a0f (fun w'=>w'.heap[g]? = some (.cells #[.bool true,.map (some bm),.slice (some ⟨gv,0,none⟩) n cap,vp] 41 (0,0))) 10 11 (by kernel_rfl) rfl ?_;refine tA1 0 55 hS ?_;go_frame;refine tA1 1 56 hS ?_;go_frame;refine tA1 2 57 hS ?_;go_frame;refine tk 3 (some 58) rfl rfl (.inl ⟨by rfl,fun w' hS'=>(by have hc:=C2.out w' hS';go_simp;rfl)⟩) hS ?_;go_frame;refine tA1 4 59 hS ?_;go_frame;refine tA1 5 60 hS ?_;go_frame;refine tA1 6 61 hS ?_;go_frame;refine tA1 7 62 hS ?_;go_frame;refine tA1 8 63 hS ?_;go_frame;refine tA1 9 64 hS ?_;go_frame;refine t1 10 fun K hK=>?_
  simp only [gA,jB,gC];refine a0q 229 _ _ rfl gv i _ rfl rfl rfl rfl 229 cur HV2.out (by kernel_rfl) (by have:=D3.out;omega) _ rfl ?_;intro w3 h4 k4 z4;refine hK _ _ (fun h=>absurd rfl h) ?_;clear hK hS;refine tD ?_;have k23:Keep (· = gv) w2 w3:=(Keep.refl _ _).drew.trans (k4.mono fun q _ h=>.inl h);have hg3:=k23.at HG2.out hgv;have hrows2:RowsZ w2 (pre ++ (.slice (some ⟨D,0,none⟩) 65 cap',b') :: post):=by
   have h5:=H.out.rows;rw [HZS.out] at h5
   exact h5.update HK2.out HLO.out HM2.out
  have hcut:LO w2 9 tE 1 (.slice (some ⟨D,0,none⟩) 32 32) (b'.take 32):=HLO.out.cut g0E 32 32 (by omega) (by omega) (by omega);have hrows2c:RowsZ w2 (pre ++ (.slice (some ⟨D,0,none⟩) 32 32,b'.take 32) :: post):=hrows2.update (Keep.refl _ _) hcut (.inl rfl);have hrows3:=hrows2c.keep k23 (fun q hq=>hrows2c.apart HV2.out (by decide) q hq);have hlo3:=HLO.out.keep k23 (fun q e=>by have:=HLO.out.apart HV2.out (by decide);intro h;exact this (by rw [e,h]));have hblk3:LO w3 229 vE 1 (.slice (some ⟨gv,0,none⟩) n cap) ((pre ++ (.slice (some ⟨D,0,none⟩) 32 32,b'.take 32) :: post).map (·.1)):=by
   have h6:=LO.set (us:=zs.map (·.1)) (i:=i) (.slice (some ⟨D,0,none⟩) 32 32) (by rw [List.length_map];exact HN.out) d1 (by unfold maxLen;exact d2) D3.out (by have:=D4.out;exact this) h4;rw [HZS.out,← HPL.out] at h6;rw [map_set (x,b) (.slice (some ⟨D,0,none⟩) 32 32,b'.take 32)] at h6
   exact h6
  have HG3:=hh hg3;have HR3:=hh hrows3;have HLO3:=hh hlo3;have HBLK3:=hh hblk3;have K23:=hh k23;clear k23 hg3 hrows2 hcut hrows2c hrows3 hlo3 hblk3 h4 k4 z4;have hS:=HG3.out;have hb3:Below w3.heap.size w3 w3.drew:=(Below.refl _ _).drew;have hwi:IntKind.i64.wrap ((i:Int)+1)=(i:Int)+1:=IntWalk.i64_in _ (by omega);have hc32:¬ cap'=32:=by omega
  go_wp2_with fail;refine a0f (fun w'=>w'.heap[g]? = some (.cells #[.bool true,.map (some bm),.slice (some ⟨gv,0,none⟩) n cap,vp] 41 (0,0))) 15 16 (by kernel_rfl) rfl ?_;refine tA1 0 65 hS ?_;go_frame;refine tA1 1 66 hS ?_;go_frame;refine tA1 2 67 hS ?_;go_frame;refine tA1 3 68 hS ?_;go_frame;refine tk 4 (some 69) rfl rfl (.inl ⟨by rfl,fun w' hS'=>(by have hc:=C2.out w' hS';go_simp;rfl)⟩) hS ?_;go_frame;refine tA1 5 70 hS ?_;go_frame;refine tA1 6 71 hS ?_;go_frame;refine tA1 7 72 hS ?_;go_frame;refine tA1 8 73 hS ?_;go_frame;refine tA1 9 74 hS ?_;go_frame;refine t1 10 fun K hK=>?_
  simp only [gA,jB,gC];go_simp;have hrd:=(HLO3.out.rdFrom g0E 32).later hb3;have hcn:clone_ok (b'.drop 32).length:=by unfold clone_ok;rw [List.length_drop];have:=H65.out;omega
  refine (l0Z w3.drew (.slice (some ⟨D,32,none⟩) 33 (cap' - 32)) (b'.drop 32) hrd hcn).mono ?_;rintro e w4 ⟨x4,rfl,hlo4,hb4,ho4⟩;obtain ⟨ad4,cap4,hx4,_,_⟩:=hlo4.shape;obtain ⟨n4,hn4⟩:=nm ((b'.drop 32).length);rw [← hn4] at hx4;clear hn4;obtain ⟨x4',hx4'⟩:∃ x4':Value,x4' = .slice ad4 n4 cap4:=⟨_,rfl⟩;rw [← hx4'] at hx4;subst hx4;have hs4:w3.drew.heap.size=w3.heap.size:=rfl;rw [hs4] at hb4 ho4;have hb34:Below w3.heap.size w3 w4:=hb3.trans hb4;have hS4:=(hb4.block g (a0b HG3.out)).trans hS;refine hK _ _ (fun _ _=>hS4) ?_;have hrows4:=HR3.out.keep (Keep.of_below (S:=fun _=>False) hb34) fun _ _=>id
  have hblk4:=HBLK3.out.later hb34;have hrows4x:RowsZ w4 (pre ++ (.slice (some ⟨D,0,none⟩) 32 32,b'.take 32) :: (x4,b'.drop 32) :: post):=by
   have h7:pre ++ (.slice (some ⟨D,0,none⟩) 32 32,b'.take 32) :: (x4,b'.drop 32) :: post=(pre ++ [(Value.slice (some ⟨D,0,none⟩) 32 32,b'.take 32)]) ++ (x4,b'.drop 32) :: post:=by simp
   rw [h7];refine RowsZ.insert (by simpa using hrows4) hlo4 fun q e hq=>?_
   have h8:=ho4 q e;obtain ⟨y,hy,e2⟩:=List.mem_filterMap.1 hq;have:=(HR3.out.rows y (by simpa using hy)).lt q e2
   omega
  have HX4:=hh hx4';have hxc:x4.cells=#[x4]:=by rw [hx4'];rfl
  have HXC:=hh hxc;subst hx4';have HLO4:=hh hlo4;have HB34:=hh hb34;have HO4:=hh ho4;have HR4:=hh hrows4x;have HBLK4:=hh hblk4;clear hK hS hrd hcn hlo4 hb4 ho4 hs4 hb34 hrows4 hblk4 hrows4x;have hS:=hS4;clear hS4;refine t1 11 fun K hK=>?_
  simp only [gA,jB,gC];go_simp;obtain ⟨w5,hw5⟩:=nm (w4.alloc (.cells #[.slice ad4 n4 cap4] 229));obtain ⟨Y,hY⟩:=nm (w4.heap.size);rw [← hw5,← hY];have hb45:Below w4.heap.size w4 w5:=by rw [hw5];exact (Below.refl _ _).alloc (Nat.le_refl _) _
  have hy5:w5.heap[Y]? = some (.cells #[.slice ad4 n4 cap4] 229 (0,0)):=by rw [hw5,hY];exact heap_alloc_new _ _
  have hS5:=(hb45.block g (a0b hS)).trans hS;have hyg:gv < Y:=by rw [hY];exact Nat.lt_of_lt_of_le (HBLK3.out.lt gv rfl) HB34.out.size
  refine hK _ _ (fun _ _=>hS5) ?_;have HB45:=hh hb45;have HY5:=hh hy5;clear hK hS hw5 hY hb45 hy5;have hS:=hS5;clear hS5;refine t1 12 fun K hK=>?_
  simp only [gA,jB,gC];go_simp;rw [show ((i:Int)+1)=((i+1:Nat):Int) by omega];obtain ⟨us,hus⟩:=nm ((pre ++ (Value.slice (some ⟨D,0,none⟩) 32 32,b'.take 32) :: post).map (·.1));have hul:us.length=n:=by
   have h8:=HN.out;have h9:=congrArg List.length HZS.out;rw [hus,List.length_map];rw [List.length_append,List.length_cons] at h9 ⊢
   omega
  have hown5:LO w5 229 vE 1 (.slice (some ⟨gv,0,none⟩) n cap) us:=by rw [hus];exact HBLK4.out.later HB45.out
  have hone5:∀ u∈us,u.oneCell'=true:=by rw [hus];exact h0R HR3.out
  have HUS:=hh hus;refine (p0a w5 _ us hone5 hown5 (i+1) (by rw [hul];omega) (.slice ad4 n4 cap4) rfl Y _ HY5.out (by intro e;have h3:gv=Y:=Option.some.inj e;omega) (by rw [hul];exact hlz)).mono ?_;rintro e w6 ⟨v7,rfl,hlo6,k6,hm6⟩;have hfin:us.take (i+1) ++ .slice ad4 n4 cap4 :: us.drop (i+1)=(pre ++ (Value.slice (some ⟨D,0,none⟩) 32 32,b'.take 32) :: (.slice ad4 n4 cap4,b'.drop 32) :: post).map (·.1):=by
   have e3:us=(pre.map (·.1) ++ [Value.slice (some ⟨D,0,none⟩) 32 32]) ++ post.map (·.1):=by rw [HUS.out];simp
   have e4:(pre.map (·.1) ++ [Value.slice (some ⟨D,0,none⟩) 32 32]).length=i+1:=by rw [List.length_append,List.length_map,HPL.out];rfl
   rw [e3,List.take_left' e4,List.drop_left' e4]
   simp
  rw [hfin] at hlo6;have hS6:w6.heap[g]? = some (.cells #[.bool true,.map (some bm),.slice (some ⟨gv,0,none⟩) n cap,vp] 41 (0,0)):=k6.at hS (fun e=>hgv (Option.some.inj e).symm);refine hK _ _ (fun _ _=>hS6) ?_;obtain ⟨ad7,cap7,hv7,_,_⟩:=hlo6.shape;obtain ⟨n7,hn7⟩:=nm (((pre ++ (Value.slice (some ⟨D,0,none⟩) 32 32,b'.take 32) :: (Value.slice ad4 n4 cap4,b'.drop 32) :: post).map (·.1)).length);rw [← hn7] at hv7;subst hv7;have HLO6:=hh hlo6;have K6:=hh k6;have HM6:=hh hm6;clear hK hS hus hul hown5 hone5 hlo6 k6 hm6 hfin hn7;have hS:=hS6;clear hS6;refine tA1 13 78 hS ?_;go_frame;refine tA1 14 79 hS ?_;go_frame;refine t1 15 fun K hK=>?_
  simp only [gA,jB,gC];refine a0q 38 _ _ rfl g 2 _ rfl rfl rfl rfl 41 _ hS (by kernel_rfl) (by simp) _ rfl ?_;intro w7 h7 k7 z7;refine hK _ _ (fun h=>absurd rfl h) ?_;refine tD ?_;have hrows7:RowsZ w7 (pre ++ (Value.slice (some ⟨D,0,none⟩) 32 32,b'.take 32) :: (.slice ad4 n4 cap4,b'.drop 32) :: post):=by
   have r5:=HR4.out.keep (Keep.of_below (S:=fun _=>False) HB45.out) fun _ _=>id
   have hv5:∃ cs,w5.heap[gv]? = some (.cells cs 229 (0,0)):=(HBLK4.out.later HB45.out).kind rfl;obtain ⟨cs5,hv5⟩:=hv5;have r6:=r5.keep K6.out (fun q hq e=>r5.apart hv5 (by decide) q hq (Option.some.inj e).symm)
   exact r6.keep k7 (fun q hq=>r6.apart hS (by decide) q hq)
  have hblk7:LO w7 229 vE 1 (.slice ad7 n7 cap7) ((pre ++ (Value.slice (some ⟨D,0,none⟩) 32 32,b'.take 32) :: (Value.slice ad4 n4 cap4,b'.drop 32) :: post).map (·.1)):=HLO6.out.keep k7 (fun q e h=>HLO6.out.apart hS (by decide) (by rw [e,h]));have hgm:gv∈footB (.slice (some ⟨gv,0,none⟩) n cap) zs:=by simp [footB,Value.ownBlock]
  have hkeep:Keep (fun q=>q=g∨q∈footB (.slice (some ⟨gv,0,none⟩) n cap) zs) w w7:=by
   have a2:Keep (fun q=>q=g∨q∈footB (.slice (some ⟨gv,0,none⟩) n cap) zs) w w2:=HK2.out.mono fun q _ hq=>by
    right
    rw [HZS.out]
    exact List.mem_append_right _ (b0k (z:=(x,b)) (by simp) hq)
   have a3:=a2.then K23.out (fun q hq=>.inl (.inr (by rw [hq];exact hgm)));have a5:=a3.trans (Keep.of_below ((HB34.out.trans (HB45.out.mono HB34.out.size))));have a6:=a5.then K6.out (fun q hq=>.inl (.inr (by rw [← Option.some.inj hq];exact hgm)))
   exact a6.then k7 (fun q hq=>.inl (.inl hq))
  have H7:=hh h7;have HR7:=hh hrows7;have HB7:=hh hblk7;have HK7:=hh hkeep;have hw5s:w.heap.size≤w5.heap.size:=Nat.le_trans (Nat.le_trans HK2.out.size K23.out.size) (Nat.le_trans HB34.out.size HB45.out.size);clear hK hS h7 k7 z7 hrows7 hblk7 hkeep;go_wp2_with fail
  go_end0
  have hbf:b'.take 32 ++ b'.drop 32=b':=List.take_append_drop _ _;refine ⟨rfl,.slice ad7 n7 cap7,_,_,_,⟨H7.out,HB7.out,HR7.out,?_⟩,HORD.out.1,?_,HORD.out.2.1,HORD.out.2.2,HK7.out,?_⟩
  ·intro z hz;have h65:=H65.out
   rcases List.mem_append.1 hz with hz | hz
   ·exact H.out.ne z (by rw [HZS.out];exact List.mem_append_left _ hz)
   ·rcases List.mem_cons.1 hz with rfl | hz
    ·exact ⟨fun e=>by have:=congrArg List.length e;simp [h65] at this,by rw [List.length_take];omega⟩
    ·rcases List.mem_cons.1 hz with rfl | hz
     ·exact ⟨fun e=>by have:=congrArg List.length e;simp [h65] at this,by rw [List.length_drop];omega⟩
     ·exact H.out.ne z (by rw [HZS.out];exact List.mem_append_right _ (List.mem_cons_of_mem _ hz))
  ·rw [List.map_append,List.flatten_append,List.map_cons,List.flatten_cons,List.map_cons,List.flatten_cons,← List.append_assoc (b'.take 32),hbf,HB'.out];simp
  ·intro q hq
   unfold footB at hq
   rcases List.mem_append.1 hq with hq | hq
   ·rcases HM6.out with h | ⟨q',h,h'⟩
    ·left
     rw [h] at hq
     simp [Value.ownBlock] at hq
     rw [hq];exact hgm
    ·right
     rw [Option.mem_toList,h] at hq
     cases hq
     have:=hw5s
     omega
   ·obtain ⟨y,hy,e⟩:=List.mem_filterMap.1 hq
    rcases List.mem_append.1 hy with hy | hy
    ·left;rw [HZS.out];exact List.mem_append_right _ (b0k (List.mem_append_left _ hy) e)
    ·rcases List.mem_cons.1 hy with rfl | hy
     ·rw [HZS.out]
      exact d0z (vb:=.slice (some ⟨gv,0,none⟩) n cap) (pre:=pre) (post:=post) (z:=(x,b)) (z':=(.slice (some ⟨D,0,none⟩) 65 cap',b')) HM2.out q (List.mem_append_right _ (b0k (z:=(Value.slice (some ⟨D,0,none⟩) 65 cap',b')) (by simp) e))
     ·rcases List.mem_cons.1 hy with rfl | hy
      ·right
       have:=HO4.out q e;have:=K23.out.size;have:=HK2.out.size
       omega
      ·left;rw [HZS.out];exact List.mem_append_right _ (b0k (List.mem_append_right _ (List.mem_cons_of_mem _ hy)) e)
theorem n0j {w:World} {g bm:Nat} {vb vp:Value} {zs:List (Value × List Txt)} (h:Bk w g bm vb vp zs) (hub:UpK (zs.map (·.2)).flatten) (hlz:zs.length < 1099511627776) (k:Txt) (hk:k ∉ (zs.map (·.2)).flatten) :
  Calls Tryz.prog 207 #[.pointer (some ⟨g,0,none⟩),.string (bs k)] w (EnterRet w g bm vb vp zs k):=by
 by_cases hne:zs = []
 ·subst hne;exact k0F h k
 ·exact l0Y h hub hlz hne k hk

def LeaveRet (w:World) (g bm:Nat) (vb vp:Value) (zs:List (Value × List Txt)) (k:Txt) (e:Ending) (w':World):Prop:=
 e = .returned (.tuple #[])∧∃ vb' zs' xs ys,Bk w' g bm vb' vp zs'∧(zs.map (·.2)).flatten=xs ++ k :: ys∧(zs'.map (·.2)).flatten=xs ++ ys ∧
  Keep (fun x=>x=g∨x∈footB vb zs) w w'∧∀ x∈footB vb' zs',x∈footB vb zs∨w.heap.size≤x

theorem o0h {w:World} {g bm:Nat} {vb vp:Value} {zs:List (Value × List Txt)} (h:Bk w g bm vb vp zs) (hub:UpK (zs.map (·.2)).flatten) (hlz:zs.length < 1099511627776) (k:Txt) (hk:k∈(zs.map (·.2)).flatten) :
  Calls Tryz.prog 208 #[.pointer (some ⟨g,0,none⟩),.string (bs k)] w (LeaveRet w g bm vb vp zs k):=by
 have hne:zs≠[]:=by rintro rfl;simp at hk
 obtain ⟨gv,cap,cur,hvb,hgv,d1,d2,d3,d4⟩:=h.blocks.opened (by intro e;exact hne (List.map_eq_nil_iff.1 e));rw [List.length_map] at hvb d1 d4;obtain ⟨n,hn⟩:=nm (zs.length);rw [← hn] at hvb d1 d4 hlz;subst hvb;have hn0:0 < n:=by rw [hn];exact List.length_pos_iff.2 hne
 have c2:w.cell? ⟨g,2,none⟩=some (.slice (some ⟨gv,0,none⟩) n cap):=Lib.cell_of_heap h.head 2;have H:=hh h;have HU:=hh hub;have HN:=hh hn;have HE:=hh hne;have HK:=hh hk;have HG:=hh hgv;have D3:=hh d3;have D4:=hh d4;clear h hub hn hne hk hgv d3 d4
 unfold maxLen at d2
 go_enter Tryz.func208,Tryz.ntmps208
 go_wp2_with fail;refine (f0v H.out HU.out (by have:=HN.out;omega) HE.out k).mono ?_;rintro e w1 ⟨i,rfl,hf,rfl⟩;have hin:i < n:=by have:=hf.lt;rw [List.length_map] at this;rw [HN.out];exact this
 have hil:i < zs.length:=by rw [← HN.out];exact hin
 have HF:=hh hf;have HIL:=hh hil;clear hf hil;obtain ⟨pre,hpre⟩:=nm (zs.take i);obtain ⟨z,hz⟩:=nm (zs[i]'HIL.out);obtain ⟨post,hpost⟩:=nm (zs.drop (i+1));have hzs:zs=pre ++ z :: post:=by rw [hpre,hz,hpost];exact l0K HIL.out
 have hpl:pre.length=i:=by rw [hpre,List.length_take];have:=HIL.out;omega
 have hci:w.cell? ⟨gv,i,none⟩=some z.1:=by
  rw [Lib.cell_of_heap HG.out];have h5:=D4.out;rw [a0W,Nat.mul_one] at h5;have h6:(zs.map (·.1))[i]? = some z.1:=by rw [List.getElem?_map,List.getElem?_eq_getElem HIL.out,hz];rfl
  rw [← h5,List.getElem?_take,if_pos hin] at h6
  simpa using h6
 have hzm:z∈zs:=by rw [hzs];simp
 have hrow:=H.out.rows.rows z hzm;have hlen:=(H.out.ne z hzm);have hzz:(zs.map (·.2))[i]'HF.out.lt=z.2:=by rw [List.getElem_map,hz]
 obtain ⟨x,b⟩:=z;simp only at hci hrow hlen hzz;have hub2:UpK b:=by
  have:=g0a HU.out (List.getElem_mem HF.out.lt);rw [hzz] at this;exact this
 have hkb:k∈b:=by
  have hnn:∀ c∈zs.map (·.2),c≠[]:=fun c hc=>by obtain ⟨z,hz,rfl⟩:=List.mem_map.1 hc;exact (H.out.ne z hz).1
  have hm:=HK.out;rw [h0t HF.out.lt,hzz] at hm
  rcases List.mem_append.1 hm with hm | hm
  ·have:=HF.out.before HU.out hnn k hm;rw [a0r] at this;cases this
  ·rcases List.mem_append.1 hm with hm | hm
   ·exact hm
   ·have:=HF.out.behind HU.out hnn k hm;rw [a0r] at this;cases this
 have HZS:=hh hzs;have HPL:=hh hpl;have HROW:=hh hrow;have HLEN:=hh hlen;have HUB2:=hh hub2;have HKB:=hh hkb;clear hpre hz hpost hzs hpl hzm hrow hlen hzz hub2 hkb;go_wp2_with fail;refine (f0N _ x b k (HROW.out.rd g0E) HUB2.out (by have:=HLEN.out;omega)).mono ?_;rintro e w1 ⟨a,_,rfl,ha,rfl⟩;obtain ⟨hab,hak⟩:=ha.there HUB2.out HKB.out;have HAB:=hh hab;have HAK:Hid (b[a]'HAB.out=k):=hh hak;have hab64:a < 64:=by have:=HLEN.out;omega
 have hwa:IntKind.i64.wrap ((a:Int)+1)=(a:Int)+1:=IntWalk.i64_in _ (by omega);clear ha hab hak;go_wp2_with fail;refine (s0y w x (b.map strV) (l0p b) (l0n.1 HROW.out) a (by rw [List.length_map];exact HAB.out) (by rw [List.length_map];have:=HLEN.out;omega)).mono ?_;rintro e w2 ⟨x',rfl,hlo,hk2,hm⟩;obtain ⟨b',hb'⟩:∃ b',b'=b.take a ++ b.drop (a+1):=⟨_,rfl⟩;have hlo2:LO w2 9 tE 1 x' b':=by
  rw [l0n,hb',List.map_append,List.map_take,List.map_drop];exact hlo
 have hbl:b'.length+1=b.length:=by
  rw [hb',List.length_append,List.length_take,List.length_drop];have:=HAB.out;omega
 have hbb:b=b.take a ++ k :: b.drop (a+1):=by rw [← HAK.out,List.getElem_cons_drop HAB.out,List.take_append_drop]
 have hxg:x.ownBlock≠some g:=HROW.out.apart H.out.head (by decide);have hxv:x.ownBlock≠some gv:=HROW.out.apart HG.out (by decide);have hg2:=hk2.at H.out.head hxg;have hv2:=hk2.at HG.out hxv;obtain ⟨ad',cap',hx',e1,e2⟩:=hlo2.shape;subst hx';have hrows2:RowsZ w2 (pre ++ (.slice ad' b'.length cap',b') :: post):=by
  have h5:=H.out.rows;rw [HZS.out] at h5
  exact h5.update hk2 hlo2 (.inl hm)
 have hf1:(zs.map (·.2)).flatten=((pre.map (·.2)).flatten ++ b.take a) ++ k :: (b.drop (a+1) ++ (post.map (·.2)).flatten):=by
  rw [HZS.out,List.map_append,List.flatten_append,List.map_cons,List.flatten_cons]
  show (pre.map (·.2)).flatten ++ (b ++ _)=_
  conv=>lhs;rw [hbb]
  simp
 have hgm:gv∈footB (.slice (some ⟨gv,0,none⟩) n cap) zs:=by simp [footB,Value.ownBlock]
 have hkp2:Keep (fun q=>q=g∨q∈footB (.slice (some ⟨gv,0,none⟩) n cap) zs) w w2:=hk2.mono fun q _ hq=>by
  right
  rw [HZS.out]
  exact List.mem_append_right _ (b0k (z:=(x,b)) (by simp) hq)
 have HB':=hh hb';have HBL:=hh hbl;have HM2:=hh hm;have HG2:=hh hg2;have HV2:=hh hv2;have HR2:=hh hrows2;have HF1:=hh hf1;have HKP2:=hh hkp2;have HGM:=hh hgm;have hgv:g≠gv:=fun e=>by have h1:=H.out.head;have h2:=HG.out;rw [e,h2] at h1;simp at h1
 obtain ⟨m,hmm⟩:=nm (b'.length);rw [← hmm] at HR2 HM2 ⊢;have HMM:=hh hmm;have hm64:m < 64:=by have:=HBL.out;have:=HLEN.out;omega
 have c2':w2.cell? ⟨g,2,none⟩=some (.slice (some ⟨gv,0,none⟩) n cap):=Lib.cell_of_heap HG2.out 2;have hmm0:(zs.map (·.1)).length=n:=by rw [List.length_map];exact HN.out.symm
 have HMM0:=hh hmm0;clear hlo hk2 hm hb' hlo2 hbl hbb hxg hxv hg2 hv2 hrows2 hf1 hgm hkp2 hmm c2 hci e1 e2 hmm0;have hsetb:∀ {w3:World},Keep (· = gv) w2 w3→w3.heap[g]? = some (.cells #[.bool true,.map (some bm),.slice (some ⟨gv,0,none⟩) n cap,vp] 41 (0,0)):=fun k=>k.at HG2.out hgv
 by_cases hm0:m=0
 ·have jm:((m:Int) == 0)=true:=by simp;omega
  have hb0:b' = []:=List.eq_nil_of_length_eq_zero (by rw [← HMM.out];exact hm0);have HB0:=hh hb0;have hwi:IntKind.i64.wrap ((i:Int)+1)=(i:Int)+1:=IntWalk.i64_in _ (by omega);have hone:∀ u∈(pre ++ (Value.slice ad' m cap',b') :: post).map (·.1),u.oneCell'=true:=h0R HR2.out;have hone0:∀ u∈zs.map (·.1),u.oneCell'=true:=h0R H.out.rows;have hblk2:LO w2 229 vE 1 (.slice (some ⟨gv,0,none⟩) n cap) (zs.map (·.1)):=LO.mk HMM0.out.symm HV2.out d1 (by unfold maxLen;exact d2) D3.out D4.out;have HO0:=hh hone0;have HBL2:=hh hblk2;clear hone hone0 hblk2 hm0 hb0;go_wp2_with fail;refine (o0l w2 _ (zs.map (·.1)) HO0.out HBL2.out i (by rw [HMM0.out];exact hin) (by rw [HMM0.out];exact hlz)).mono ?_;rintro e w3 ⟨v7,rfl,hlo6,k6,hm6⟩;have hfin:(zs.map (·.1)).take i ++ (zs.map (·.1)).drop (i+1)=(pre ++ post).map (·.1):=by
   have e3:zs.map (·.1)=pre.map (·.1) ++ x :: post.map (·.1):=by rw [HZS.out];simp
   have e4:(pre.map (·.1)).length=i:=by rw [List.length_map];exact HPL.out
   have e5:(pre.map (·.1) ++ [x]).length=i+1:=by rw [List.length_append,e4];rfl
   rw [e3,List.take_left' e4,show pre.map (·.1) ++ x :: post.map (·.1)=(pre.map (·.1) ++ [x]) ++ post.map (·.1) by simp,List.drop_left' e5]
   simp
  rw [hfin] at hlo6;have k6':Keep (· = gv) w2 w3:=k6.mono fun q _ e=>(Option.some.inj e).symm
  have hg3:=hsetb k6';obtain ⟨ad7,cap7,hv7,_,_⟩:=hlo6.shape;obtain ⟨n7,hn7⟩:=nm (((pre ++ post).map (·.1)).length);rw [← hn7] at hv7;subst hv7;have hrows3:RowsZ w3 (pre ++ post):=(HR2.out.keep k6' (fun q hq=>HR2.out.apart HV2.out (by decide) q hq)).remove;have HLO6:=hh hlo6;have K6:=hh k6';have HM6:=hh hm6;have HG3:=hh hg3;have HR3:=hh hrows3;clear hlo6 k6 k6' hm6 hfin hn7 hg3 hrows3
  go_wp2_with (refine a0h rfl 38 _ _ rfl g 2 _ rfl rfl rfl rfl 41 _ HG3.out (by kernel_rfl) (by simp) _ rfl ?_)
  intro w7 h7 k7 z7;have H7:=hh h7;have K7:=hh k7;clear h7 k7 z7;go_wp2_with fail
  go_end0
  refine ⟨rfl,.slice ad7 n7 cap7,pre ++ post,_,_,⟨H7.out,HLO6.out.keep K7.out (fun q e h=>HLO6.out.apart HG3.out (by decide) (by rw [e,h])),HR3.out.keep K7.out (fun q hq=>HR3.out.apart HG3.out (by decide) q hq),?_⟩,HF1.out,?_,?_,?_⟩
  ·intro z hz
   rcases List.mem_append.1 hz with hz | hz
   ·exact H.out.ne z (by rw [HZS.out];exact List.mem_append_left _ hz)
   ·exact H.out.ne z (by rw [HZS.out];exact List.mem_append_right _ (List.mem_cons_of_mem _ hz))
  ·have:=HB0.out;rw [HB'.out] at this;rw [List.map_append,List.flatten_append,List.append_assoc,← List.append_assoc (b.take a),this];rfl
  ·exact (HKP2.out.then K6.out fun q hq=>.inl (.inr (by rw [hq];exact HGM.out))).then K7.out fun q hq=>.inl (.inl hq)
  ·intro q hq
   left
   unfold footB at hq
   rcases List.mem_append.1 hq with hq | hq
   ·rw [HM6.out] at hq
    simp [Value.ownBlock] at hq
    rw [hq];exact HGM.out
   ·obtain ⟨y,hy,e⟩:=List.mem_filterMap.1 hq;rw [HZS.out]
    rcases List.mem_append.1 hy with hy | hy
    ·exact List.mem_append_right _ (b0k (List.mem_append_left _ hy) e)
    ·exact List.mem_append_right _ (b0k (List.mem_append_right _ (List.mem_cons_of_mem _ hy)) e)
 ·have jm:((m:Int) == 0)=false:=by simp;omega
  go_wp2_with (refine a0h rfl 229 _ _ rfl gv i _ rfl rfl rfl rfl 229 cur HV2.out (by kernel_rfl) (by have:=D3.out;omega) _ rfl ?_)
  intro w3 h4 k4 z4;have H4:=hh h4;have K4:=hh k4;clear h4 k4 z4;go_wp2_with fail
  go_end0
  refine ⟨rfl,.slice (some ⟨gv,0,none⟩) n cap,pre ++ (.slice ad' m cap',b') :: post,_,_,⟨hsetb K4.out,?_,HR2.out.keep K4.out (fun q hq=>HR2.out.apart HV2.out (by decide) q hq),?_⟩,HF1.out,?_,HKP2.out.then K4.out (fun q hq=>.inl (.inr (by rw [hq];exact HGM.out))),?_⟩
  ·have h6:=LO.set (us:=zs.map (·.1)) (i:=i) (.slice ad' m cap') HMM0.out.symm d1 (by unfold maxLen;exact d2) D3.out (by have:=D4.out;exact this) H4.out;rw [HZS.out,← HPL.out] at h6;rw [map_set (x,b) (.slice ad' m cap',b')] at h6
   exact h6
  ·intro z hz
   rcases List.mem_append.1 hz with hz | hz
   ·exact H.out.ne z (by rw [HZS.out];exact List.mem_append_left _ hz)
   ·rcases List.mem_cons.1 hz with rfl | hz
    ·refine ⟨fun e=>hm0 ?_,?_⟩
     ·rw [HMM.out,show b' = [] from e];rfl
     ·rw [← HMM.out];omega
    ·exact H.out.ne z (by rw [HZS.out];exact List.mem_append_right _ (List.mem_cons_of_mem _ hz))
  ·rw [List.map_append,List.flatten_append,List.map_cons,List.flatten_cons,HB'.out];simp
  ·rw [HZS.out];exact d0z (w:=w) (.inl HM2.out)
end
section
set_option maxHeartbeats 8000000
set_option maxRecDepth 100000
open Go.RowKit

theorem Tryz.zeroWas (w:World):(zeroValue 241).run Tryz.prog w = .ok (.agg #[.string (bs []),.string (bs []),.bool false]) w:=by kernel_rfl
theorem Tryz.sizeWas:(Tryz.prog.info? 241).map (·.size)=some 3:=by kernel_rfl
theorem Tryz.infoWas:(Tryz.prog.info? 241).map (fun i=>(i.zero,i.size,i.bytes))=some (some (.agg #[.string ⟨#[]⟩,.string ⟨#[]⟩,.bool false]),3,40):=by kernel_rfl
def wasV (t:Tab) (k:Txt):WasP:=(k,(getP t k).getD [],(getP t k).isSome)
theorem q0M {zs:List (Value × List Txt)} (h:∀ z∈zs,z.2≠[]):zs.length≤((zs.map (·.2)).flatten).length:=by
 induction zs with
 | nil=>exact Nat.zero_le _
 | cons z zs ih=>
  rw [List.map_cons,List.flatten_cons,List.length_append,List.length_cons];have h1:=List.length_pos_iff.2 (h z List.mem_cons_self);have:=ih fun y hy=>h y (List.mem_cons_of_mem _ hy)
  omega
theorem StAt.few {w:World} {g:Nat} {s:PS} {bm:Nat} {vb vp:Value} {zs:List (Value × List Txt)} (h:StAt w g s bm vb vp zs):zs.length≤s.t.length:=by
 have:=q0M fun z hz=>(h.bk.ne z hz).1
 rw [h.flat] at this
 unfold keysP at this
 rw [List.length_map] at this
 exact this
theorem a0u {w:World} {g:Nat} {t:Tab} (h:MapIs w g t) {k:Nat} {cs:Array Value} {e:TypeId} (hk:w.heap[k]? = some (.cells cs e (0,0))):g≠k:=by
 rintro rfl;obtain ⟨es,c,hb,_⟩:=h;rw [hb] at hk;cases hk
theorem d0g {w:World} {g bm:Nat} {vb vp:Value} {zs:List (Value × List Txt)} (h:Bk w g bm vb vp zs) {t:Tab} (hm:MapIs w bm t):∀ x∈footB vb zs,x≠bm:=by
 rintro x hx rfl
 unfold footB at hx
 rcases List.mem_append.1 hx with hx | hx
 ·rw [Option.mem_toList] at hx;obtain ⟨cs,hc⟩:=h.blocks.kind hx
  exact a0u hm hc rfl
 ·obtain ⟨y,hy,e⟩:=List.mem_filterMap.1 hx;obtain ⟨cs,hc⟩:=(h.rows.rows y hy).kind e
  exact a0u hm hc rfl
theorem j0B {w:World} {g bm:Nat} {vb vp:Value} {zs:List (Value × List Txt)} (h:Bk w g bm vb vp zs) {l:List WasP} (hp:LO w 241 wasE 3 vp l):∀ x∈footB vb zs,vp.ownBlock≠some x:=by
 intro x hx e
 unfold footB at hx
 rcases List.mem_append.1 hx with hx | hx
 ·rw [Option.mem_toList] at hx;obtain ⟨cs,hc⟩:=h.blocks.kind hx
  exact hp.apart hc (by decide) e
 ·obtain ⟨y,hy,e2⟩:=List.mem_filterMap.1 hx;obtain ⟨cs,hc⟩:=(h.rows.rows y hy).kind e2
  exact hp.apart hc (by decide) e
def LayRet (w:World) (g bm:Nat) (vb vp:Value) (zs:List (Value × List Txt)) (s:PS) (k v:Txt) (there:Bool) (e:Ending) (w':World):Prop:=
 e = .returned (.agg (wasE (wasV s.t k)).toArray)∧∃ vb' zs',StAt w' g ⟨layP s.t k v there,s.past⟩ bm vb' vp zs'∧Keep (fun x=>x=g∨x=bm∨x∈footB vb zs) w w'∧∀ x∈footB vb' zs',x∈footB vb zs∨w.heap.size≤x

theorem d0I {w w1 w2 w3 w4:World} {g bm R:Nat} {vb vp vb2:Value} {zs zs2:List (Value × List Txt)} {s:PS} {t':Tab} (h0:StAt w g s bm vb vp zs) (hb01:Below w.heap.size w w1) (hR:R=w.heap.size) (hR1:R < w1.heap.size)
  (h1:StAt w1 g s bm vb vp zs) (hb2:Bk w2 g bm vb2 vp zs2) (k12:Keep (fun x=>x=g∨x∈footB vb zs) w1 w2) (hf2:∀ x∈footB vb2 zs2,x∈footB vb zs∨w1.heap.size≤x)
  (k23:Keep (· = bm) w2 w3) (hm3:MapIs w3 bm t') (k34:Keep (· = R) w3 w4) (hup:Up t') (hfl:(zs2.map (·.2)).flatten=keysP t') :
  StAt w4 g ⟨t',s.past⟩ bm vb2 vp zs2∧Keep (fun x=>x=g∨x=bm∨x∈footB vb zs) w w4∧∀ x∈footB vb2 zs2,x∈footB vb zs∨w.heap.size≤x:=by
 have hlt:∀ x∈foot g bm vb vp zs,x < w.heap.size:=fun x hx=>(St.lt ⟨bm,vb,vp,zs,h0,rfl⟩) x hx
 have hgR:g≠R:=by have:=hlt g (by simp [foot]);omega
 have hbR:bm≠R:=by have:=hlt bm (by simp [foot]);omega
 have hvR:∀ k,vp.ownBlock=some k→k≠R:=fun k e=>by have:=hlt k (by simp [foot,e]);omega
 have hfR:∀ x∈footB vb2 zs2,x≠R:=fun x hx=>by
  rcases hf2 x hx with h | h
  ·have:=hlt x (by simp [foot,h]);omega
  ·omega
 have hm1:MapIs w2 bm s.t:=h1.map.keep k12 (by
  rintro (e | e)
  ·exact a0u h1.map h1.bk.head e
  ·exact d0g h1.bk h1.map _ e rfl)
 have hp2:LO w2 241 wasE 3 vp s.past:=h1.past.keep k12 fun k e=>by
  rintro (e2 | e2)
  ·exact h1.past.apart h1.bk.head (by decide) (by rw [e,e2])
  ·exact j0B h1.bk h1.past k e2 e
 have hb3:=hb2.keep k23 (fun e=>a0u hm1 hb2.head e.symm) (fun x hx e=>d0g hb2 hm1 x hx e);have hp3:=hp2.keep k23 (fun k e e2=>by
  obtain ⟨cs,hc⟩:=hp2.kind e
  exact a0u hm1 hc e2.symm)
 refine ⟨⟨hb3.keep k34 hgR hfR,hm3.keep k34 hbR,hp3.keep k34 hvR,hup,hfl⟩,?_,fun x hx=>(hf2 x hx).imp id (Nat.le_trans hb01.size)⟩;refine ((((Keep.of_below hb01).then k12 ?_).then k23 ?_).then k34 ?_)
 ·rintro x (hx | hx)
  ·exact .inl (.inl hx)
  ·exact .inl (.inr (.inr hx))
 ·intro x hx;exact .inl (.inr (.inl hx))
 ·intro x hx;right;rw [hx,hR];exact Nat.le_refl _

theorem h0z {w:World} {g:Nat} {s:PS} {bm:Nat} {vb vp:Value} {zs:List (Value × List Txt)} (h:StAt w g s bm vb vp zs) (hl:s.t.length < 1099511627776) (k v:Txt) (there:Bool) :
  Calls Tryz.prog 163 #[.pointer (some ⟨g,0,none⟩),.string (bs k),.string (bs v),.bool there] w (LayRet w g bm vb vp zs s k v there):=by
 have H:=hh h;have hlz:zs.length < 1099511627776:=Nat.lt_of_le_of_lt h.few hl;have HLZ:=hh hlz;obtain ⟨ok,hok⟩:=nm ((getP s.t k).isSome);obtain ⟨old,hold⟩:=nm ((getP s.t k).getD []);have HOK:=hh hok;have HOLD:=hh hold;clear h hl hlz hok hold
 go_enter Tryz.func163,Tryz.ntmps163
 go_wp2_with (refine sA _ Tryz.zeroWas ?_)
 intro R w1 h1;have hst1:=H.out.keep (Keep.of_below (S:=fun _=>False) h1.out.below) fun _ _=>id
 have H1:=hh hst1;clear hst1;have c1:w1.cell? ⟨g,1,none⟩=some (.map (some bm)):=Lib.cell_of_heap H1.out.bk.head 1;have H01:=hh h1.out;have hlt:∀ x∈foot g bm vb vp zs,x < w.heap.size:=fun x hx=>(St.lt ⟨bm,vb,vp,zs,H.out,rfl⟩) x hx
 have hrg:g≠R:=by have:=hlt g (by simp [foot]);have:=h1.out.eq;omega
 have hrf:∀ x∈footB vb zs,x≠R:=fun x hx=>by have:=hlt x (by simp [foot,hx]);have:=h1.out.eq;omega
 have HRG:=hh hrg;have HRF:=hh hrf;have huk:UpK (zs.map (·.2)).flatten:=by rw [H.out.flat];exact e0f.2 H.out.up
 have HUK:=hh huk;clear hlt hrg hrf huk h1
 cases there with
 | true=>
  cases ok with
  | true=>
   have hg:getP s.t k≠none:=by have:=HOK.out;intro e;rw [e] at this;cases this
   have HG:=hh hg;clear hg
   go_wp2_with (first | (refine a0F rfl 37 _ _ rfl Tryz.underlying37 Tryz.underlying9 zeroStr H1.out.map k rfl rfl ?_;rw [← HOK.out,← HOLD.out]) | (refine h0f rfl 37 _ _ _ rfl Tryz.underlying37 Tryz.underlying9 H.out.up H1.out.map k v rfl rfl rfl ?_))
   intro w3 hm3 k23 _;have HM3:=hh hm3;have K23:=hh k23;clear hm3 k23;have hr3:w3.heap[R]? = some (.cells #[.string (bs []),.string (bs []),.bool false] 241 (0,0)):=K23.out.at H01.out.cells (fun e=>a0u H1.out.map H01.out.cells e.symm);have HR3:=hh hr3;clear hr3
   go_wp2_with (refine sR 241 #[.string (bs k),.string (bs old),.bool true] HR3 Tryz.sizeWas ?_)
   intro w4 h4 k34 _;have H4:=hh h4;have K34:=hh k34;clear h4 k34;go_wp2_with fail;have hcl:=d0I (t':=layP s.t k v true) H.out H01.out.below H01.out.eq (a0b H01.out.cells) H1.out H1.out.bk (Keep.refl _ _) (fun x hx=>.inl hx) K23.out HM3.out K34.out (b0L H.out.up k v true) (by unfold layP;rw [if_pos rfl,g0H v H.out.up HG.out];exact H.out.flat);refine bodyPost_ret (results_cell_row rfl _ _ R _ _ _ _ rfl H4.out Tryz.underlying241 rfl Tryz.sizeWas) rfl ⟨?_,_,_,hcl⟩
   unfold wasV
   rw [← HOLD.out,← HOK.out];rfl
  | false=>
   have hg:getP s.t k=none:=by have:=HOK.out;cases e:getP s.t k with | none=>rfl | some _=>rw [e] at this;cases this
   have hk:k ∉ (zs.map (·.2)).flatten:=by rw [H.out.flat];exact fun h=>h0D.1 h hg
   have HG:=hh hg;have HK:=hh hk;clear hg hk
   go_wp2_with (refine a0F rfl 37 _ _ rfl Tryz.underlying37 Tryz.underlying9 zeroStr H1.out.map k rfl rfl ?_;rw [← HOK.out,← HOLD.out])
   refine (n0j H1.out.bk HUK.out HLZ.out k HK.out).mono ?_;rintro e w2 ⟨rfl,vb2,zs2,xs,ys,hb2,hx,hy,hlx,hly,k12,hf2⟩;have HB2:=hh hb2;have K12:=hh k12;have HF2:=hh hf2;have hfl:(zs2.map (·.2)).flatten=keysP (insP s.t k v):=by
    rw [hy];exact (l0v k v (by rw [← H.out.flat];exact hx) hlx hly).symm
   have HFL:=hh hfl;clear hb2 k12 hf2 hx hy hlx hly hfl c1;have c1:w2.cell? ⟨g,1,none⟩=some (.map (some bm)):=Lib.cell_of_heap HB2.out.head 1
   go_wp2_with (refine h0f rfl 37 _ _ _ rfl Tryz.underlying37 Tryz.underlying9 H.out.up (H1.out.map.keep K12.out (by rintro (e | e);exact a0u H1.out.map H1.out.bk.head e;exact d0g H1.out.bk H1.out.map _ e rfl)) k v rfl rfl rfl ?_)
   intro w3 hm3 k23 _;have HM3:=hh hm3;have K23:=hh k23;clear hm3 k23;have hr3:w3.heap[R]? = some (.cells #[.string (bs []),.string (bs []),.bool false] 241 (0,0)):=K23.out.at (K12.out.at H01.out.cells (by rintro (e | e);exact HRG.out e.symm;exact HRF.out _ e rfl)) (fun e=>a0u (H1.out.map.keep K12.out (by rintro (e | e);exact a0u H1.out.map H1.out.bk.head e;exact d0g H1.out.bk H1.out.map _ e rfl)) (K12.out.at H01.out.cells (by rintro (e | e);exact HRG.out e.symm;exact HRF.out _ e rfl)) e.symm);have HR3:=hh hr3;clear hr3
   go_wp2_with (refine sR 241 #[.string (bs k),.string (bs old),.bool false] HR3 Tryz.sizeWas ?_)
   intro w4 h4 k34 _;have H4:=hh h4;have K34:=hh k34;clear h4 k34;go_wp2_with fail;have hcl:=d0I (t':=layP s.t k v true) H.out H01.out.below H01.out.eq (a0b H01.out.cells) H1.out HB2.out K12.out HF2.out K23.out HM3.out K34.out (b0L H.out.up k v true) HFL.out;refine bodyPost_ret (results_cell_row rfl _ _ R _ _ _ _ rfl H4.out Tryz.underlying241 rfl Tryz.sizeWas) rfl ⟨?_,_,_,hcl⟩
   unfold wasV
   rw [← HOLD.out,← HOK.out];rfl
 | false=>
  cases ok with
  | true=>
   have hg:getP s.t k≠none:=by have:=HOK.out;intro e;rw [e] at this;cases this
   have hk:k∈(zs.map (·.2)).flatten:=by rw [H.out.flat];exact h0D.2 hg
   have HG:=hh hg;have HK:=hh hk;clear hg hk
   go_wp2_with (refine a0F rfl 37 _ _ rfl Tryz.underlying37 Tryz.underlying9 zeroStr H1.out.map k rfl rfl ?_;rw [← HOK.out,← HOLD.out])
   refine (o0h H1.out.bk HUK.out HLZ.out k HK.out).mono ?_;rintro e w2 ⟨rfl,vb2,zs2,xs,ys,hb2,hx,hy,k12,hf2⟩;have HB2:=hh hb2;have K12:=hh k12;have HF2:=hh hf2;have hfl:(zs2.map (·.2)).flatten=keysP (delP s.t k):=by
    rw [hy];exact (k0W H.out.up (by rw [← H.out.flat];exact hx)).symm
   have HFL:=hh hfl;clear hb2 k12 hf2 hx hy hfl c1;have c1:w2.cell? ⟨g,1,none⟩=some (.map (some bm)):=Lib.cell_of_heap HB2.out.head 1
   go_wp2_with (refine f0w rfl 37 9 _ _ rfl Tryz.underlying37 Tryz.underlying9 H.out.up (H1.out.map.keep K12.out (by rintro (e | e);exact a0u H1.out.map H1.out.bk.head e;exact d0g H1.out.bk H1.out.map _ e rfl)) k rfl rfl ?_)
   intro w3 hm3 k23 _;have HM3:=hh hm3;have K23:=hh k23;clear hm3 k23;have hr3:w3.heap[R]? = some (.cells #[.string (bs []),.string (bs []),.bool false] 241 (0,0)):=K23.out.at (K12.out.at H01.out.cells (by rintro (e | e);exact HRG.out e.symm;exact HRF.out _ e rfl)) (fun e=>a0u (H1.out.map.keep K12.out (by rintro (e | e);exact a0u H1.out.map H1.out.bk.head e;exact d0g H1.out.bk H1.out.map _ e rfl)) (K12.out.at H01.out.cells (by rintro (e | e);exact HRG.out e.symm;exact HRF.out _ e rfl)) e.symm);have HR3:=hh hr3;clear hr3
   go_wp2_with (refine sR 241 #[.string (bs k),.string (bs old),.bool true] HR3 Tryz.sizeWas ?_)
   intro w4 h4 k34 _;have H4:=hh h4;have K34:=hh k34;clear h4 k34;go_wp2_with fail;have hcl:=d0I (t':=layP s.t k v false) H.out H01.out.below H01.out.eq (a0b H01.out.cells) H1.out HB2.out K12.out HF2.out K23.out HM3.out K34.out (b0L H.out.up k v false) HFL.out;refine bodyPost_ret (results_cell_row rfl _ _ R _ _ _ _ rfl H4.out Tryz.underlying241 rfl Tryz.sizeWas) rfl ⟨?_,_,_,hcl⟩
   unfold wasV
   rw [← HOLD.out,← HOK.out];rfl
  | false=>
   have hg:getP s.t k=none:=by have:=HOK.out;cases e:getP s.t k with | none=>rfl | some _=>rw [e] at this;cases this
   have HG:=hh hg;clear hg
   go_wp2_with (first | (refine a0F rfl 37 _ _ rfl Tryz.underlying37 Tryz.underlying9 zeroStr H1.out.map k rfl rfl ?_;rw [← HOK.out,← HOLD.out]) | (refine f0w rfl 37 9 _ _ rfl Tryz.underlying37 Tryz.underlying9 H.out.up H1.out.map k rfl rfl ?_))
   intro w3 hm3 k23 _;have HM3:=hh hm3;have K23:=hh k23;clear hm3 k23;have hr3:w3.heap[R]? = some (.cells #[.string (bs []),.string (bs []),.bool false] 241 (0,0)):=K23.out.at H01.out.cells (fun e=>a0u H1.out.map H01.out.cells e.symm);have HR3:=hh hr3;clear hr3
   go_wp2_with (refine sR 241 #[.string (bs k),.string (bs old),.bool false] HR3 Tryz.sizeWas ?_)
   intro w4 h4 k34 _;have H4:=hh h4;have K34:=hh k34;clear h4 k34;go_wp2_with fail;have hcl:=d0I (t':=layP s.t k v false) H.out H01.out.below H01.out.eq (a0b H01.out.cells) H1.out H1.out.bk (Keep.refl _ _) (fun x hx=>.inl hx) K23.out HM3.out K34.out (b0L H.out.up k v false) (by unfold layP;rw [if_neg (by simp),c0q HG.out];exact H.out.flat);refine bodyPost_ret (results_cell_row rfl _ _ R _ _ _ _ rfl H4.out Tryz.underlying241 rfl Tryz.sizeWas) rfl ⟨?_,_,_,hcl⟩
   unfold wasV
   rw [← HOLD.out,← HOK.out];rfl
end
section
set_option maxHeartbeats 8000000
set_option maxRecDepth 100000
open Go.RowKit

theorem e0l (g bm:Nat) (vb vp:Value) (zs:List (Value × List Txt)) (x:Nat):x∈foot g bm vb vp zs↔x=g∨x=bm∨vp.ownBlock=some x∨x∈footB vb zs:=by
 unfold foot
 simp only [List.mem_cons,List.mem_append,Option.mem_toList]
theorem d0e {w w2 w4 w5:World} {g bm:Nat} {vb vp vb2 vp':Value} {zs zs2:List (Value × List Txt)} {s:PS} {t':Tab} {p':List WasP} (_h0:StAt w g s bm vb vp zs) (h2:StAt w2 g ⟨t',s.past⟩ bm vb2 vp zs2) (k02:Keep (fun x=>x=g∨x=bm∨x∈footB vb zs) w w2) (hf2:∀ x∈footB vb2 zs2,x∈footB vb zs∨w.heap.size≤x)
  (hp:LO w4 241 wasE 3 vp' p') (k24:Keep (fun k=>vp.ownBlock=some k) w2 w4) (hm:vp'.ownBlock=vp.ownBlock∨∀ k,vp'.ownBlock=some k→w2.heap.size≤k)
  (h5:w5.heap[g]? = some (.cells #[.bool true,.map (some bm),vb2,vp'] 41 (0,0))) (k45:Keep (· = g) w4 w5) :
  StAt w5 g ⟨t',p'⟩ bm vb2 vp' zs2∧Keep (·∈foot g bm vb vp zs) w w5∧∀ x∈foot g bm vb2 vp' zs2,x∈foot g bm vb vp zs∨w.heap.size≤x:=by
 have hgp:vp.ownBlock≠some g:=h2.past.apart h2.bk.head (by decide);have hg4:=k24.at h2.bk.head hgp;have hb4:Bk w4 g bm vb2 vp zs2:=h2.bk.keep k24 hgp fun x hx=>j0B h2.bk h2.past x hx
 have hm4:MapIs w4 bm t':=h2.map.keep k24 fun e=>by
  obtain ⟨cs,hc⟩:=h2.past.kind e
  exact a0u h2.map hc rfl
 refine ⟨⟨⟨h5,?_,?_,h2.bk.ne⟩,?_,?_,h2.up,h2.flat⟩,?_,?_⟩
 ·exact hb4.blocks.keep k45 fun k e e2=>hb4.blocks.apart hg4 (by decide) (by rw [e,e2])
 ·exact hb4.rows.keep k45 fun q hq=>hb4.rows.apart hg4 (by decide) q hq
 ·exact hm4.keep k45 fun e=>a0u hm4 hg4 e
 ·exact hp.keep k45 fun k e e2=>hp.apart hg4 (by decide) (by rw [e,e2])
 ·refine ((k02.mono ?_).then k24 ?_).then k45 ?_
  ·intro x _ hx;rw [e0l]
   rcases hx with h | h | h
   ·exact .inl h
   ·exact .inr (.inl h)
   ·exact .inr (.inr (.inr h))
  ·intro x hx;left;rw [e0l];exact .inr (.inr (.inl hx))
  ·intro x hx;left;rw [e0l];exact .inl hx
 ·intro x hx;rw [e0l] at hx ⊢
  rcases hx with h | h | h | h
  ·exact .inl (.inl h)
  ·exact .inl (.inr (.inl h))
  ·rcases hm with hm | hm
   ·rw [hm] at h;exact .inl (.inr (.inr (.inl h)))
   ·exact .inr (Nat.le_trans k02.size (hm x h))
  ·rcases hf2 x h with h | h
   ·exact .inl (.inr (.inr (.inr h)))
   ·exact .inr h

theorem l0j {w:World} {g:Nat} {s:PS} {F:List Nat} (h:St w g s F) (htl:s.t.length < 1099511627776) (hpl:s.past.length < 1099511627776) (k v:Txt) :
  Calls Tryz.prog 122 #[.pointer (some ⟨g,0,none⟩),.string (bs k),.string (bs v)] w (StRet w g F (s.set k v) (.int .i64 (setE k))):=by
 obtain ⟨bm,vb,vp,zs,h,rfl⟩:=h;obtain ⟨ad,cap,hvp,h1,h2⟩:=h.past.shape;obtain ⟨n,hn⟩:=nm (s.past.length);rw [← hn] at hvp h1 hpl;subst hvp;have c3:w.cell? ⟨g,3,none⟩=some (.slice ad n cap):=Lib.cell_of_heap h.bk.head 3;obtain ⟨ok,hok⟩:=nm ((getP s.t k).isSome);obtain ⟨old,hold⟩:=nm ((getP s.t k).getD []);have H:=hh h;have C3:=hh c3;have HN:=hh hn;have HTL:=hh htl;have HOK:=hh hok;have HOLD:=hh hold;have c1:w.cell? ⟨g,1,none⟩=some (.map (some bm)):=Lib.cell_of_heap H.out.bk.head 1;clear h hn htl hok hold c3
 by_cases hk:k = []
 ·have je:(bs k).toList.isEmpty=true:=by rw [a0j,hk];rfl
  have hres:s.set k v=s:=by unfold PS.set;rw [if_pos (.inl hk)]
  have hE:setE k=2:=by unfold setE;rw [if_pos hk]
  rw [hres,hE];clear hk hres hE
  go_enter Tryz.func122,Tryz.ntmps122
  go_wp2_with fail;refine (b0M g _ _ _ H.out.bk.head rfl).mono ?_;rintro e w1 ⟨rfl,rfl⟩;go_wp2_with fail
  go_ret
  exact ⟨rfl,_,⟨bm,vb,_,zs,H.out,rfl⟩,Keep.refl _ _,fun x hx=>.inl hx⟩
 ·have je:(bs k).toList.isEmpty=false:=by rw [a0j];cases k with | nil=>exact absurd rfl hk | cons _ _=>rfl
  have hE:setE k=0:=by unfold setE;rw [if_neg hk]
  rw [hE]
  by_cases hsame:getP s.t k=some v
  ·have hres:s.set k v=s:=by unfold PS.set;rw [if_pos (.inr hsame)]
   have ho:old=v:=by rw [HOLD.out,hsame];rfl
   have hk1:ok=true:=by rw [HOK.out,hsame];rfl
   have jv:((bs old).toList == (bs v).toList)=true:=by rw [ho];simp
   rw [hres];clear hk hres hE ho hsame;subst hk1
   go_enter Tryz.func122,Tryz.ntmps122
   go_wp2_with fail;refine (b0M g _ _ _ H.out.bk.head rfl).mono ?_;rintro e w1 ⟨rfl,rfl⟩
   go_wp2_with (refine a0F rfl 37 _ _ rfl Tryz.underlying37 Tryz.underlying9 zeroStr H.out.map k rfl rfl ?_;rw [← HOK.out,← HOLD.out])
   go_ret
   exact ⟨rfl,_,⟨bm,vb,_,zs,H.out,rfl⟩,Keep.refl _ _,fun x hx=>.inl hx⟩
  ·have hres:s.set k v=s.put k v true:=by unfold PS.set;rw [if_neg (by rintro (h | h);exact hk h;exact hsame h)]
   have hput:s.put k v true=⟨layP s.t k v true,s.past ++ [(k,old,ok)]⟩:=by unfold PS.put;rw [← HOLD.out,← HOK.out]
   rw [hres,hput];have hn2:n < 1099511627776:=hpl;have hjv:ok=true→((bs old).toList == (bs v).toList)=false:=by
    intro e;rw [a0j,a0j];rw [beq_eq_false_iff_ne];intro e2
    apply hsame
    have h3:=HOK.out;rw [e] at h3
    cases hg:getP s.t k with
    | none=>rw [hg] at h3;cases h3
    | some z=>have:=HOLD.out;rw [hg] at this;rw [← e2,this];rfl
   clear hk hres hput hE hsame
   go_enter Tryz.func122,Tryz.ntmps122
   go_wp2_with fail;refine (b0M g _ _ _ H.out.bk.head rfl).mono ?_;rintro e w1 ⟨rfl,rfl⟩;have HJ:=hh hjv;clear hjv
   cases ok with
   | true=>
    have jv:=HJ.out rfl
    go_wp2_with (refine a0F rfl 37 _ _ rfl Tryz.underlying37 Tryz.underlying9 zeroStr H.out.map k rfl rfl ?_;rw [← HOK.out,← HOLD.out])
    have hS:w.drew.cell? ⟨g,3,none⟩=some (.slice ad n cap):=C3.out;have hst:StAt w.drew g s bm vb (.slice ad n cap) zs:=H.out.keep (Keep.of_below (S:=fun _=>False) (Below.refl _ _).drew) fun _ _=>id
    have HD:=hh hst;clear hst;refine a0f (fun w'=>w'.cell? ⟨g,3,none⟩=some (.slice ad n cap)) 13 14 (by kernel_rfl) rfl ?_;refine tA1 0 32 hS ?_;go_frame;refine tA1 1 33 hS ?_;go_frame;refine tA1 2 34 hS ?_;go_frame;refine tA1 3 35 hS ?_;go_frame;refine tk 4 (some 36) rfl rfl (.inl ⟨by rfl,fun w' hS'=>(by have hc:w'.cell? ⟨g,3,none⟩=_:=hS';go_simp;rfl)⟩) hS ?_;go_frame;refine tA1 5 37 hS ?_;go_frame;refine tA1 6 38 hS ?_;go_frame;refine tA1 7 39 hS ?_;go_frame;refine t1 8 fun K hK=>?_
    simp only [gA,jB,gC];go_simp;refine (h0z HD.out HTL.out k v true).mono ?_;rintro e w2 ⟨rfl,vb2,zs2,h2,k02,hf2⟩;have hS2:w2.cell? ⟨g,3,none⟩=some (.slice ad n cap):=Lib.cell_of_heap h2.bk.head 3;refine hK _ _ (fun _ _=>hS2) ?_;have hagg:(wasE (wasV s.t k)).toArray=#[.string (bs k),.string (bs old),.bool true]:=by unfold wasV;rw [← HOLD.out,← HOK.out];rfl
    rw [hagg];have H2:=hh h2;have K02:=hh k02;have HF2:=hh hf2;clear hK hS h2 k02 hf2 hagg;have hS:=hS2;clear hS2;refine t1 9 fun K hK=>?_
    simp only [gA,jB,gC];go_simp;obtain ⟨w3,hw3⟩:=nm (w2.alloc (.cells #[.string (bs k),.string (bs old),.bool true] 241));obtain ⟨Y,hY⟩:=nm (w2.heap.size);rw [← hw3,← hY];have hb23:Below w2.heap.size w2 w3:=by rw [hw3];exact (Below.refl _ _).alloc (Nat.le_refl _) _
    have hy3:w3.heap[Y]? = some (.cells #[.string (bs k),.string (bs old),.bool true] 241 (0,0)):=by rw [hw3,hY];exact heap_alloc_new _ _
    have hS3:w3.cell? ⟨g,3,none⟩=some (.slice ad n cap):=(hb23.cell (p:=⟨g,3,none⟩) (a0b H2.out.bk.head)).trans hS;refine hK _ _ (fun _ _=>hS3) ?_;have HB23:=hh hb23;have HY3:=hh hy3;clear hK hS hw3 hY hb23 hy3;have hS:=hS3;clear hS3;refine t1 10 fun K hK=>?_
    simp only [gA,jB,gC];refine b0n (l2:=[(k,old,true)]) _ _ 39 39 rfl Tryz.underlying39 Tryz.underlying39 Tryz.infoWas rfl (by decide) b0w (c0f _) (H2.out.past.later HB23.out) rfl _ rfl
     ⟨some ⟨Y,0,none⟩,1,rfl,Nat.le_refl _,by unfold maxLen;omega,fun _=>⟨Y,0,rfl,a0b HY3.out,fun j hj q hq=>by
      have h0:j=0:=by simpa using hj
      subst h0;rw [Lib.cell_of_heap HY3.out]
      simp [wasE]⟩⟩ (by unfold maxLen;rw [← HN.out];simp;omega) (by rw [← HN.out];simp;omega) ?_
    intro vp' w4 hlo4 k34 hm4;have hS4:w4.cell? ⟨g,3,none⟩=some (.slice ad n cap):=by
     have hg3:=(HB23.out.block g (a0b H2.out.bk.head)).trans H2.out.bk.head
     exact Lib.cell_of_heap (k34.at hg3 ((H2.out.past.later HB23.out).apart hg3 (by decide))) 3
    refine hK _ _ (fun _ _=>hS4) ?_;obtain ⟨ad',cap',hvp',_,_⟩:=hlo4.shape;obtain ⟨n',hn'⟩:∃ n',n'=(s.past ++ [(k,old,true)]).length:=⟨_,rfl⟩;rw [← hn'] at hvp';subst hvp';have hg4:w4.heap[g]? = some (.cells #[.bool true,.map (some bm),vb2,.slice ad n cap] 41 (0,0)):=by
     have hg3:=(HB23.out.block g (a0b H2.out.bk.head)).trans H2.out.bk.head
     exact k34.at hg3 ((H2.out.past.later HB23.out).apart hg3 (by decide))
    have hm':Value.ownBlock (.slice ad' n' cap')=Value.ownBlock (.slice ad n cap)∨∀ k,Value.ownBlock (.slice ad' n' cap')=some k→w2.heap.size≤k:=by
     rcases hm4 with h | ⟨q,h,h'⟩
     ·exact .inl h
     ·right
      intro k e;rw [e] at h;cases h
      exact Nat.le_trans HB23.out.size h'
    have HLO4:=hh hlo4;have K24:=hh ((Keep.of_below HB23.out).then k34 (fun x hx=>.inl hx));have HM':=hh hm';have HG4:=hh hg4;clear hK hS hlo4 k34 hm4 hn' hm' hg4;have hS:=hS4;clear hS4;refine tA1 11 43 hS ?_;go_frame;refine tA1 12 44 hS ?_;go_frame;refine t1 13 fun K hK=>?_
    simp only [gA,jB,gC];refine a0q 39 _ _ rfl g 3 _ rfl rfl rfl rfl 41 _ HG4.out (by kernel_rfl) (by simp) _ rfl ?_;intro w5 h5 k45 _;refine hK _ _ (fun h=>absurd rfl h) ?_;refine tD ?_;have hk0:Keep (fun x=>x=g∨x=bm∨x∈footB vb zs) w w2:=(Keep.of_below (Below.refl _ _).drew).then K02.out (fun x hx=>.inl hx);have hcl:=d0e H.out H2.out hk0 HF2.out HLO4.out K24.out HM'.out h5 k45;have HCL:=hh hcl;clear hK hS h5 k45 hcl hk0;go_wp2_with fail
    go_ret
    exact ⟨rfl,_,⟨bm,vb2,_,zs2,HCL.out.1,rfl⟩,HCL.out.2.1,HCL.out.2.2⟩
   | false=>
    go_wp2_with (refine a0F rfl 37 _ _ rfl Tryz.underlying37 Tryz.underlying9 zeroStr H.out.map k rfl rfl ?_;rw [← HOK.out,← HOLD.out])
    have hS:w.drew.cell? ⟨g,3,none⟩=some (.slice ad n cap):=C3.out;have hst:StAt w.drew g s bm vb (.slice ad n cap) zs:=H.out.keep (Keep.of_below (S:=fun _=>False) (Below.refl _ _).drew) fun _ _=>id
    have HD:=hh hst;clear hst;refine a0f (fun w'=>w'.cell? ⟨g,3,none⟩=some (.slice ad n cap)) 13 14 (by kernel_rfl) rfl ?_;refine tA1 0 32 hS ?_;go_frame;refine tA1 1 33 hS ?_;go_frame;refine tA1 2 34 hS ?_;go_frame;refine tA1 3 35 hS ?_;go_frame;refine tk 4 (some 36) rfl rfl (.inl ⟨by rfl,fun w' hS'=>(by have hc:w'.cell? ⟨g,3,none⟩=_:=hS';go_simp;rfl)⟩) hS ?_;go_frame;refine tA1 5 37 hS ?_;go_frame;refine tA1 6 38 hS ?_;go_frame;refine tA1 7 39 hS ?_;go_frame;refine t1 8 fun K hK=>?_
    simp only [gA,jB,gC];go_simp;refine (h0z HD.out HTL.out k v true).mono ?_;rintro e w2 ⟨rfl,vb2,zs2,h2,k02,hf2⟩;have hS2:w2.cell? ⟨g,3,none⟩=some (.slice ad n cap):=Lib.cell_of_heap h2.bk.head 3;refine hK _ _ (fun _ _=>hS2) ?_;have hagg:(wasE (wasV s.t k)).toArray=#[.string (bs k),.string (bs old),.bool false]:=by unfold wasV;rw [← HOLD.out,← HOK.out];rfl
    rw [hagg];have H2:=hh h2;have K02:=hh k02;have HF2:=hh hf2;clear hK hS h2 k02 hf2 hagg;have hS:=hS2;clear hS2;refine t1 9 fun K hK=>?_
    simp only [gA,jB,gC];go_simp;obtain ⟨w3,hw3⟩:=nm (w2.alloc (.cells #[.string (bs k),.string (bs old),.bool false] 241));obtain ⟨Y,hY⟩:=nm (w2.heap.size);rw [← hw3,← hY];have hb23:Below w2.heap.size w2 w3:=by rw [hw3];exact (Below.refl _ _).alloc (Nat.le_refl _) _
    have hy3:w3.heap[Y]? = some (.cells #[.string (bs k),.string (bs old),.bool false] 241 (0,0)):=by rw [hw3,hY];exact heap_alloc_new _ _
    have hS3:w3.cell? ⟨g,3,none⟩=some (.slice ad n cap):=(hb23.cell (p:=⟨g,3,none⟩) (a0b H2.out.bk.head)).trans hS;refine hK _ _ (fun _ _=>hS3) ?_;have HB23:=hh hb23;have HY3:=hh hy3;clear hK hS hw3 hY hb23 hy3;have hS:=hS3;clear hS3;refine t1 10 fun K hK=>?_
    simp only [gA,jB,gC];refine b0n (l2:=[(k,old,false)]) _ _ 39 39 rfl Tryz.underlying39 Tryz.underlying39 Tryz.infoWas rfl (by decide) b0w (c0f _) (H2.out.past.later HB23.out) rfl _ rfl
     ⟨some ⟨Y,0,none⟩,1,rfl,Nat.le_refl _,by unfold maxLen;omega,fun _=>⟨Y,0,rfl,a0b HY3.out,fun j hj q hq=>by
      have h0:j=0:=by simpa using hj
      subst h0;rw [Lib.cell_of_heap HY3.out]
      simp [wasE]⟩⟩ (by unfold maxLen;rw [← HN.out];simp;omega) (by rw [← HN.out];simp;omega) ?_
    intro vp' w4 hlo4 k34 hm4;have hS4:w4.cell? ⟨g,3,none⟩=some (.slice ad n cap):=by
     have hg3:=(HB23.out.block g (a0b H2.out.bk.head)).trans H2.out.bk.head
     exact Lib.cell_of_heap (k34.at hg3 ((H2.out.past.later HB23.out).apart hg3 (by decide))) 3
    refine hK _ _ (fun _ _=>hS4) ?_;obtain ⟨ad',cap',hvp',_,_⟩:=hlo4.shape;obtain ⟨n',hn'⟩:∃ n',n'=(s.past ++ [(k,old,false)]).length:=⟨_,rfl⟩;rw [← hn'] at hvp';subst hvp';have hg4:w4.heap[g]? = some (.cells #[.bool true,.map (some bm),vb2,.slice ad n cap] 41 (0,0)):=by
     have hg3:=(HB23.out.block g (a0b H2.out.bk.head)).trans H2.out.bk.head
     exact k34.at hg3 ((H2.out.past.later HB23.out).apart hg3 (by decide))
    have hm':Value.ownBlock (.slice ad' n' cap')=Value.ownBlock (.slice ad n cap)∨∀ k,Value.ownBlock (.slice ad' n' cap')=some k→w2.heap.size≤k:=by
     rcases hm4 with h | ⟨q,h,h'⟩
     ·exact .inl h
     ·right
      intro k e;rw [e] at h;cases h
      exact Nat.le_trans HB23.out.size h'
    have HLO4:=hh hlo4;have K24:=hh ((Keep.of_below HB23.out).then k34 (fun x hx=>.inl hx));have HM':=hh hm';have HG4:=hh hg4;clear hK hS hlo4 k34 hm4 hn' hm' hg4;have hS:=hS4;clear hS4;refine tA1 11 43 hS ?_;go_frame;refine tA1 12 44 hS ?_;go_frame;refine t1 13 fun K hK=>?_
    simp only [gA,jB,gC];refine a0q 39 _ _ rfl g 3 _ rfl rfl rfl rfl 41 _ HG4.out (by kernel_rfl) (by simp) _ rfl ?_;intro w5 h5 k45 _;refine hK _ _ (fun h=>absurd rfl h) ?_;refine tD ?_;have hk0:Keep (fun x=>x=g∨x=bm∨x∈footB vb zs) w w2:=(Keep.of_below (Below.refl _ _).drew).then K02.out (fun x hx=>.inl hx);have hcl:=d0e H.out H2.out hk0 HF2.out HLO4.out K24.out HM'.out h5 k45;have HCL:=hh hcl;clear hK hS h5 k45 hcl hk0;go_wp2_with fail
    go_ret
    exact ⟨rfl,_,⟨bm,vb2,_,zs2,HCL.out.1,rfl⟩,HCL.out.2.1,HCL.out.2.2⟩

theorem q0z {w:World} {g:Nat} {s:PS} {F:List Nat} (h:St w g s F) (htl:s.t.length < 1099511627776) (hpl:s.past.length < 1099511627776) (k:Txt) :
  Calls Tryz.prog 166 #[.pointer (some ⟨g,0,none⟩),.string (bs k)] w (StRet w g F (s.del k) (.bool (getP s.t k).isSome)):=by
 have HST:=hh h;obtain ⟨bm,vb,vp,zs,h,rfl⟩:=h;obtain ⟨ad,cap,hvp,h1,h2⟩:=h.past.shape;obtain ⟨n,hn⟩:=nm (s.past.length);rw [← hn] at hvp h1 hpl;subst hvp;have c3:w.cell? ⟨g,3,none⟩=some (.slice ad n cap):=Lib.cell_of_heap h.bk.head 3;obtain ⟨ok,hok⟩:=nm ((getP s.t k).isSome);obtain ⟨old,hold⟩:=nm ((getP s.t k).getD []);have H:=hh h;have C3:=hh c3;have HN:=hh hn;have HTL:=hh htl;have HOK:=hh hok;have HOLD:=hh hold;have c1:w.cell? ⟨g,1,none⟩=some (.map (some bm)):=Lib.cell_of_heap H.out.bk.head 1;rw [← hok];clear h hn htl hok hold c3
 cases ok with
 | false=>
  have hres:s.del k=s:=by unfold PS.del;rw [if_pos (by have:=HOK.out;cases hg:getP s.t k with | none=>rfl | some _=>rw [hg] at this;cases this)]
  rw [hres];clear hres
  go_enter Tryz.func166,Tryz.ntmps166
  go_wp2_with fail;refine (h0Q HST.out k).mono ?_;rintro e w1 ⟨rfl,rfl⟩;rw [← HOK.out,← HOLD.out];go_wp2_with fail
  go_ret
  exact ⟨rfl,_,HST.out,Keep.refl _ _,fun x hx=>.inl hx⟩
 | true=>
  have hres:s.del k=s.put k [] false:=by unfold PS.del;rw [if_neg (by intro e;have:=HOK.out;rw [e] at this;cases this)]
  have hput:s.put k [] false=⟨layP s.t k [] false,s.past ++ [(k,old,true)]⟩:=by unfold PS.put;rw [← HOLD.out,← HOK.out]
  rw [hres,hput];have hn2:n < 1099511627776:=hpl;clear hres hput
  go_enter Tryz.func166,Tryz.ntmps166
  go_wp2_with fail;refine (h0Q HST.out k).mono ?_;rintro e w1 ⟨rfl,rfl⟩;rw [← HOK.out,← HOLD.out];go_wp2_with fail;have hS:w.drew.cell? ⟨g,3,none⟩=some (.slice ad n cap):=C3.out;have hst:StAt w.drew g s bm vb (.slice ad n cap) zs:=H.out.keep (Keep.of_below (S:=fun _=>False) (Below.refl _ _).drew) fun _ _=>id
  have HD:=hh hst;clear hst;refine a0f (fun w'=>w'.cell? ⟨g,3,none⟩=some (.slice ad n cap)) 12 13 (by kernel_rfl) rfl ?_;refine tA1 0 15 hS ?_;go_frame;refine tA1 1 16 hS ?_;go_frame;refine tA1 2 17 hS ?_;go_frame;refine tA1 3 18 hS ?_;go_frame;refine tk 4 (some 19) rfl rfl (.inl ⟨by rfl,fun w' hS'=>(by have hc:w'.cell? ⟨g,3,none⟩=_:=hS';go_simp;rfl)⟩) hS ?_;go_frame;refine tA1 5 20 hS ?_;go_frame;refine tA1 6 21 hS ?_;go_frame;refine t1 7 fun K hK=>?_
  simp only [gA,jB,gC];go_simp;refine (h0z HD.out HTL.out k [] false).mono ?_;rintro e w2 ⟨rfl,vb2,zs2,h2,k02,hf2⟩;have hS2:w2.cell? ⟨g,3,none⟩=some (.slice ad n cap):=Lib.cell_of_heap h2.bk.head 3;refine hK _ _ (fun _ _=>hS2) ?_;have hagg:(wasE (wasV s.t k)).toArray=#[.string (bs k),.string (bs old),.bool true]:=by unfold wasV;rw [← HOLD.out,← HOK.out];rfl
  rw [hagg];have H2:=hh h2;have K02:=hh k02;have HF2:=hh hf2;clear hK hS h2 k02 hf2 hagg;have hS:=hS2;clear hS2;refine t1 8 fun K hK=>?_
  simp only [gA,jB,gC];go_simp;obtain ⟨w3,hw3⟩:=nm (w2.alloc (.cells #[.string (bs k),.string (bs old),.bool true] 241));obtain ⟨Y,hY⟩:=nm (w2.heap.size);rw [← hw3,← hY];have hb23:Below w2.heap.size w2 w3:=by rw [hw3];exact (Below.refl _ _).alloc (Nat.le_refl _) _
  have hy3:w3.heap[Y]? = some (.cells #[.string (bs k),.string (bs old),.bool true] 241 (0,0)):=by rw [hw3,hY];exact heap_alloc_new _ _
  have hS3:w3.cell? ⟨g,3,none⟩=some (.slice ad n cap):=(hb23.cell (p:=⟨g,3,none⟩) (a0b H2.out.bk.head)).trans hS;refine hK _ _ (fun _ _=>hS3) ?_;have HB23:=hh hb23;have HY3:=hh hy3;clear hK hS hw3 hY hb23 hy3;have hS:=hS3;clear hS3;refine t1 9 fun K hK=>?_
  simp only [gA,jB,gC];refine b0n (l2:=[(k,old,true)]) _ _ 39 39 rfl Tryz.underlying39 Tryz.underlying39 Tryz.infoWas rfl (by decide) b0w (c0f _) (H2.out.past.later HB23.out) rfl _ rfl
   ⟨some ⟨Y,0,none⟩,1,rfl,Nat.le_refl _,by unfold maxLen;omega,fun _=>⟨Y,0,rfl,a0b HY3.out,fun j hj q hq=>by
    have h0:j=0:=by simpa using hj
    subst h0;rw [Lib.cell_of_heap HY3.out]
    simp [wasE]⟩⟩ (by unfold maxLen;rw [← HN.out];simp;omega) (by rw [← HN.out];simp;omega) ?_
  intro vp' w4 hlo4 k34 hm4;have hS4:w4.cell? ⟨g,3,none⟩=some (.slice ad n cap):=by
   have hg3:=(HB23.out.block g (a0b H2.out.bk.head)).trans H2.out.bk.head
   exact Lib.cell_of_heap (k34.at hg3 ((H2.out.past.later HB23.out).apart hg3 (by decide))) 3
  refine hK _ _ (fun _ _=>hS4) ?_;obtain ⟨ad',cap',hvp',_,_⟩:=hlo4.shape;obtain ⟨n',hn'⟩:∃ n',n'=(s.past ++ [(k,old,true)]).length:=⟨_,rfl⟩;rw [← hn'] at hvp';subst hvp';have hg4:w4.heap[g]? = some (.cells #[.bool true,.map (some bm),vb2,.slice ad n cap] 41 (0,0)):=by
   have hg3:=(HB23.out.block g (a0b H2.out.bk.head)).trans H2.out.bk.head
   exact k34.at hg3 ((H2.out.past.later HB23.out).apart hg3 (by decide))
  have hm':Value.ownBlock (.slice ad' n' cap')=Value.ownBlock (.slice ad n cap)∨∀ k,Value.ownBlock (.slice ad' n' cap')=some k→w2.heap.size≤k:=by
   rcases hm4 with h | ⟨q,h,h'⟩
   ·exact .inl h
   ·right
    intro k e;rw [e] at h;cases h
    exact Nat.le_trans HB23.out.size h'
  have HLO4:=hh hlo4;have K24:=hh ((Keep.of_below HB23.out).then k34 (fun x hx=>.inl hx));have HM':=hh hm';have HG4:=hh hg4;clear hK hS hlo4 k34 hm4 hn' hm' hg4;have hS:=hS4;clear hS4;refine tA1 10 25 hS ?_;go_frame;refine tA1 11 26 hS ?_;go_frame;refine t1 12 fun K hK=>?_
  simp only [gA,jB,gC];refine a0q 39 _ _ rfl g 3 _ rfl rfl rfl rfl 41 _ HG4.out (by kernel_rfl) (by simp) _ rfl ?_;intro w5 h5 k45 _;refine hK _ _ (fun h=>absurd rfl h) ?_;refine tD ?_;have hk0:Keep (fun x=>x=g∨x=bm∨x∈footB vb zs) w w2:=(Keep.of_below (Below.refl _ _).drew).then K02.out (fun x hx=>.inl hx);have hcl:=d0e H.out H2.out hk0 HF2.out HLO4.out K24.out HM'.out h5 k45;have HCL:=hh hcl;clear hK hS h5 k45 hcl hk0;go_wp2_with fail
  go_ret
  exact ⟨rfl,_,⟨bm,vb2,_,zs2,HCL.out.1,rfl⟩,HCL.out.2.1,HCL.out.2.2⟩

def pastLen (w:World) (g:Nat):Nat:=match w.cell? ⟨g,3,none⟩ with
 | some (.slice _ n _)=>n
 | _=>0
theorem g0Z {w:World} {g:Nat} {s:PS} {F:List Nat} (h:St w g s F):pastLen w g=s.past.length:=by
 obtain ⟨bm,vb,vp,zs,h,rfl⟩:=h;obtain ⟨ad,cap,hvp,h1,h2⟩:=h.past.shape
 unfold pastLen
 rw [show w.cell? ⟨g,3,none⟩=some vp from Lib.cell_of_heap h.bk.head 3,hvp]
theorem e0v:∀ (n:Nat) (s:PS),PS.backs (n+1) s=(PS.backs n s).back
 | 0,_=>rfl
 | n+1,s=>by rw [PS.backs,e0v n s.back];rfl
theorem n0y (s:PS):s.back.past=s.past.dropLast:=by
 unfold PS.back
 split
 ·rename_i h
  rw [List.getLast?_eq_none_iff.1 h];rfl
 ·rfl
theorem k0c (s:PS):s.back.t.length≤s.t.length+1:=by
 unfold PS.back
 split
 ·exact Nat.le_succ _
 ·exact e0a _ _ _ _
theorem e0u:∀ (n:Nat) (s:PS),(PS.backs n s).past.length=s.past.length - n
 | 0,_=>rfl
 | n+1,s=>by rw [PS.backs,e0u n s.back,n0y,List.length_dropLast];omega
theorem c0O:∀ (n:Nat) (s:PS),(PS.backs n s).t.length≤s.t.length+n
 | 0,_=>Nat.le_refl _
 | n+1,s=>by rw [PS.backs];have:=c0O n s.back;have:=k0c s;omega
theorem c0X {w:World} {g:Nat} {s:PS} {F:List Nat} (h:St w g s F) (htl:s.t.length+s.past.length < 1099511627776) (m:Int) :
  Calls Tryz.prog 85 #[.pointer (some ⟨g,0,none⟩),.int .i64 m] w (StRet w g F (s.undo m) (.bool (undoE s m))):=by
 have HST:=hh h;obtain ⟨bm,vb,vp,zs,h,hF⟩:=h;obtain ⟨ad,cap,hvp,h1,h2⟩:=h.past.shape;obtain ⟨n,hn⟩:=nm (s.past.length);rw [← hn] at hvp h1 htl;subst hvp;have c3:w.cell? ⟨g,3,none⟩=some (.slice ad n cap):=Lib.cell_of_heap h.bk.head 3;have HH:=hh h.bk.head;have HN:=hh hn;have HTL:=hh htl;clear h hF
 by_cases hm:0≤m∧m≤n
 ·obtain ⟨hm0,hm1⟩:=hm;have hE:undoE s m=true:=by unfold undoE;rw [← hn];simp;omega
  have hU:s.undo m=PS.backs (n - m.toNat) s:=by unfold PS.undo;rw [hE,if_pos rfl,← hn]
  rw [hE,hU];obtain ⟨k,rfl⟩:=Int.eq_ofNat_of_zero_le hm0;rw [Int.toNat_natCast];have hkn:k≤n:=by omega
  have j0:decide ((k:Int) < 0)=false:=by simp
  have j1:¬ n < k:=by omega
  clear hE hU hm0 hm1 hn
  go_enter Tryz.func85,Tryz.ntmps85
  go_wp2_with fail;refine (b0M g _ _ _ HH.out rfl).mono ?_;rintro e w1 ⟨rfl,rfl⟩;go_wp2_with fail;clear j0 j1
  go_loopw [5] (fun _ wr=>∃ j F',j≤n - k∧Hid (St wr g (PS.backs j s) F')∧Hid (Keep (·∈F) w wr)∧Hid (∀ x∈F',x∈F∨w.heap.size≤x)) (fun _ wr=>pastLen wr g - k)
  case atStart=>exact ⟨0,F,Nat.zero_le _,HST,hh (Keep.refl _ _),hh fun x hx=>.inl hx⟩
  case round=>
   obtain ⟨j,F',hj,HS,HK,HF⟩:=hrel;obtain ⟨s',hs'⟩:∃ s',s'=PS.backs j s:=⟨_,rfl⟩;rw [← hs'] at HS;have hpl:s'.past.length=n - j:=by rw [hs',e0u,← HN.out]
   have htl:s'.t.length < 1099511627776:=by have h3:=c0O j s;rw [← hs'] at h3;have:=HTL.out;omega
   obtain ⟨bm',vb',vp',zs',h',hF'⟩:=HS.out;have hmeas:pastLen wr g=s'.past.length:=g0Z HS.out;obtain ⟨ad',cap',hvp',e1,e2⟩:=h'.past.shape;obtain ⟨q,hq⟩:=nm (s'.past.length);rw [← hq] at hvp' e1 hpl hmeas;have HB:=hh hs';have HT:=hh htl;have HQ:=hh hq;have HME:=hh hmeas;have HF':=hh hF';have HPL:=hh hpl;subst hvp';have H':=hh h';have c3':wr.cell? ⟨g,3,none⟩=some (.slice ad' q cap'):=Lib.cell_of_heap h'.bk.head 3;clear hs' htl hq hmeas hF' h' c3 hpl
   by_cases hlt:k < q
   ·obtain ⟨l,rfl⟩:∃ l,q=l+1:=⟨q - 1,by omega⟩;have hne:s'.past≠[]:=by intro e;have:=HQ.out;rw [e] at this;simp at this
    obtain ⟨init,r,hir⟩:∃ init r,s'.past=init ++ [r]:=⟨_,_,(List.dropLast_concat_getLast hne).symm⟩;have hil:init.length=l:=by have:=HQ.out;rw [hir,List.length_append] at this;simp at this;omega
    obtain ⟨gp,cap2,cur,hv2,hgp,d1,d2,d3,d4⟩:=H'.out.past.opened hne;have hadc:ad'=some ⟨gp,0,none⟩∧cap'=cap2:=⟨(Value.slice.inj hv2).1,(Value.slice.inj hv2).2.2⟩;obtain ⟨rfl,rfl⟩:=hadc;have hcell:∀ i,i < 3→wr.cell? ⟨gp,l*3+i,none⟩=(wasE r)[i]?:=by
     intro i hi;obtain ⟨ax,cx,e3,_,_,h3⟩:=H'.out.past.rd b0w;obtain ⟨b,off,e4,_,h5⟩:=h3 hne;have e5:=(Value.slice.inj e3).1.trans e4;simp only [Option.some.injEq,Addr.mk.injEq] at e5;obtain ⟨rfl,rfl,_⟩:=e5;have h6:=h5 l (by have:=HQ.out;omega) i hi;have h7:s'.past[l]'(by have:=HQ.out;omega)=r:=by
      have:s'.past[l]? = some r:=by rw [hir,List.getElem?_append_right (by omega),hil];simp
      rw [List.getElem?_eq_getElem (by have:=HQ.out;omega)] at this
      exact Option.some.inj this
     rw [h7,Nat.zero_add] at h6
     exact h6
    have q0:wr.cell? ⟨gp,l*3,none⟩=some (.string (bs r.1)):=hcell 0 (by omega);have q1:wr.cell? ⟨gp,l*3+1,none⟩=some (.string (bs r.2.1)):=hcell 1 (by omega);have q2:wr.cell? ⟨gp,l*3+2,none⟩=some (.bool r.2.2):=hcell 2 (by omega);have HIR:=hh hir;have HIL:=hh hil;have hcm:((l+1:Nat):Int)=(l:Int)+1:=by omega
    have hl40:l < 1099511627776:=by have:=HTL.out;have:=HPL.out;omega
    clear hcell hir hil hv2 hgp d1 d2 d3 d4 hne
    go_wp2_with (refine sA _ Tryz.zeroWas ?_)
    intro R w1 h1
    go_wp2_with (refine a0a (t:=241) (old:=#[.string (bs []),.string (bs []),.bool false]) rfl 241 _ _ rfl R #[.string (bs r.1),.string (bs r.2.1),.bool r.2.2] rfl rfl h1.out.cells Tryz.sizeWas rfl (by simp [Value.oneCell']) ?_)
    intro w2 h2' k12 z12;have hb12:Below wr.heap.size wr w2:=h1.out.below.trans (k12.below (B:=wr.heap.size) (fun x hx e=>by have:=h1.out.eq;omega) h1.out.below.size);have hR:R=wr.heap.size:=h1.out.eq;have H2:=hh (H'.out.keep (Keep.of_below (S:=fun _=>False) hb12) fun _ _=>id);have HW2:=hh h2';have HB12:=hh hb12;have HR:=hh hR;clear h2' k12 z12 hb12 hR h1 q0 q1 q2 c3';have c3':w2.cell? ⟨g,3,none⟩=some (.slice (some ⟨gp,0,none⟩) (l+1) cap'):=Lib.cell_of_heap H2.out.bk.head 3;have hlc:(l:Int)≤(cap':Int):=by omega
    have hlc2:(l:Int)≤(l:Int)+1:=by omega
    go_wp2_with (refine a0h rfl 39 _ _ rfl g 3 _ rfl rfl rfl rfl 41 _ H2.out.bk.head (by kernel_rfl) (by simp) _ rfl ?_)
    intro w3 h3 k23 z23;have hcut:LO w2 241 wasE 3 (.slice (some ⟨gp,0,none⟩) l l) init:=by
     have h4:=H2.out.past.cut b0w l l (by omega) (Nat.le_refl _) (by omega);rw [HIR.out,List.take_left' HIL.out] at h4
     exact h4
    have hcl:=d0e (w:=wr) (w2:=w2) (w4:=w2) (vp':=.slice (some ⟨gp,0,none⟩) l l) (p':=init) (t':=s'.t) H'.out H2.out (Keep.of_below HB12.out) (fun x hx=>.inl hx) hcut (Keep.refl _ _) (.inl rfl) h3 k23;have hr3:w3.heap[R]? = some (.cells #[.string (bs r.1),.string (bs r.2.1),.bool r.2.2] 241 (0,0)):=k23.at HW2.out (by have:=HR.out;have:=a0b H'.out.bk.head;omega);have HC3:=hh hcl;have HR3:=hh hr3;clear h3 k23 z23 hcut hcl hr3 c3' hlc hlc2;have r0:w3.cell? ⟨R,0,none⟩=some (.string (bs r.1)):=Lib.cell_of_heap HR3.out 0;have r1:w3.cell? ⟨R,1,none⟩=some (.string (bs r.2.1)):=Lib.cell_of_heap HR3.out 1;have r2:w3.cell? ⟨R,2,none⟩=some (.bool r.2.2):=Lib.cell_of_heap HR3.out 2;go_wp2_with fail;refine (h0z HC3.out.1 HT.out r.1 r.2.1 r.2.2).mono ?_;rintro e w6 ⟨rfl,vb6,zs6,h6,k36,hf6⟩;have hback:s'.back=⟨layP s'.t r.1 r.2.1 r.2.2,init⟩:=by
     unfold PS.back
     rw [HIR.out,List.getLast?_append]
     simp
    have hst6:St w6 g (PS.backs (j+1) s) (foot g bm' vb6 (.slice (some ⟨gp,0,none⟩) l l) zs6):=by
     rw [e0v,← HB.out,hback]
     exact ⟨_,_,_,_,h6,rfl⟩
    have hk6:Keep (·∈F) w w6:=by
     have a1:Keep (·∈F) w w3:=HK.out.then HC3.out.2.1 fun x hx=>HF.out x (by rw [HF'.out];exact hx)
     refine a1.then k36 fun x hx=>?_
     have hx3:x∈foot g bm' vb' (.slice (some ⟨gp,0,none⟩) l l) zs':=by
      rw [e0l]
      rcases hx with h | h | h
      ·exact .inl h
      ·exact .inr (.inl h)
      ·exact .inr (.inr (.inr h))
     rcases HC3.out.2.2 x hx3 with h | h
     ·exact HF.out x (by rw [HF'.out];exact h)
     ·exact .inr (Nat.le_trans HK.out.size h)
    have hf7:∀ x∈foot g bm' vb6 (.slice (some ⟨gp,0,none⟩) l l) zs6,x∈F∨w.heap.size≤x:=by
     intro x hx;have hx3:x∈foot g bm' vb' (.slice (some ⟨gp,0,none⟩) l l) zs'∨w3.heap.size≤x:=by
      rw [e0l] at hx ⊢
      rcases hx with h | h | h | h
      ·exact .inl (.inl h)
      ·exact .inl (.inr (.inl h))
      ·exact .inl (.inr (.inr (.inl h)))
      ·rcases hf6 x h with h | h
       ·exact .inl (.inr (.inr (.inr h)))
       ·exact .inr h
     rcases hx3 with hx3 | hx3
     ·rcases HC3.out.2.2 x hx3 with h | h
      ·exact HF.out x (by rw [HF'.out];exact h)
      ·exact .inr (Nat.le_trans HK.out.size h)
     ·exact .inr (Nat.le_trans HK.out.size (Nat.le_trans HC3.out.2.1.size hx3))
    have hme:pastLen w6 g=l:=by rw [g0Z ⟨_,_,_,_,h6,rfl⟩];exact HIL.out
    have S6:=hh hst6;have K6:=hh hk6;have F6:=hh hf7;have M6:=hh hme;clear h6 k36 hf6 hback hst6 hk6 hf7 hme r0 r1 r2;go_wp2_with fail
    go_roundw
    case rel=>exact ⟨j+1,_,by have:=HPL.out;omega,S6,K6,F6⟩
    case measure=>rw [M6.out,HME.out];omega
   ·go_wp2_with fail
    go_ret
    have hjn:n - k=j:=by have:=HPL.out;omega
    refine ⟨rfl,F',?_,HK.out,HF.out⟩;rw [hjn,← HB.out]
    exact HS.out
 ·have hE:undoE s m=false:=by unfold undoE;rw [← hn];simp;omega
  have hU:s.undo m=s:=by unfold PS.undo;rw [hE,if_neg (by simp)]
  rw [hE,hU];clear hE hU hn
  by_cases hm0:m < 0
  ·have j0:decide (m < 0)=true:=by simpa using hm0
   go_enter Tryz.func85,Tryz.ntmps85
   go_wp2_with fail;refine (b0M g _ _ _ HH.out rfl).mono ?_;rintro e w1 ⟨rfl,rfl⟩;go_wp2_with fail
   go_ret
   exact ⟨rfl,_,HST.out,Keep.refl _ _,fun x hx=>.inl hx⟩
  ·have j0:decide (m < 0)=false:=by simpa using hm0
   have j1:decide (m > (n:Int))=true:=by simp;omega
   go_enter Tryz.func85,Tryz.ntmps85
   go_wp2_with fail;refine (b0M g _ _ _ HH.out rfl).mono ?_;rintro e w1 ⟨rfl,rfl⟩;go_wp2_with fail
   go_ret
   exact ⟨rfl,_,HST.out,Keep.refl _ _,fun x hx=>.inl hx⟩
end
end Go.Proofs.YtakkfabaeolbdaaGreat
