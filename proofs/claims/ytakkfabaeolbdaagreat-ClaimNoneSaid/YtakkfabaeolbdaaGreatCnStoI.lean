/- slices.Insert as a store calls it: no condition. -/
import Derived.Test.YtakkfabaeolbdaaGreatCn4
import Derived.Shelf.Spec.SlicesInsertGrow
import Derived.Test.YtakkfabaeolbdaaGreatCnReg
namespace Go.Proofs.YtakkfabaeolbdaaGreat
set_option maxHeartbeats 4000000
set_option maxRecDepth 100000
open Go.RowKit

def InsRet (w:World) (e:TypeId) (v:Value) (us:List Value) (x:Ending) (w':World):Prop:=∃ v',x = .returned v'∧LO w' e vE 1 v' us∧Keep (fun k=>v.ownBlock=some k) w w'∧MovedO w v v'
theorem a0W (us:List Value):us.flatMap vE=us:=by
 induction us with
 | nil=>rfl
 | cons u us ih=>rw [List.flatMap_cons,ih];rfl
theorem c0B {P:Program} {o:Oper} {a:Act} {K:Act→World→Prop} {Q:Exit→Act→World→Prop} {w:World} (d x:Operand) (dT sT:TypeId) (hop:o.op = .call { callee:=.builtin .copy,args:=#[d,x],argTypes:=#[dT,sT] })
  (v u:Value) (hd:a.eval d=v) (hx:a.eval x=u) {v':Value} {w':World} (hr:(Builtin.copy_ #[dT,sT] o.type #[v,u]).run P w = .ok v' w') (hK:K (a.put o.dst v') w'):o.wp P a w K Q:=by
 unfold Oper.wp
 simp [execOp,hop,resolve,invoke,builtin,hd,hx,hr,Result.andThen]
 exact hK
theorem l0M {cur us:List Value} {n i:Nat} (y:Value) (hc:cur.take n=us) (hn:n=us.length) (hi:i < n) (hl:n+1≤cur.length) (new:List Value) (hnew:new=cur.take (i+1) ++ us.drop i ++ cur.drop (i+1+(us.drop i).length)) :
  (new.take i ++ ([y] ++ new.drop (i+1))).take (n+1)=us.take i ++ y :: us.drop i:=by
 have h1:new.take i=us.take i:=by
  rw [hnew,List.append_assoc,List.take_append_of_le_length (by rw [List.length_take];omega),List.take_take,← hc,List.take_take]
  congr 1
  omega
 have h2:new.drop (i+1)=us.drop i ++ cur.drop (i+1+(us.drop i).length):=by
  rw [hnew,List.append_assoc]
  exact List.drop_left' (by rw [List.length_take];omega)
 rw [h1,h2];have h3:us.take i ++ ([y] ++ (us.drop i ++ cur.drop (i+1+(us.drop i).length)))=(us.take i ++ y :: us.drop i) ++ cur.drop (i+1+(us.drop i).length):=by simp
 rw [h3]
 exact List.take_left' (by rw [List.length_append,List.length_cons,List.length_take,List.length_drop];omega)
theorem i0Z {row us:List Value} {i:Nat} (y:Value) (h:row.take i=us.take i) (hi:i < us.length) (new:List Value) (hnew:new=row.take i ++ ([y] ++ row.drop (i+1))) :
  (new.take (i+1) ++ us.drop i ++ new.drop (i+1+(us.drop i).length)).take (us.length+1)=us.take i ++ y :: us.drop i:=by
 have h1:new.take (i+1)=us.take i ++ [y]:=by
  rw [hnew,h,← List.append_assoc]
  exact List.take_left' (by rw [List.length_append,List.length_take];simp;omega)
 rw [h1,List.append_assoc,← List.append_assoc];have h2:(us.take i ++ [y]) ++ us.drop i=us.take i ++ y :: us.drop i:=by simp
 rw [h2]
 exact List.take_left' (by rw [List.length_append,List.length_cons,List.length_take,List.length_drop];omega)
theorem r0R (us:List Value) (h:∀ u∈us,u.oneCell'=true):∀ x∈us,∀ u∈vE x,u.oneCell'=true:=fun x hx u hu=>by
 rw [List.mem_singleton.1 hu];exact h x hx

theorem Tryz.infoIS:(Tryz.prog.info? 9).map (fun i=>(i.zero,i.size,i.bytes))=some (some (.string ⟨#[]⟩),1,16):=by kernel_rfl
theorem Tryz.sizeOfIS (w:World):(Go.sizeOf 9).run Tryz.prog w = .ok 1 w:=by kernel_rfl
theorem s0L (w:World) (v:Value) (us:List Value) (h1:∀ u∈us,u.oneCell'=true) (hown:LO w 9 vE 1 v us) (i:Nat) (hi:i≤us.length) (y:Value) (hy:y.oneCell'=true) (xb:Nat) (TX:TypeId) (hx:w.heap[xb]? = some (.cells #[y] TX (0,0))) (hne:v.ownBlock≠some xb) (hlen:us.length < 1099511627776) :
  Calls Tryz.prog 230 #[v,.int .i64 i,.slice (some ⟨xb,0,none⟩) 1 1] w (InsRet w 9 v (us.take i ++ y :: us.drop i)):=by
 have hxr:Rd w vE 1 (.slice (some ⟨xb,0,none⟩) 1 1) [y]:=⟨some ⟨xb,0,none⟩,1,rfl,Nat.le_refl _,by unfold maxLen;omega,fun _=>⟨xb,0,rfl,a0b hx,fun j hj q hq=>by
  have h0:j=0:=by simpa using hj
  subst h0;have h0:q=0:=by omega
  subst h0;rw [Lib.cell_of_heap hx];rfl⟩⟩
 by_cases hin:i=us.length
 ·have hres:us.take i ++ y :: us.drop i=us ++ [y]:=by rw [hin,List.take_length,List.drop_length]
  rw [hres];obtain ⟨ad,cap,rfl,c1,c2⟩:=hown.shape;subst hin;have HO:=hh hown;have HX:=hh hxr;have hm:us.length + [y].length≤maxLen:=by unfold maxLen;simp;omega
  have hb:(us.length + [y].length)*16≤140737488355328:=by simp;omega
  obtain ⟨n,hn⟩:=nm (us.length);have HN:=hh hn;rw [← hn] at c1 hlen HO ⊢;have HB:=hh hb;have HM:=hh hm;clear hown hxr hx hne hb hm hres hi h1 hn;have HRUN:Hid (∀ (o:Oper) (a:Act) (ops:Array Oper) (rest:List Oper) (Q:Exit→Act→World→Prop) (_:o.guard=none) (s x:Operand) (_:o.op = .call { callee:=.builtin .append,args:=#[s,x],argTypes:=#[229,228] }) (_:a.eval s = .slice ad n cap) (_:a.eval x = .slice (some ⟨xb,0,none⟩) 1 1)
    (_:∀ v' w',LO w' 9 vE 1 v' (us ++ [y])→Keep (fun k=>Value.ownBlock (.slice ad n cap)=some k) w w'→MovedO w (.slice ad n cap) v'→wpList Tryz.prog ops Q rest (a.put o.dst v') w'),wpList Tryz.prog ops Q (o :: rest) a w):=by
   refine hh ?_;intro o a ops rest Q hgd s x ho hs hx h
   exact a0y (l2:=[y]) hgd s x 229 228 ho Tryz.underlying229 Tryz.underlying228 Tryz.infoIS rfl (by decide) l0E (r0R [y] (by simpa using hy)) HO.out (by rw [hs,HN.out]) _ hx HX.out HM.out HB.out (by rw [← HN.out] at *;exact h)
  cases ad with
  | none=>
   go_enter Tryz.func230,Tryz.ntmps230
   go_wp2_with (at_builtin;refine HRUN.out _ _ _ _ _ rfl _ _ rfl rfl rfl ?_)
   intro v' w' r1 r2 r3;go_wp2_with fail
   go_ret
   exact ⟨v',rfl,r1,r2,r3⟩
  | some a=>
   obtain ⟨ab,ao,asp⟩:=a;have hsp:asp=none∧ao=0:=by
    rcases HO.out with ⟨h,_⟩ | ⟨g,c,cur,h,_⟩
    ·cases h
    ·cases h;exact ⟨rfl,rfl⟩
   obtain ⟨rfl,rfl⟩:=hsp
   by_cases hcn:cap=n
   ·subst hcn
    go_enter Tryz.func230,Tryz.ntmps230
    go_wp2_with (at_builtin;refine HRUN.out _ _ _ _ _ rfl _ _ rfl rfl rfl ?_)
    intro v' w' r1 r2 r3;go_wp2_with fail
    go_ret
    exact ⟨v',rfl,r1,r2,r3⟩
   ·go_enter Tryz.func230,Tryz.ntmps230
    go_wp2_with (at_builtin;refine HRUN.out _ _ _ _ _ rfl _ _ rfl rfl rfl ?_)
    intro v' w' r1 r2 r3;go_wp2_with fail
    go_ret
    exact ⟨v',rfl,r1,r2,r3⟩
 ·have hil:i < us.length:=by omega
  obtain ⟨g,cap,cur,rfl,hg,c1,c2,c3,c4⟩:=hown.opened (by intro e;subst e;simp at hil);obtain ⟨n,hn⟩:=nm (us.length);have hcs:∀ j u,us[j]? = some u→w.cell? ⟨g,j,none⟩=some u:=by
   intro j u hj;rw [Lib.cell_of_heap hg];rw [a0W,Nat.mul_one] at c4;rw [← c4,List.getElem?_take] at hj
   split at hj
   ·simpa using hj
   ·cases hj
  rw [a0W,Nat.mul_one,← hn] at c4;rw [← hn] at c1 hil hlen hi hin ⊢;rw [Nat.mul_one] at c3;have hxb:xb≠g:=fun e=>hne (by rw [e];rfl)
  unfold maxLen at c2
  have hdl:(us.drop i).length=n - i:=by rw [List.length_drop,hn]
  have hwi:IntKind.i64.wrap ((i:Int)+1)=(i:Int)+1:=IntWalk.i64_in _ (by omega);have hwn:IntKind.i64.wrap ((n:Int)+1)=(n:Int)+1:=IntWalk.i64_in _ (by omega);have hb1:(0:Int)≤(i:Int)+1:=by omega
  have htn:((i:Int)+1).toNat=i+1:=by omega
  have hbn:(0:Int)≤(n:Int)+1:=by omega
  have htm:((n:Int)+1).toNat=n+1:=by omega
  have hib:((i:Int) == (n:Int))=false:=by simp;omega
  have hsz:(Tryz.prog.info? 9).map (·.size)=some 1:=by kernel_rfl
  by_cases hroom:n+1≤cap
  ·have hov:∀ lb cb,(callFunc 254 #[.slice (some ⟨xb,0,none⟩) 1 1,.slice (some ⟨g,i+1,none⟩) lb cb]).run Tryz.prog w = .ok (.value (.bool false)) w:=fun lb cb=>by
    rw [run_callFunc_extern Tryz.func254 (by kernel_rfl) (by kernel_rfl) (by kernel_rfl) (e:=Extern.SlicesOverlaps.overlaps #[228,228] #[4]) (by kernel_rfl),
     Lib.run_overlaps_apart w 228 4 9 Tryz.underlying228 1 Tryz.sizeOfIS ⟨xb,0,none⟩ ⟨g,i+1,none⟩ 1 1 lb cb hxb TX 9 1 cur.size (by simp [World.shape?,hx]) (by simp [World.shape?,hg]) (by omega) (Lib.frozen_of_heap hx 0) (Lib.frozen_of_heap hx 1)]
    rfl
   obtain ⟨new1,hnew1⟩:=nm ((cur.toList.take (i+1) ++ us.drop i ++ cur.toList.drop (i+1+(us.drop i).length)).toArray);have hz1:new1.size=cur.size:=by
    rw [hnew1];simp only [List.size_toArray,List.length_append,List.length_take,List.length_drop,Array.length_toList,← hn];omega
   have hcp1:∀ ty dl dc sl sc,dl=n - i→n - i≤sl→(Builtin.copy_ #[229,229] ty #[.slice (some ⟨g,i+1,none⟩) dl dc,.slice (some ⟨g,i,none⟩) sl sc]).run Tryz.prog w.drew = .ok (goInt (us.drop i).length) (w.drew.setRow g new1):=fun ty dl dc sl sc hdl2 hsl=>by
    rw [hnew1]
    exact run_copy_row (P:=Tryz.prog) w.drew 229 229 ty 9 g (i+1) dl dc ⟨g,i,none⟩ sl sc cur 9 (us.drop i) Tryz.underlying229 hsz hg (by rw [hdl];simp only [Nat.min_def];split<;>omega)
     (fun j u hj=>by rw [Addr.add_lit];exact hcs (i+j) u (by rwa [List.getElem?_drop] at hj)) (by rw [hdl];omega) (fun u hu=>h1 u (List.mem_of_mem_drop hu))
   obtain ⟨W1,hW1⟩:=nm (w.drew.setRow g new1);have hg1:W1.heap[g]? = some (.cells new1 9 (0,0)):=by rw [hW1];exact setRow_heap _ _ _ _ _ _ hg
   have hx1:W1.heap[xb]? = some (.cells #[y] TX (0,0)):=by rw [hW1,setRow_other _ _ _ _ hxb];exact hx
   have hk1:Keep (fun k=>some g=some k) w W1:=by rw [hW1];exact Keep.setRow (S:=fun k=>some g=some k) ((Keep.refl _ _).drew) (.inl rfl) _
   have hs1:W1.heap.size=w.heap.size:=by rw [hW1];exact setRow_size _ _ _
   rw [← hW1] at hcp1;have HX1:=hh hx1;have HG1:=hh hg1;have HK1:=hh hk1;have HN:=hh hn;have HNEW:=hh hnew1;have HZ1:=hh hz1;have HC3:=hh c3;have HC4:=hh c4;have HOV:=hh hov;have HCP1:=hh hcp1;have HSZ:=hh hsz;have HHS:=hh hs1;have hci:¬ cap=i:=by omega
   have hb3:(i:Int)≤(n:Int)+1:=by omega
   have hci1:¬ cap=i+1:=by omega
   clear hnew1 hz1 hW1 hg1 hx1 hk1 hn c3 c4 hov hcp1 hsz hown hxr hx hg hcs hne h1 hdl hs1
   go_enter Tryz.func230,Tryz.ntmps230
   go_wp2_with (simp only [HOV.out])
   refine a0f (fun _=>True) 8 9 (by kernel_rfl) rfl ?_;refine a0g 0 (some 69) rfl rfl (by kernel_rfl) (by kernel_rfl) (by kernel_rfl) (by kernel_rfl) (by kernel_rfl) (by kernel_rfl) (fun _ _ _ h=>h) (.inl ⟨by rfl,fun w' _=>(by go_simp;rfl)⟩) trivial ?_;go_frame;refine a0g 1 (some 70) rfl rfl (by kernel_rfl) (by kernel_rfl) (by kernel_rfl) (by kernel_rfl) (by kernel_rfl) (by kernel_rfl) (fun _ _ _ h=>h) (.inl ⟨by rfl,fun w' _=>(by go_simp;rfl)⟩) trivial ?_;go_frame;refine a0g 2 (some 71) rfl rfl (by kernel_rfl) (by kernel_rfl) (by kernel_rfl) (by kernel_rfl) (by kernel_rfl) (by kernel_rfl) (fun _ _ _ h=>h) (.inl ⟨by rfl,fun w' _=>(by go_simp;rfl)⟩) trivial ?_;go_frame;refine a0g 3 (some 72) rfl rfl (by kernel_rfl) (by kernel_rfl) (by kernel_rfl) (by kernel_rfl) (by kernel_rfl) (by kernel_rfl) (fun _ _ _ h=>h) (.inl ⟨by rfl,fun w' _=>(by go_simp;rfl)⟩) trivial ?_;go_frame;refine a0g 4 (some 73) rfl rfl (by kernel_rfl) (by kernel_rfl) (by kernel_rfl) (by kernel_rfl) (by kernel_rfl) (by kernel_rfl) (fun _ _ _ h=>h) (.inl ⟨by rfl,fun w' _=>(by go_simp;rfl)⟩) trivial ?_;go_frame;refine a0g 5 (some 74) rfl rfl (by kernel_rfl) (by kernel_rfl) (by kernel_rfl) (by kernel_rfl) (by kernel_rfl) (by kernel_rfl) (fun _ _ _ h=>h) (.inl ⟨by rfl,fun w' _=>(by go_simp;rfl)⟩) trivial ?_;go_frame
   refine a0g 6 (some 75) rfl rfl (by kernel_rfl) (by kernel_rfl) (by kernel_rfl) (by kernel_rfl) (by kernel_rfl) (by kernel_rfl) (fun _ _ _ h=>h) (.inl ⟨by rfl,fun w' _=>(by go_simp;rfl)⟩) trivial ?_;go_frame;refine a0g 7 (some 76) rfl rfl (by kernel_rfl) (by kernel_rfl) (by kernel_rfl) (by kernel_rfl) (by kernel_rfl) (by kernel_rfl) (fun _ _ _ h=>h) (.inl ⟨by rfl,fun w' _=>(by go_simp;rfl)⟩) trivial ?_;go_frame;refine t1 8 fun K hK=>?_
   simp only [gA,jB,gC];refine c0B _ _ 229 229 rfl _ _ rfl rfl (HCP1.out _ _ _ _ _ (by omega) (by omega)) ?_;refine hK _ _ (fun h=>absurd rfl h) ?_;clear hK;refine tD ?_
   go_wp2_with (refine b0b rfl _ _ 229 228 rfl 9 Tryz.underlying229 HSZ.out g i (n+1 - i) (cap - i) ⟨xb,0,none⟩ 1 1 rfl rfl new1 9 HG1.out [y] (by simp only [List.length_singleton,Nat.min_def];split<;>omega) (fun j u hj=>by
     have h0:j=0:=by have:=(List.getElem?_eq_some_iff.1 hj).1;simpa using this
     subst h0;rw [Addr.add_lit,Lib.cell_of_heap HX1.out];simpa using hj) (by rw [HZ1.out];have:=HC3.out;simp only [List.length_singleton];omega) (by simpa using hy) _ rfl 1 rfl ?_)
   intro W2 h4 k4 z4;go_wp2_with fail
   go_ret
   refine ⟨_,rfl,?_,?_,.inl rfl⟩
   ·refine LO.mk ?_ h4 hroom (by unfold maxLen;exact c2) ?_ ?_
    ·rw [List.length_append,List.length_cons,List.length_take,List.length_drop,← HN.out];omega
    ·simp only [List.size_toArray,List.length_append,List.length_cons,List.length_take,List.length_drop,Array.length_toList,HZ1.out];have:=HC3.out;omega
    ·rw [a0W,Nat.mul_one]
     exact l0M y HC4.out HN.out hil (by have:=HC3.out;rw [Array.length_toList];omega) _ (by rw [HNEW.out])
   ·exact HK1.out.then k4 (fun x e=>.inl (by rw [e]))
  ·obtain ⟨i0,hi0,hz0,hzs,hzb⟩:=info_parts Tryz.infoIS;have hkk:(n:Int)+1 - (i:Int)=((n+1 - i:Nat):Int):=by omega
   have hik:i+(n+1 - i)=n+1:=by omega
   have hold:(Builtin.firstCells i0.size i (.slice (some ⟨g,0,none⟩) i cap)).run Tryz.prog w.drew = .ok (us.take i).toArray w.drew:=by
    rw [hzs]
    exact run_firstCells_some w.drew 1 i ⟨g,0,none⟩ i cap (us.take i) (by rw [List.length_take,← hn];omega) (fun j u hj=>by
     rw [Addr.add_lit];rw [List.getElem?_take] at hj
     split at hj
     ·rw [Nat.zero_add];exact hcs j u hj
     ·cases hj)
   have hrz:∀ ty,(Builtin.append_ #[229,3] ty #[.slice (some ⟨g,0,none⟩) i cap,.int .i64 ((n:Int)+1 - (i:Int))]).run Tryz.prog w =
     .ok (.slice (some ⟨w.heap.size,0,none⟩) (n+1) (grownCap w (n+1) cap 9)) (w.drew.alloc (.cells ((us.take i).toArray ++ Builtin.zeroCells (Value.string ⟨#[]⟩).cells (n+1 - i) ++ Builtin.zeroCells (Value.string ⟨#[]⟩).cells (grownCap w (n+1) cap 9 - (n+1))) 9)):=fun ty=>by
    have h:=Lib.run_append_grow_zeros w 229 3 ty 9 i0 _ .i64 .i64 Tryz.underlying229 Tryz.underlying3 hi0 hz0 (some ⟨g,0,none⟩) i cap (us.take i) hold (n+1 - i) (by omega) (by omega) (by omega) (by omega) (by rw [hzb];omega) (by rw [hzb,hik];exact growslice_fits (by omega) (by omega));rw [hik] at h;rw [hkk]
    exact h
   obtain ⟨G,hG⟩:=nm (grownCap w (n+1) cap 9);obtain ⟨ROW,hROW⟩:∃ ROW:Array Value,ROW=(us.take i).toArray ++ Builtin.zeroCells (Value.string ⟨#[]⟩).cells (n+1 - i) ++ Builtin.zeroCells (Value.string ⟨#[]⟩).cells (G - (n+1)):=⟨_,rfl⟩;have hGn:n+1≤G:=by rw [hG];exact grownCap_ge w _ _ _
   have hG63:G≤9223372036854775807:=by
    have:=grownCap_le_maxLen w (n+1) cap 9 (by unfold maxLen;omega);rw [← hG] at this
    unfold maxLen at this
    omega
   rw [← hG,← hROW] at hrz;have hRz:ROW.size=G:=by
    rw [hROW]
    simp [Builtin.zeroCells,Value.cells]
    omega
   have hRt:ROW.toList.take i=us.take i:=by
    rw [hROW,Array.toList_append,Array.toList_append,List.append_assoc]
    exact List.take_left' (by simp;omega)
   obtain ⟨W1,hW1⟩:=nm (w.drew.alloc (.cells ROW 9));rw [← hW1] at hrz;obtain ⟨D,hD⟩:=nm (w.heap.size);rw [← hD] at hrz;have hb01:Below w.heap.size w W1:=by rw [hW1];exact ((Below.refl _ _).drew).alloc (Nat.le_refl _) _
   have hg1:W1.heap[D]? = some (.cells ROW 9 (0,0)):=by rw [hW1,hD];exact heap_alloc_new w.drew _
   have hx1:W1.heap[xb]? = some (.cells #[y] TX (0,0)):=(hb01.block xb (a0b hx)).trans hx;have hD2:g < D∧xb < D:=by rw [hD];exact ⟨a0b hg,a0b hx⟩
   have hgg1:W1.heap[g]? = some (.cells cur 9 (0,0)):=(hb01.block g (a0b hg)).trans hg;have HX1:=hh hx1;have HG1:=hh hg1;have HGG1:=hh hgg1;have HB01:=hh hb01;have HRZ:=hh hRz;have HRT:=hh hRt;have HN:=hh hn;have HC3:=hh c3;have HC4:=hh c4;have HRUN:=hh hrz;have HSZ:=hh hsz;have HDD:=hh hD;have H1:=hh h1;have HDL:=hh hdl;have HW:=hh hG63;have hnc:(cap:Int) < (n:Int)+1:=by omega
   have hci:¬ cap=i:=by omega
   have hGi:¬ G=i:=by omega
   have hGi1:¬ G=i+1:=by omega
   clear hx1 hg1 hgg1 hb01 hRz hRt hn c3 c4 hrz hsz hown hxr hx hg hcs hne h1 hdl hold hi0 hz0 hzs hzb hkk hik hG hROW hW1 hD;have hb3:(i:Int)≤(n:Int):=by omega
   go_enter Tryz.func230,Tryz.ntmps230
   go_wp2_with (first
    | (at_builtin;refine Lib.wpList_append_run _ rfl _ _ _ _ rfl _ _ rfl rfl _ _ (HRUN.out _) ?_)
    | (refine b0b rfl _ _ 229 228 rfl 9 Tryz.underlying229 HSZ.out D i (n+1 - i) (G - i) ⟨xb,0,none⟩ 1 1 rfl rfl ROW 9 HG1.out [y] (by simp only [List.length_singleton,Nat.min_def];split<;>omega) (fun j u hj=>by
     have h0:j=0:=by have:=(List.getElem?_eq_some_iff.1 hj).1;simpa using this
     subst h0;rw [Addr.add_lit,Lib.cell_of_heap HX1.out];simpa using hj) (by rw [HRZ.out];simp only [List.length_singleton];omega) (by simpa using hy) _ rfl 1 rfl ?_))
   intro W2 h4 k4 z4;obtain ⟨ROW2,hR2⟩:∃ ROW2:Array Value,ROW2=(ROW.toList.take i ++ y :: ROW.toList.drop (i+1)).toArray:=⟨_,rfl⟩;rw [← hR2] at h4;have hz2:ROW2.size=G:=by
    rw [hR2];simp only [List.size_toArray,List.length_append,List.length_cons,List.length_take,List.length_drop,Array.length_toList,HRZ.out];omega
   have hgg2:W2.heap[g]? = some (.cells cur 9 (0,0)):=k4.at HGG1.out (by omega);obtain ⟨ROW3,hR3⟩:∃ ROW3:Array Value,ROW3=(ROW2.toList.take (i+1) ++ us.drop i ++ ROW2.toList.drop (i+1+(us.drop i).length)).toArray:=⟨_,rfl⟩;have hcs:∀ j u,us[j]? = some u→W2.cell? ⟨g,j,none⟩=some u:=by
    intro j u hj;rw [Lib.cell_of_heap hgg2];rw [← HC4.out,List.getElem?_take] at hj
    split at hj
    ·simpa using hj
    ·cases hj
   have hcp:∀ ty dl dc sl sc,dl=n - i→n - i≤sl→(Builtin.copy_ #[229,229] ty #[.slice (some ⟨D,i+1,none⟩) dl dc,.slice (some ⟨g,i,none⟩) sl sc]).run Tryz.prog W2.drew = .ok (goInt (us.drop i).length) (W2.drew.setRow D ROW3):=fun ty dl dc sl sc hdl2 hsl=>by
    rw [hR3]
    exact run_copy_row (P:=Tryz.prog) W2.drew 229 229 ty 9 D (i+1) dl dc ⟨g,i,none⟩ sl sc ROW2 9 (us.drop i) Tryz.underlying229 HSZ.out h4 (by rw [HDL.out];simp only [Nat.min_def];split<;>omega)
     (fun j u hj=>by rw [Addr.add_lit];exact hcs (i+j) u (by rwa [List.getElem?_drop] at hj)) (by rw [HDL.out,hz2];omega) (fun u hu=>H1.out u (List.mem_of_mem_drop hu))
   have hz3:ROW3.size=G:=by
    rw [hR3];simp only [List.size_toArray,List.length_append,List.length_take,HDL.out,List.length_drop,Array.length_toList,hz2];omega
   have hfin:ROW3.toList.take (n+1)=us.take i ++ y :: us.drop i:=by
    rw [hR3,hR2,HN.out]
    exact i0Z y HRT.out (by rw [← HN.out];exact hil) _ (by simp)
   obtain ⟨W3,hW3⟩:=nm (W2.drew.setRow D ROW3);have hg3:W3.heap[D]? = some (.cells ROW3 9 (0,0)):=by rw [hW3];exact setRow_heap _ _ _ _ _ _ h4
   have hk3:Keep (fun x=>x=D) W2 W3:=by rw [hW3];exact Keep.setRow (S:=fun x=>x=D) ((Keep.refl _ _).drew) (.inl rfl) _
   rw [← hW3] at hcp;have hall:Below w.heap.size w W3:=by
    have:=HDD.out
    exact (HB01.out.trans (k4.below (B:=w.heap.size) (fun q hq e=>by omega) HB01.out.size)).trans (hk3.below (B:=w.heap.size) (fun q hq e=>by omega) (Nat.le_trans HB01.out.size k4.size))
   have HCP:=hh hcp;have HG3:=hh hg3;have HALL:=hh hall;have HFIN:=hh hfin;have HZ3:=hh hz3;clear hR2 hz2 hgg2 hR3 hcs hcp hz3 hfin hW3 hg3 hk3 hall h4 k4 z4;go_wp2_with fail;refine a0f (fun _=>True) 8 9 (by kernel_rfl) rfl ?_;refine a0g 0 (some 46) rfl rfl (by kernel_rfl) (by kernel_rfl) (by kernel_rfl) (by kernel_rfl) (by kernel_rfl) (by kernel_rfl) (fun _ _ _ h=>h) (.inl ⟨by rfl,fun w' _=>(by go_simp;rfl)⟩) trivial ?_;go_frame;refine a0g 1 (some 47) rfl rfl (by kernel_rfl) (by kernel_rfl) (by kernel_rfl) (by kernel_rfl) (by kernel_rfl) (by kernel_rfl) (fun _ _ _ h=>h) (.inl ⟨by rfl,fun w' _=>(by go_simp;rfl)⟩) trivial ?_;go_frame;refine a0g 2 (some 48) rfl rfl (by kernel_rfl) (by kernel_rfl) (by kernel_rfl) (by kernel_rfl) (by kernel_rfl) (by kernel_rfl) (fun _ _ _ h=>h) (.inl ⟨by rfl,fun w' _=>(by go_simp;rfl)⟩) trivial ?_;go_frame;refine a0g 3 (some 49) rfl rfl (by kernel_rfl) (by kernel_rfl) (by kernel_rfl) (by kernel_rfl) (by kernel_rfl) (by kernel_rfl) (fun _ _ _ h=>h) (.inl ⟨by rfl,fun w' _=>(by go_simp;rfl)⟩) trivial ?_;go_frame;refine a0g 4 (some 50) rfl rfl (by kernel_rfl) (by kernel_rfl) (by kernel_rfl) (by kernel_rfl) (by kernel_rfl) (by kernel_rfl) (fun _ _ _ h=>h) (.inl ⟨by rfl,fun w' _=>(by go_simp;rfl)⟩) trivial ?_;go_frame
   refine a0g 5 (some 51) rfl rfl (by kernel_rfl) (by kernel_rfl) (by kernel_rfl) (by kernel_rfl) (by kernel_rfl) (by kernel_rfl) (fun _ _ _ h=>h) (.inl ⟨by rfl,fun w' _=>(by go_simp;rfl)⟩) trivial ?_;go_frame;refine a0g 6 (some 52) rfl rfl (by kernel_rfl) (by kernel_rfl) (by kernel_rfl) (by kernel_rfl) (by kernel_rfl) (by kernel_rfl) (fun _ _ _ h=>h) (.inl ⟨by rfl,fun w' _=>(by go_simp;rfl)⟩) trivial ?_;go_frame;refine a0g 7 (some 53) rfl rfl (by kernel_rfl) (by kernel_rfl) (by kernel_rfl) (by kernel_rfl) (by kernel_rfl) (by kernel_rfl) (fun _ _ _ h=>h) (.inl ⟨by rfl,fun w' _=>(by go_simp;rfl)⟩) trivial ?_;go_frame;refine t1 8 fun K hK=>?_
   simp only [gA,jB,gC];refine c0B _ _ 229 229 rfl _ _ rfl rfl (HCP.out _ _ _ _ _ (by omega) (by omega)) ?_;refine hK _ _ (fun h=>absurd rfl h) ?_;clear hK;refine tD ?_;go_wp2_with fail
   go_ret
   refine ⟨_,rfl,?_,Keep.of_below HALL.out,.inr ⟨D,rfl,Nat.le_of_eq HDD.out.symm⟩⟩;refine LO.mk ?_ HG3.out hGn (by unfold maxLen;exact HW.out) ?_ ?_
   ·rw [List.length_append,List.length_cons,List.length_take,List.length_drop,← HN.out];omega
   ·rw [HZ3.out,Nat.mul_one];exact Nat.le_refl _
   ·rw [a0W,Nat.mul_one];exact HFIN.out

theorem Tryz.infoIB:(Tryz.prog.info? 229).map (fun i=>(i.zero,i.size,i.bytes))=some (some (.slice none 0 0),1,24):=by kernel_rfl
theorem Tryz.sizeOfIB (w:World):(Go.sizeOf 229).run Tryz.prog w = .ok 1 w:=by kernel_rfl
theorem p0a (w:World) (v:Value) (us:List Value) (h1:∀ u∈us,u.oneCell'=true) (hown:LO w 229 vE 1 v us) (i:Nat) (hi:i≤us.length) (y:Value) (hy:y.oneCell'=true) (xb:Nat) (TX:TypeId) (hx:w.heap[xb]? = some (.cells #[y] TX (0,0))) (hne:v.ownBlock≠some xb) (hlen:us.length < 1099511627776) :
  Calls Tryz.prog 231 #[v,.int .i64 i,.slice (some ⟨xb,0,none⟩) 1 1] w (InsRet w 229 v (us.take i ++ y :: us.drop i)):=by
 have hxr:Rd w vE 1 (.slice (some ⟨xb,0,none⟩) 1 1) [y]:=⟨some ⟨xb,0,none⟩,1,rfl,Nat.le_refl _,by unfold maxLen;omega,fun _=>⟨xb,0,rfl,a0b hx,fun j hj q hq=>by
  have h0:j=0:=by simpa using hj
  subst h0;have h0:q=0:=by omega
  subst h0;rw [Lib.cell_of_heap hx];rfl⟩⟩
 by_cases hin:i=us.length
 ·have hres:us.take i ++ y :: us.drop i=us ++ [y]:=by rw [hin,List.take_length,List.drop_length]
  rw [hres];obtain ⟨ad,cap,rfl,c1,c2⟩:=hown.shape;subst hin;have HO:=hh hown;have HX:=hh hxr;have hm:us.length + [y].length≤maxLen:=by unfold maxLen;simp;omega
  have hb:(us.length + [y].length)*24≤140737488355328:=by simp;omega
  obtain ⟨n,hn⟩:=nm (us.length);have HN:=hh hn;rw [← hn] at c1 hlen HO ⊢;have HB:=hh hb;have HM:=hh hm;clear hown hxr hx hne hb hm hres hi h1 hn;have HRUN:Hid (∀ (o:Oper) (a:Act) (ops:Array Oper) (rest:List Oper) (Q:Exit→Act→World→Prop) (_:o.guard=none) (s x:Operand) (_:o.op = .call { callee:=.builtin .append,args:=#[s,x],argTypes:=#[38,38] }) (_:a.eval s = .slice ad n cap) (_:a.eval x = .slice (some ⟨xb,0,none⟩) 1 1)
    (_:∀ v' w',LO w' 229 vE 1 v' (us ++ [y])→Keep (fun k=>Value.ownBlock (.slice ad n cap)=some k) w w'→MovedO w (.slice ad n cap) v'→wpList Tryz.prog ops Q rest (a.put o.dst v') w'),wpList Tryz.prog ops Q (o :: rest) a w):=by
   refine hh ?_;intro o a ops rest Q hgd s x ho hs hx h
   exact a0y (l2:=[y]) hgd s x 38 38 ho Tryz.underlying38 Tryz.underlying38 Tryz.infoIB rfl (by decide) l0E (r0R [y] (by simpa using hy)) HO.out (by rw [hs,HN.out]) _ hx HX.out HM.out HB.out (by rw [← HN.out] at *;exact h)
  cases ad with
  | none=>
   go_enter Tryz.func231,Tryz.ntmps231
   go_wp2_with (at_builtin;refine HRUN.out _ _ _ _ _ rfl _ _ rfl rfl rfl ?_)
   intro v' w' r1 r2 r3;go_wp2_with fail
   go_ret
   exact ⟨v',rfl,r1,r2,r3⟩
  | some a=>
   obtain ⟨ab,ao,asp⟩:=a;have hsp:asp=none∧ao=0:=by
    rcases HO.out with ⟨h,_⟩ | ⟨g,c,cur,h,_⟩
    ·cases h
    ·cases h;exact ⟨rfl,rfl⟩
   obtain ⟨rfl,rfl⟩:=hsp
   by_cases hcn:cap=n
   ·subst hcn
    go_enter Tryz.func231,Tryz.ntmps231
    go_wp2_with (at_builtin;refine HRUN.out _ _ _ _ _ rfl _ _ rfl rfl rfl ?_)
    intro v' w' r1 r2 r3;go_wp2_with fail
    go_ret
    exact ⟨v',rfl,r1,r2,r3⟩
   ·go_enter Tryz.func231,Tryz.ntmps231
    go_wp2_with (at_builtin;refine HRUN.out _ _ _ _ _ rfl _ _ rfl rfl rfl ?_)
    intro v' w' r1 r2 r3;go_wp2_with fail
    go_ret
    exact ⟨v',rfl,r1,r2,r3⟩
 ·have hil:i < us.length:=by omega
  obtain ⟨g,cap,cur,rfl,hg,c1,c2,c3,c4⟩:=hown.opened (by intro e;subst e;simp at hil);obtain ⟨n,hn⟩:=nm (us.length);have hcs:∀ j u,us[j]? = some u→w.cell? ⟨g,j,none⟩=some u:=by
   intro j u hj;rw [Lib.cell_of_heap hg];rw [a0W,Nat.mul_one] at c4;rw [← c4,List.getElem?_take] at hj
   split at hj
   ·simpa using hj
   ·cases hj
  rw [a0W,Nat.mul_one,← hn] at c4;rw [← hn] at c1 hil hlen hi hin ⊢;rw [Nat.mul_one] at c3;have hxb:xb≠g:=fun e=>hne (by rw [e];rfl)
  unfold maxLen at c2
  have hdl:(us.drop i).length=n - i:=by rw [List.length_drop,hn]
  have hwi:IntKind.i64.wrap ((i:Int)+1)=(i:Int)+1:=IntWalk.i64_in _ (by omega);have hwn:IntKind.i64.wrap ((n:Int)+1)=(n:Int)+1:=IntWalk.i64_in _ (by omega);have hb1:(0:Int)≤(i:Int)+1:=by omega
  have htn:((i:Int)+1).toNat=i+1:=by omega
  have hbn:(0:Int)≤(n:Int)+1:=by omega
  have htm:((n:Int)+1).toNat=n+1:=by omega
  have hib:((i:Int) == (n:Int))=false:=by simp;omega
  have hsz:(Tryz.prog.info? 229).map (·.size)=some 1:=by kernel_rfl
  by_cases hroom:n+1≤cap
  ·have hov:∀ lb cb,(callFunc 256 #[.slice (some ⟨xb,0,none⟩) 1 1,.slice (some ⟨g,i+1,none⟩) lb cb]).run Tryz.prog w = .ok (.value (.bool false)) w:=fun lb cb=>by
    rw [run_callFunc_extern Tryz.func256 (by kernel_rfl) (by kernel_rfl) (by kernel_rfl) (e:=Extern.SlicesOverlaps.overlaps #[38,38] #[4]) (by kernel_rfl),
     Lib.run_overlaps_apart w 38 4 229 Tryz.underlying38 1 Tryz.sizeOfIB ⟨xb,0,none⟩ ⟨g,i+1,none⟩ 1 1 lb cb hxb TX 229 1 cur.size (by simp [World.shape?,hx]) (by simp [World.shape?,hg]) (by omega) (Lib.frozen_of_heap hx 0) (Lib.frozen_of_heap hx 1)]
    rfl
   obtain ⟨new1,hnew1⟩:=nm ((cur.toList.take (i+1) ++ us.drop i ++ cur.toList.drop (i+1+(us.drop i).length)).toArray);have hz1:new1.size=cur.size:=by
    rw [hnew1];simp only [List.size_toArray,List.length_append,List.length_take,List.length_drop,Array.length_toList,← hn];omega
   have hcp1:∀ ty dl dc sl sc,dl=n - i→n - i≤sl→(Builtin.copy_ #[38,38] ty #[.slice (some ⟨g,i+1,none⟩) dl dc,.slice (some ⟨g,i,none⟩) sl sc]).run Tryz.prog w.drew = .ok (goInt (us.drop i).length) (w.drew.setRow g new1):=fun ty dl dc sl sc hdl2 hsl=>by
    rw [hnew1]
    exact run_copy_row (P:=Tryz.prog) w.drew 38 38 ty 229 g (i+1) dl dc ⟨g,i,none⟩ sl sc cur 229 (us.drop i) Tryz.underlying38 hsz hg (by rw [hdl];simp only [Nat.min_def];split<;>omega)
     (fun j u hj=>by rw [Addr.add_lit];exact hcs (i+j) u (by rwa [List.getElem?_drop] at hj)) (by rw [hdl];omega) (fun u hu=>h1 u (List.mem_of_mem_drop hu))
   obtain ⟨W1,hW1⟩:=nm (w.drew.setRow g new1);have hg1:W1.heap[g]? = some (.cells new1 229 (0,0)):=by rw [hW1];exact setRow_heap _ _ _ _ _ _ hg
   have hx1:W1.heap[xb]? = some (.cells #[y] TX (0,0)):=by rw [hW1,setRow_other _ _ _ _ hxb];exact hx
   have hk1:Keep (fun k=>some g=some k) w W1:=by rw [hW1];exact Keep.setRow (S:=fun k=>some g=some k) ((Keep.refl _ _).drew) (.inl rfl) _
   have hs1:W1.heap.size=w.heap.size:=by rw [hW1];exact setRow_size _ _ _
   rw [← hW1] at hcp1;have HX1:=hh hx1;have HG1:=hh hg1;have HK1:=hh hk1;have HN:=hh hn;have HNEW:=hh hnew1;have HZ1:=hh hz1;have HC3:=hh c3;have HC4:=hh c4;have HOV:=hh hov;have HCP1:=hh hcp1;have HSZ:=hh hsz;have HHS:=hh hs1;have hci:¬ cap=i:=by omega
   have hb3:(i:Int)≤(n:Int)+1:=by omega
   have hci1:¬ cap=i+1:=by omega
   clear hnew1 hz1 hW1 hg1 hx1 hk1 hn c3 c4 hov hcp1 hsz hown hxr hx hg hcs hne h1 hdl hs1
   go_enter Tryz.func231,Tryz.ntmps231
   go_wp2_with (simp only [HOV.out])
   refine a0f (fun _=>True) 8 9 (by kernel_rfl) rfl ?_;refine a0g 0 (some 69) rfl rfl (by kernel_rfl) (by kernel_rfl) (by kernel_rfl) (by kernel_rfl) (by kernel_rfl) (by kernel_rfl) (fun _ _ _ h=>h) (.inl ⟨by rfl,fun w' _=>(by go_simp;rfl)⟩) trivial ?_;go_frame;refine a0g 1 (some 70) rfl rfl (by kernel_rfl) (by kernel_rfl) (by kernel_rfl) (by kernel_rfl) (by kernel_rfl) (by kernel_rfl) (fun _ _ _ h=>h) (.inl ⟨by rfl,fun w' _=>(by go_simp;rfl)⟩) trivial ?_;go_frame;refine a0g 2 (some 71) rfl rfl (by kernel_rfl) (by kernel_rfl) (by kernel_rfl) (by kernel_rfl) (by kernel_rfl) (by kernel_rfl) (fun _ _ _ h=>h) (.inl ⟨by rfl,fun w' _=>(by go_simp;rfl)⟩) trivial ?_;go_frame;refine a0g 3 (some 72) rfl rfl (by kernel_rfl) (by kernel_rfl) (by kernel_rfl) (by kernel_rfl) (by kernel_rfl) (by kernel_rfl) (fun _ _ _ h=>h) (.inl ⟨by rfl,fun w' _=>(by go_simp;rfl)⟩) trivial ?_;go_frame;refine a0g 4 (some 73) rfl rfl (by kernel_rfl) (by kernel_rfl) (by kernel_rfl) (by kernel_rfl) (by kernel_rfl) (by kernel_rfl) (fun _ _ _ h=>h) (.inl ⟨by rfl,fun w' _=>(by go_simp;rfl)⟩) trivial ?_;go_frame;refine a0g 5 (some 74) rfl rfl (by kernel_rfl) (by kernel_rfl) (by kernel_rfl) (by kernel_rfl) (by kernel_rfl) (by kernel_rfl) (fun _ _ _ h=>h) (.inl ⟨by rfl,fun w' _=>(by go_simp;rfl)⟩) trivial ?_;go_frame
   refine a0g 6 (some 75) rfl rfl (by kernel_rfl) (by kernel_rfl) (by kernel_rfl) (by kernel_rfl) (by kernel_rfl) (by kernel_rfl) (fun _ _ _ h=>h) (.inl ⟨by rfl,fun w' _=>(by go_simp;rfl)⟩) trivial ?_;go_frame;refine a0g 7 (some 76) rfl rfl (by kernel_rfl) (by kernel_rfl) (by kernel_rfl) (by kernel_rfl) (by kernel_rfl) (by kernel_rfl) (fun _ _ _ h=>h) (.inl ⟨by rfl,fun w' _=>(by go_simp;rfl)⟩) trivial ?_;go_frame;refine t1 8 fun K hK=>?_
   simp only [gA,jB,gC];refine c0B _ _ 38 38 rfl _ _ rfl rfl (HCP1.out _ _ _ _ _ (by omega) (by omega)) ?_;refine hK _ _ (fun h=>absurd rfl h) ?_;clear hK;refine tD ?_
   go_wp2_with (refine b0b rfl _ _ 38 38 rfl 229 Tryz.underlying38 HSZ.out g i (n+1 - i) (cap - i) ⟨xb,0,none⟩ 1 1 rfl rfl new1 229 HG1.out [y] (by simp only [List.length_singleton,Nat.min_def];split<;>omega) (fun j u hj=>by
     have h0:j=0:=by have:=(List.getElem?_eq_some_iff.1 hj).1;simpa using this
     subst h0;rw [Addr.add_lit,Lib.cell_of_heap HX1.out];simpa using hj) (by rw [HZ1.out];have:=HC3.out;simp only [List.length_singleton];omega) (by simpa using hy) _ rfl 1 rfl ?_)
   intro W2 h4 k4 z4;go_wp2_with fail
   go_ret
   refine ⟨_,rfl,?_,?_,.inl rfl⟩
   ·refine LO.mk ?_ h4 hroom (by unfold maxLen;exact c2) ?_ ?_
    ·rw [List.length_append,List.length_cons,List.length_take,List.length_drop,← HN.out];omega
    ·simp only [List.size_toArray,List.length_append,List.length_cons,List.length_take,List.length_drop,Array.length_toList,HZ1.out];have:=HC3.out;omega
    ·rw [a0W,Nat.mul_one]
     exact l0M y HC4.out HN.out hil (by have:=HC3.out;rw [Array.length_toList];omega) _ (by rw [HNEW.out])
   ·exact HK1.out.then k4 (fun x e=>.inl (by rw [e]))
  ·obtain ⟨i0,hi0,hz0,hzs,hzb⟩:=info_parts Tryz.infoIB;have hkk:(n:Int)+1 - (i:Int)=((n+1 - i:Nat):Int):=by omega
   have hik:i+(n+1 - i)=n+1:=by omega
   have hold:(Builtin.firstCells i0.size i (.slice (some ⟨g,0,none⟩) i cap)).run Tryz.prog w.drew = .ok (us.take i).toArray w.drew:=by
    rw [hzs]
    exact run_firstCells_some w.drew 1 i ⟨g,0,none⟩ i cap (us.take i) (by rw [List.length_take,← hn];omega) (fun j u hj=>by
     rw [Addr.add_lit];rw [List.getElem?_take] at hj
     split at hj
     ·rw [Nat.zero_add];exact hcs j u hj
     ·cases hj)
   have hrz:∀ ty,(Builtin.append_ #[38,3] ty #[.slice (some ⟨g,0,none⟩) i cap,.int .i64 ((n:Int)+1 - (i:Int))]).run Tryz.prog w =
     .ok (.slice (some ⟨w.heap.size,0,none⟩) (n+1) (grownCap w (n+1) cap 229)) (w.drew.alloc (.cells ((us.take i).toArray ++ Builtin.zeroCells (Value.slice none 0 0).cells (n+1 - i) ++ Builtin.zeroCells (Value.slice none 0 0).cells (grownCap w (n+1) cap 229 - (n+1))) 229)):=fun ty=>by
    have h:=Lib.run_append_grow_zeros w 38 3 ty 229 i0 _ .i64 .i64 Tryz.underlying38 Tryz.underlying3 hi0 hz0 (some ⟨g,0,none⟩) i cap (us.take i) hold (n+1 - i) (by omega) (by omega) (by omega) (by omega) (by rw [hzb];omega) (by rw [hzb,hik];exact growslice_fits (by omega) (by omega));rw [hik] at h;rw [hkk]
    exact h
   obtain ⟨G,hG⟩:=nm (grownCap w (n+1) cap 229);obtain ⟨ROW,hROW⟩:∃ ROW:Array Value,ROW=(us.take i).toArray ++ Builtin.zeroCells (Value.slice none 0 0).cells (n+1 - i) ++ Builtin.zeroCells (Value.slice none 0 0).cells (G - (n+1)):=⟨_,rfl⟩;have hGn:n+1≤G:=by rw [hG];exact grownCap_ge w _ _ _
   have hG63:G≤9223372036854775807:=by
    have:=grownCap_le_maxLen w (n+1) cap 229 (by unfold maxLen;omega);rw [← hG] at this
    unfold maxLen at this
    omega
   rw [← hG,← hROW] at hrz;have hRz:ROW.size=G:=by
    rw [hROW]
    simp [Builtin.zeroCells,Value.cells]
    omega
   have hRt:ROW.toList.take i=us.take i:=by
    rw [hROW,Array.toList_append,Array.toList_append,List.append_assoc]
    exact List.take_left' (by simp;omega)
   obtain ⟨W1,hW1⟩:=nm (w.drew.alloc (.cells ROW 229));rw [← hW1] at hrz;obtain ⟨D,hD⟩:=nm (w.heap.size);rw [← hD] at hrz;have hb01:Below w.heap.size w W1:=by rw [hW1];exact ((Below.refl _ _).drew).alloc (Nat.le_refl _) _
   have hg1:W1.heap[D]? = some (.cells ROW 229 (0,0)):=by rw [hW1,hD];exact heap_alloc_new w.drew _
   have hx1:W1.heap[xb]? = some (.cells #[y] TX (0,0)):=(hb01.block xb (a0b hx)).trans hx;have hD2:g < D∧xb < D:=by rw [hD];exact ⟨a0b hg,a0b hx⟩
   have hgg1:W1.heap[g]? = some (.cells cur 229 (0,0)):=(hb01.block g (a0b hg)).trans hg;have HX1:=hh hx1;have HG1:=hh hg1;have HGG1:=hh hgg1;have HB01:=hh hb01;have HRZ:=hh hRz;have HRT:=hh hRt;have HN:=hh hn;have HC3:=hh c3;have HC4:=hh c4;have HRUN:=hh hrz;have HSZ:=hh hsz;have HDD:=hh hD;have H1:=hh h1;have HDL:=hh hdl;have HW:=hh hG63;have hnc:(cap:Int) < (n:Int)+1:=by omega
   have hci:¬ cap=i:=by omega
   have hGi:¬ G=i:=by omega
   have hGi1:¬ G=i+1:=by omega
   clear hx1 hg1 hgg1 hb01 hRz hRt hn c3 c4 hrz hsz hown hxr hx hg hcs hne h1 hdl hold hi0 hz0 hzs hzb hkk hik hG hROW hW1 hD;have hb3:(i:Int)≤(n:Int):=by omega
   go_enter Tryz.func231,Tryz.ntmps231
   go_wp2_with (first
    | (at_builtin;refine Lib.wpList_append_run _ rfl _ _ _ _ rfl _ _ rfl rfl _ _ (HRUN.out _) ?_)
    | (refine b0b rfl _ _ 38 38 rfl 229 Tryz.underlying38 HSZ.out D i (n+1 - i) (G - i) ⟨xb,0,none⟩ 1 1 rfl rfl ROW 229 HG1.out [y] (by simp only [List.length_singleton,Nat.min_def];split<;>omega) (fun j u hj=>by
     have h0:j=0:=by have:=(List.getElem?_eq_some_iff.1 hj).1;simpa using this
     subst h0;rw [Addr.add_lit,Lib.cell_of_heap HX1.out];simpa using hj) (by rw [HRZ.out];simp only [List.length_singleton];omega) (by simpa using hy) _ rfl 1 rfl ?_))
   intro W2 h4 k4 z4;obtain ⟨ROW2,hR2⟩:∃ ROW2:Array Value,ROW2=(ROW.toList.take i ++ y :: ROW.toList.drop (i+1)).toArray:=⟨_,rfl⟩;rw [← hR2] at h4;have hz2:ROW2.size=G:=by
    rw [hR2];simp only [List.size_toArray,List.length_append,List.length_cons,List.length_take,List.length_drop,Array.length_toList,HRZ.out];omega
   have hgg2:W2.heap[g]? = some (.cells cur 229 (0,0)):=k4.at HGG1.out (by omega);obtain ⟨ROW3,hR3⟩:∃ ROW3:Array Value,ROW3=(ROW2.toList.take (i+1) ++ us.drop i ++ ROW2.toList.drop (i+1+(us.drop i).length)).toArray:=⟨_,rfl⟩;have hcs:∀ j u,us[j]? = some u→W2.cell? ⟨g,j,none⟩=some u:=by
    intro j u hj;rw [Lib.cell_of_heap hgg2];rw [← HC4.out,List.getElem?_take] at hj
    split at hj
    ·simpa using hj
    ·cases hj
   have hcp:∀ ty dl dc sl sc,dl=n - i→n - i≤sl→(Builtin.copy_ #[38,38] ty #[.slice (some ⟨D,i+1,none⟩) dl dc,.slice (some ⟨g,i,none⟩) sl sc]).run Tryz.prog W2.drew = .ok (goInt (us.drop i).length) (W2.drew.setRow D ROW3):=fun ty dl dc sl sc hdl2 hsl=>by
    rw [hR3]
    exact run_copy_row (P:=Tryz.prog) W2.drew 38 38 ty 229 D (i+1) dl dc ⟨g,i,none⟩ sl sc ROW2 229 (us.drop i) Tryz.underlying38 HSZ.out h4 (by rw [HDL.out];simp only [Nat.min_def];split<;>omega)
     (fun j u hj=>by rw [Addr.add_lit];exact hcs (i+j) u (by rwa [List.getElem?_drop] at hj)) (by rw [HDL.out,hz2];omega) (fun u hu=>H1.out u (List.mem_of_mem_drop hu))
   have hz3:ROW3.size=G:=by
    rw [hR3];simp only [List.size_toArray,List.length_append,List.length_take,HDL.out,List.length_drop,Array.length_toList,hz2];omega
   have hfin:ROW3.toList.take (n+1)=us.take i ++ y :: us.drop i:=by
    rw [hR3,hR2,HN.out]
    exact i0Z y HRT.out (by rw [← HN.out];exact hil) _ (by simp)
   obtain ⟨W3,hW3⟩:=nm (W2.drew.setRow D ROW3);have hg3:W3.heap[D]? = some (.cells ROW3 229 (0,0)):=by rw [hW3];exact setRow_heap _ _ _ _ _ _ h4
   have hk3:Keep (fun x=>x=D) W2 W3:=by rw [hW3];exact Keep.setRow (S:=fun x=>x=D) ((Keep.refl _ _).drew) (.inl rfl) _
   rw [← hW3] at hcp;have hall:Below w.heap.size w W3:=by
    have:=HDD.out
    exact (HB01.out.trans (k4.below (B:=w.heap.size) (fun q hq e=>by omega) HB01.out.size)).trans (hk3.below (B:=w.heap.size) (fun q hq e=>by omega) (Nat.le_trans HB01.out.size k4.size))
   have HCP:=hh hcp;have HG3:=hh hg3;have HALL:=hh hall;have HFIN:=hh hfin;have HZ3:=hh hz3;clear hR2 hz2 hgg2 hR3 hcs hcp hz3 hfin hW3 hg3 hk3 hall h4 k4 z4;go_wp2_with fail;refine a0f (fun _=>True) 8 9 (by kernel_rfl) rfl ?_;refine a0g 0 (some 46) rfl rfl (by kernel_rfl) (by kernel_rfl) (by kernel_rfl) (by kernel_rfl) (by kernel_rfl) (by kernel_rfl) (fun _ _ _ h=>h) (.inl ⟨by rfl,fun w' _=>(by go_simp;rfl)⟩) trivial ?_;go_frame;refine a0g 1 (some 47) rfl rfl (by kernel_rfl) (by kernel_rfl) (by kernel_rfl) (by kernel_rfl) (by kernel_rfl) (by kernel_rfl) (fun _ _ _ h=>h) (.inl ⟨by rfl,fun w' _=>(by go_simp;rfl)⟩) trivial ?_;go_frame;refine a0g 2 (some 48) rfl rfl (by kernel_rfl) (by kernel_rfl) (by kernel_rfl) (by kernel_rfl) (by kernel_rfl) (by kernel_rfl) (fun _ _ _ h=>h) (.inl ⟨by rfl,fun w' _=>(by go_simp;rfl)⟩) trivial ?_;go_frame;refine a0g 3 (some 49) rfl rfl (by kernel_rfl) (by kernel_rfl) (by kernel_rfl) (by kernel_rfl) (by kernel_rfl) (by kernel_rfl) (fun _ _ _ h=>h) (.inl ⟨by rfl,fun w' _=>(by go_simp;rfl)⟩) trivial ?_;go_frame;refine a0g 4 (some 50) rfl rfl (by kernel_rfl) (by kernel_rfl) (by kernel_rfl) (by kernel_rfl) (by kernel_rfl) (by kernel_rfl) (fun _ _ _ h=>h) (.inl ⟨by rfl,fun w' _=>(by go_simp;rfl)⟩) trivial ?_;go_frame
   refine a0g 5 (some 51) rfl rfl (by kernel_rfl) (by kernel_rfl) (by kernel_rfl) (by kernel_rfl) (by kernel_rfl) (by kernel_rfl) (fun _ _ _ h=>h) (.inl ⟨by rfl,fun w' _=>(by go_simp;rfl)⟩) trivial ?_;go_frame;refine a0g 6 (some 52) rfl rfl (by kernel_rfl) (by kernel_rfl) (by kernel_rfl) (by kernel_rfl) (by kernel_rfl) (by kernel_rfl) (fun _ _ _ h=>h) (.inl ⟨by rfl,fun w' _=>(by go_simp;rfl)⟩) trivial ?_;go_frame;refine a0g 7 (some 53) rfl rfl (by kernel_rfl) (by kernel_rfl) (by kernel_rfl) (by kernel_rfl) (by kernel_rfl) (by kernel_rfl) (fun _ _ _ h=>h) (.inl ⟨by rfl,fun w' _=>(by go_simp;rfl)⟩) trivial ?_;go_frame;refine t1 8 fun K hK=>?_
   simp only [gA,jB,gC];refine c0B _ _ 38 38 rfl _ _ rfl rfl (HCP.out _ _ _ _ _ (by omega) (by omega)) ?_;refine hK _ _ (fun h=>absurd rfl h) ?_;clear hK;refine tD ?_;go_wp2_with fail
   go_ret
   refine ⟨_,rfl,?_,Keep.of_below HALL.out,.inr ⟨D,rfl,Nat.le_of_eq HDD.out.symm⟩⟩;refine LO.mk ?_ HG3.out hGn (by unfold maxLen;exact HW.out) ?_ ?_
   ·rw [List.length_append,List.length_cons,List.length_take,List.length_drop,← HN.out];omega
   ·rw [HZ3.out,Nat.mul_one];exact Nat.le_refl _
   ·rw [a0W,Nat.mul_one];exact HFIN.out
end Go.Proofs.YtakkfabaeolbdaaGreat
