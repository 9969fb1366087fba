/- The keys of a map of rows, told, gathered and sorted (code). No condition. Rows of a table: which may be, and in order (code). No condition. -/
import Derived.Test.YtakkfabaeolbdaaGreatCn14
import Derived.Test.YtakkfabaeolbdaaGreatCn13
import Derived.Test.YtakkfabaeolbdaaGreatCn6
namespace Go.Proofs.YtakkfabaeolbdaaGreat
section
set_option maxHeartbeats 8000000
set_option maxRecDepth 100000
open Go.RowKit Go.Sort Go.Shelf

def uvC (m:Nat):Array Value:=#[.int .u64 (uw0 m),.int .u64 (uw1 m),.int .u64 (uw2 m),.int .u64 (uw3 m)]
def mV (m:Nat):Value:=.agg (uvC m)
def mapish (o:Obj):Bool:=match o with
 | .map _ _=>true
 | .mapIter _ _ _ _=>true
 | _=>false
def KpM (A B:World):Prop:=A.heap.size≤B.heap.size∧∀ (k:Nat) (o:Obj),A.heap[k]? = some o→mapish o=true→B.heap[k]? = some o
theorem KpM.trans {A B C:World} (h:KpM A B) (k:KpM B C):KpM A C:=⟨Nat.le_trans h.1 k.1,fun i o hi ho=>k.2 i o (h.2 i o hi ho) ho⟩
theorem KpM.aside {B:Nat} {A A':World} (h:Aside B A A'):KpM A A':=⟨h.size,fun k o hk ho=>h.keep k o hk (.inr (by cases o<;>first | rfl | (simp [mapish] at ho)))⟩
theorem KpM.keep {S:Nat→Prop} {A A':World} (h:Keep S A A') (hS:∀ k,S k→∃ o,A.heap[k]? = some o∧mapish o=false):KpM A A':=
 ⟨h.size,fun k o hk ho=>h.at hk fun e=>by
  obtain ⟨o',h1,h2⟩:=hS k e;rw [hk] at h1;cases h1;rw [ho] at h2;cases h2⟩
theorem KpM.map {κ ν:Type} {kE:κ→Value} {vE:ν→Value} {w w':World} {g:Nat} {M:List (κ × ν)} (k:KpM w w') (h:MapL kE vE w g M):MapL kE vE w' g M:=by
 obtain ⟨es,hb,r⟩:=h
 exact ⟨es,k.2 _ _ hb rfl,r⟩
theorem KpM.iter {w w':World} {g r N:Nat} {seen:Array Nat} (k:KpM w w') (h:IterL w g r N seen):IterL w' g r N seen:=⟨k.2 _ _ h.1 rfl,h.2⟩
theorem IterL.later {w w':World} {g r N:Nat} {seen:Array Nat} (h:IterL w g r N seen) (hb:Below w.heap.size w w'):IterL w' g r N seen:=⟨(hb.block _ (a0b h.1)).trans h.1,h.2⟩
def leftN (N r:Nat) (w:World):Nat:=match w.heap[r]? with
 | some (.mapIter _ _ seen _)=>N - seen.size
 | _=>0
theorem l0Q {w:World} {g r N:Nat} {seen:Array Nat} (h:IterL w g r N seen):leftN N r w=N - seen.size:=by unfold leftN;rw [h.1]
theorem o0k {α:Type} (f:Nat→α) {N:Nat} {l:List Nat} (h1:l.Nodup) (h2:∀ i∈l,i < N) (h3:∀ i,i < N→i∈l):(l.map f).Perm ((List.range N).map f):=by
 refine List.Perm.map f ?_;refine (List.perm_ext_iff_of_nodup h1 List.nodup_range).2 fun i=>?_
 rw [List.mem_range]
 exact ⟨h2 i,h3 i⟩
theorem l0r {N:Nat} {l:List Nat} (h1:l.Nodup) (h2:∀ i∈l,i < N):l.length≤N:=by
 have hp:l.Perm ((List.range N).filter fun i=>decide (i∈l)):=(List.perm_ext_iff_of_nodup h1 (List.nodup_range.filter _)).2 fun i=>by
  rw [List.mem_filter,List.mem_range,decide_eq_true_eq]
  exact ⟨fun hi=>⟨h2 i hi,hi⟩,fun hi=>hi.2⟩
 rw [hp.length_eq]
 exact Nat.le_trans (List.length_filter_le _ _) (by simp)
theorem m0H (M:List ((Int × Int) × Nat)):(List.range M.length).map (fun i=>(M.getD i ((0,0),0)).1)=M.map (·.1):=by
 refine List.ext_getElem (by simp) fun i h1 h2=>?_
 simp only [List.length_map,List.length_range] at h1
 simp [h1]
theorem Tryz.zeroKey (w:World):(zeroValue 209).run Tryz.prog w = .ok (.agg #[.int .i64 0,.int .i64 0]) w:=by kernel_rfl
theorem Tryz.sizeKey:(Tryz.prog.info? 209).map (·.size)=some 2:=by kernel_rfl
theorem Tryz.infoKey:(Tryz.prog.info? 209).map (fun i=>(i.zero,i.size,i.bytes))=some (some (.agg #[.int .i64 0,.int .i64 0]),2,16):=by kernel_rfl
theorem k0f (a b:Int):(#[Value.int .i64 a,.int .i64 b].all (·.oneCell'))=true:=by simp [Value.oneCell']

theorem q0F {w:World} {A1 g:Nat} {M:List ((Int × Int) × Nat)} (h1:w.heap[A1]? = some (.cells #[.map (some g)] 207 (0,0))) (hM:MapL kV mV w g M) (n:Nat) :
  SeqM n Tryz.prog 189 #[.pointer (some ⟨A1,0,none⟩)] (fun x=>#[kV x]) (fun _ _=>True) KpM (fun xs=>xs.Perm (M.map (·.1))) (fun _=>True) M.length w:=by
 intro lp J Jx W hbW hJ hJx hY h0;refine callsIn_wide.2 ?_
 show Calls _ _ #[.func (.yield lp) #[] #[],.pointer (some ⟨A1,0,none⟩)] W _
 have HM0:=hh (hM.later hbW);have HJ:=hh hJ;have HY:=hh hY;have J0:=hh h0;have c1:W.cell? ⟨A1,0,none⟩=some (.map (some g)):=Lib.cell_of_heap (a0c hbW h1) 0;clear h1 hM hbW hJ hJx hY h0
 go_enter Tryz.func189,Tryz.ntmps189
 go_wp2_with (at_range;refine o0n rfl _ rfl Tryz.underlying207 HM0.out rfl ?_;intro W1 r hr hI hb;have HR:=hh (show W.heap.size≤r by omega);clear hr)
 have HI:=hh hI;have HM:=hh (HM0.out.later hb);have J1:=hh (HJ.out _ _ _ J0.out (StepM.of_below hb));clear hI hb c1 J0 HM0
 go_loopw [6] (fun _ wr=>∃ (seen:Array Nat) (pre:List (Int × Int)),Hid (IterL wr g r M.length seen)∧Hid (MapL kV mV wr g M)∧Hid (pre=seen.toList.map (fun i=>(M.getD i ((0,0),0)).1))∧Hid (J pre wr)) (fun _ wr=>leftN M.length r wr)
 case atStart=>exact ⟨#[],[],HI,HM,hh rfl,J1⟩
 case round=>
  clear HI HM J1;obtain ⟨seen,pre,HI,HM,HP,HJ1⟩:=hrel
  go_wp2_with (at_next;refine q0L rfl _ rfl rfl HI.out HM.out ?_ ?_)
  ·intro hall;have HE:Hid (pre.Perm (M.map (·.1))):=hh (by rw [HP.out,← m0H];exact o0k _ HI.out.2.1 HI.out.2.2 (fun i hi=>by have:=hall i hi;simpa using this));clear hall;go_wp2_with fail
   go_end0
   exact ⟨⟨_,rfl⟩,.inl ⟨pre,HE.out,HJ1.out⟩⟩
  ·intro i hi W2 hns hI2 hM2 hk2 hz2 hen;have hj2:=HJ.out _ _ _ HJ1.out (StepM.of_keep hk2 ⟨_,HI.out.1,rfl⟩ HR.out);have HLF:=hh (l0Q HI.out);obtain ⟨⟨⟨k1,k2⟩,m⟩,hp⟩:∃ p,p=M[i]:=⟨_,rfl⟩;rw [← hp] at hen ⊢;replace hen:(Instr.entry (.pointer (some ⟨r,0,none⟩))).run Tryz.prog W2 = .ok (.tuple #[.agg #[.int .i64 k1,.int .i64 k2],mV m]) W2:=hen;have HP2:Hid (pre ++ [(k1,k2)]=(seen.push i).toList.map (fun i=>(M.getD i ((0,0),0)).1)):=hh (by rw [HP.out,Array.toList_push,List.map_append];simp [hi,← hp]);have hln:pre.length < M.length:=by
    rw [HP.out,List.length_map];have:=l0r hI2.2.1 hI2.2.2;rw [Array.toList_push,List.length_append] at this;simp only [List.length_singleton] at this
    omega
   have HI2:=hh hI2;have HM2:=hh hM2;have HJ2:=hh hj2;have HLN:=hh hln
   dsimp only [kV]
   clear hI2 hM2 hj2 hp hns hk2 hz2 hln HI HM HJ1
   go_wp2_with (refine sA _ Tryz.zeroKey ?_)
   intro X d1 hX;clear hen
   go_wp2_with (refine a0a (t:=209) (old:=#[.int .i64 0,.int .i64 0]) rfl 209 _ _ rfl X #[.int .i64 k1,.int .i64 k2] rfl rfl hX.out.cells Tryz.sizeKey rfl (k0f _ _) ?_)
   intro d2 hxX kX zX;clear zX;have hbX:Below W2.heap.size W2 d2:=hX.out.below.trans (kX.below (B:=W2.heap.size) (fun x hx e=>by have:=hX.out.eq;omega) hX.out.below.size);have HX:=hh hxX;have HI3:=hh (HI2.out.later hbX);have HM3:=hh (HM2.out.later hbX);have hj3:=HJ.out _ _ _ HJ2.out (StepM.of_below hbX);obtain ⟨fn,tmps,assign,body,hy,hRd⟩:=HY.out pre (k1,k2) d2 hj3 trivial HLN.out;simp only [kV] at hy;have HRd:=hh hRd;clear hX hxX kX hbX HI2 HM2 HJ2 hj3 hRd
   go_upto_region 3 with fail
   refine (wpIn_wide (n:=n)).1 ?_;have c60:d2.cell? ⟨X,0,none⟩=some (.int .i64 k1):=Lib.cell_of_heap HX.out 0;have c61:d2.cell? ⟨X,1,none⟩=some (.int .i64 k2):=Lib.cell_of_heap HX.out 1
   gi_wp2_with fail
   refine ⟨fun h=>(by cases h),HRd.out.mono ?_⟩;rintro e w9 (⟨rfl,hj9,hk9⟩ | ⟨rfl,hj9⟩)
   ·have HI9:=hh (hk9.iter HI3.out);have HM9:=hh (hk9.map HM3.out);have HJ9:=hh hj9;clear hk9 hj9 hy c60 c61
    gi_wp2_with fail
    go_wp2_with fail
    go_roundw
    case rel=>exact ⟨_,_,HI9,HM9,HP2,HJ9⟩
    case measure=>
     rw [HLF.out,l0Q HI9.out,Array.size_push];have:=l0r HI9.out.2.1 HI9.out.2.2;rw [Array.toList_push,List.length_append] at this;simp only [List.length_singleton,Array.length_toList] at this
     omega
   ·have HJ9:=hh hj9;clear hj9 hy c60 c61
    gi_wp2_with fail
    go_wp2_with fail;refine bodyPost_ret (results_none rfl _ _ _) rfl ?_
    exact ⟨⟨_,rfl⟩,.inr ⟨_,trivial,HJ9.out⟩⟩

theorem r0l (t:Array Value) (p:Tmp) (v:Value):((#[p]:Array Tmp).zip #[v]).foldl (fun t (p,v)=>t.setIfInBounds p v) t=t.setIfInBounds p v:=by simp [Array.zip]
theorem Own.cellsAt {α:Type} {w:World} {B:Nat} {e:TypeId} {enc:α→List Value} {sz:Nat} {v:Value} {l:List α} (h:Own w B e enc sz v l) {k:Nat} (hk:v.ownBlock=some k):∃ cs fr,w.heap[k]? = some (.cells cs e fr):=by
 rcases h.2 with ⟨h1,_⟩ | ⟨g,cap,cur,rfl,hg,hhq,r⟩
 ·rw [h1] at hk;cases hk
 ·cases hk;exact ⟨_,_,hhq⟩
theorem j0u {n0 B:Nat} {w A A':World} (h:Below n0 w A) (a:AsideM B A A') (hn:n0≤B) (hw:n0≤w.heap.size):Below n0 w A':=
 ⟨a.os.trans h.os,a.tape.trans h.tape,a.output.trans h.output,Nat.le_trans h.size a.size,fun k hk=>by
  have h1:=h.block k hk;obtain ⟨o,ho⟩:∃ o,w.heap[k]? = some o:=⟨_,Array.getElem?_eq_getElem (by omega)⟩;rw [ho] at h1 ⊢
  exact a.keep k o h1 (.inl (by omega))⟩
theorem c0D {B k:Nat} {A A':World} {cs:Array Value} {T:TypeId} {fr:Nat × Nat} (h:A.heap[k]? = some (.cells cs T fr)) (a:AsideM B A A'):A'.heap[k]? = some (.cells cs T fr):=a.keep k _ h (.inr ⟨rfl,rfl⟩)
theorem Own.asideM {α:Type} {w w':World} {B C:Nat} {e:TypeId} {enc:α→List Value} {sz:Nat} {v:Value} {l:List α} (h:Own w B e enc sz v l) (a:AsideM C w w'):Own w' B e enc sz v l:=by
 refine ⟨h.1,?_⟩
 rcases h.2 with h2 | ⟨g,cap,cur,rfl,hg,hhq,r⟩
 ·exact .inl h2
 ·exact .inr ⟨g,cap,cur,rfl,hg,c0D hhq a,r⟩
def KeysRet (w:World) (M:List ((Int × Int) × Nat)) (e:Ending) (w':World):Prop:=∃ v ks,e = .returned v∧Own w' w.heap.size 209 kE 2 v ks∧ks.Perm (M.map (·.1))∧Below w.heap.size w w'
theorem m0X {w:World} {A1 g:Nat} {M:List ((Int × Int) × Nat)} (h1:w.heap[A1]? = some (.cells #[.map (some g)] 207 (0,0))) (hM:MapL kV mV w g M) (hlen:M.length < 1000000) :
  Calls Tryz.prog 217 #[.slice none 0 0,.func (.func 189) #[] #[.pointer (some ⟨A1,0,none⟩)]] w (KeysRet w M):=by
 have H1:=hh h1;have HM:=hh hM;have HL:=hh hlen;clear h1 hM hlen;refine (callsIn_wide (n:=9)).1 (callsIn_of_wp_marks Tryz.func217 rfl trivial ?_ rfl);simp only [Tryz.ntmps217,List.size_toArray,List.length_cons,List.length_nil,Nat.reduceAdd,Nat.reduceSub,Array.replicate_succ,Array.replicate_zero,List.push_toArray,List.append_toArray,List.nil_append,List.cons_append];refine wpIn_wide.2 ?_;go_wp2_with fail;obtain ⟨w1,hw1⟩:=nm (w.alloc (.cells #[.slice none 0 0] 210));obtain ⟨B0,hB0⟩:=nm (w.heap.size);rw [← hw1,← hB0];have S0:=hh (show w1.heap[B0]? = some (.cells #[.slice none 0 0] 210 (0,0)) by rw [hw1,hB0];exact heap_alloc_new _ _);have SB:=hh (show Below w.heap.size w w1 by rw [hw1];exact (Below.refl _ _).alloc (Nat.le_refl _) _);have R1:=hh (a0c SB.out H1.out);have R2:=hh (HM.out.later SB.out);have W0:Hid (w.heap.size=B0):=hh hB0.symm;clear hw1 hB0 H1 HM;refine (wpIn_wide (n:=9)).1 (j0b (w0:=w1) (by omega) (gf:=189) (lb:=#[.pointer (some ⟨A1,0,none⟩)]) rfl (enters_of Tryz.func189 (by kernel_rfl) rfl)
  (q0F R1.out R2.out 8) (Below.refl _ _) (fun _=>rfl) KpM.trans KpM.aside
  (fun pre W=>∃ v,W.heap[B0]? = some (.cells #[v] 210 (0,0))∧Own W (B0+1) 209 kE 2 v pre∧Below w.heap.size w W)
  (fun _ _ _=>False)
  (fun pre A B h a=>by obtain ⟨v,h1,h2,h3⟩:=h;exact ⟨v,c0D h1 a,h2.asideM a,j0u h3 a SB.out.size (Nat.le_refl _)⟩)
  (fun c pre A B h a=>h)
  ⟨_,S0.out,Own.nil _ _ _ _ _,SB.out⟩
  (fun x a' W=>∃ b4,W.heap[b4]? = some (.cells #[.int .i64 x.1,.int .i64 x.2] 209 (0,0))∧a' = { tmps:=#[.slice none 0 0,.func (.func 189) #[] #[.pointer (some ⟨A1,0,none⟩)],.pointer (some ⟨B0,0,none⟩),undef,.slice none 0 0,.pointer (some ⟨b4,0,none⟩),.func (.func 189) #[] #[.pointer (some ⟨A1,0,none⟩)],.agg #[.int .i64 x.1,.int .i64 x.2],undef,undef,undef,undef,undef],defers:=[] })
  (fun x a' A B h a=>by obtain ⟨b4,h3,h4⟩:=h;exact ⟨b4,c0D h3 a,h4⟩) ?assign ?body ?done ?stop)
 case assign=>
  intro l pre x W K hi hg hlen hK;rw [r0l];simp only [kV];go_frame;refine b0q (by kernel_rfl) ?_;refine sA _ Tryz.zeroKey ?_;intro b4 w7 h7;go_frame;refine a0a (t:=209) (old:=#[.int .i64 0,.int .i64 0]) rfl 209 _ _ rfl b4 #[.int .i64 x.1,.int .i64 x.2] rfl rfl h7.out.cells Tryz.sizeKey rfl (k0f _ _) ?_;intro w8 h8 k8 z8;have hb8:Below W.heap.size W w8:=h7.out.below.trans (k8.below (B:=W.heap.size) (fun q hq e=>by have:=h7.out.eq;omega) h7.out.below.size)
  exact hK _ _ hb8 ⟨b4,h8,rfl⟩
 case body=>
  rintro l pre x a' W hl ⟨v,hv,hown,hbw⟩ ⟨b4,c4,rfl⟩ hlen;have HO:=hh hown;have HBW:=hh hbw;have HV:=hh hv;have HLN:=hh (show pre.length < 1000000 by have:=HL.out;omega);have c0:W.cell? ⟨b4,0,none⟩=some (.int .i64 x.1):=Lib.cell_of_heap c4 0;have c1:W.cell? ⟨b4,1,none⟩=some (.int .i64 x.2):=Lib.cell_of_heap c4 1;have c2:W.cell? ⟨B0,0,none⟩=some v:=Lib.cell_of_heap hv 0;clear hown hbw hv hlen c4;refine wpIn_block (b0q (by kernel_rfl) ?_)
  go_wp2_with (at_builtin;refine i0h (B:=w.heap.size) (w0:=w) rfl _ _ _ rfl Tryz.underlying210 Tryz.infoKey rfl (by decide) (x.1,x.2) HO.out rfl rfl rfl rfl (r0L _) (by have:=HLN.out;unfold maxLen;omega) (by have:=HLN.out;omega) HBW.out (by have:=W0.out;omega) (Nat.succ_le_of_lt (a0b HV.out)) (Nat.le_refl _) ?_)
  intro v' w5 ho5 hb5 hg5 _;have hV5:=HO.out.other hg5 (Nat.lt_succ_self B0) HV.out;have HO5:=hh ho5;have HB5:=hh hb5;have HV5:=hh hV5;have HG5:=hh hg5;have f2:w5.frozen? ⟨B0,0,none⟩=false:=Lib.frozen_of_heap hV5 0;have e2:w5.cell? ⟨B0,0,none⟩=some v:=Lib.cell_of_heap hV5 0;obtain ⟨adv,nv,capv,rfl⟩:∃ ad n cap,v' = .slice ad n cap:=by obtain ⟨ad,cap,e,_⟩:=(ho5.rd h0r).shape;exact ⟨_,_,_,e⟩
  clear ho5 hb5 hg5 hV5 c0 c1 c2;go_wp2_with fail;simp only [Only,Exit.inBlock];have hk:Keep (fun k=>v.ownBlock=some k∨k=B0) W (w5.setCell ⟨B0,0,none⟩ (.slice adv nv capv)):=
   Keep.setCell (p:=⟨B0,0,none⟩) ⟨HG5.out.os,HG5.out.tape,HG5.out.output,HG5.out.size,fun k hk hn=>HG5.out.block k hk (fun e=>hn (.inl e.symm))⟩ (.inl (.inr rfl)) _
  have hcs:∀ k,(v.ownBlock=some k∨k=B0)→∃ cs T fr,W.heap[k]? = some (.cells cs T fr):=fun k hk=>by
   rcases hk with hk | rfl
   ·obtain ⟨cs,fr,h⟩:=HO.out.cellsAt hk;exact ⟨_,_,_,h⟩
   ·exact ⟨_,_,_,HV.out⟩
  refine ⟨Leaves.of_keep hk fun k h=>by obtain ⟨cs,T,fr,e⟩:=hcs k h;exact ⟨_,e,rfl⟩,KpM.keep hk fun k h=>by obtain ⟨cs,T,fr,e⟩:=hcs k h;exact ⟨_,e,rfl⟩,_,heap_setCell_same _ _ _ _ _ _ HV5.out,?_,?_⟩
  ·exact HO5.out.keep (S:=(· = B0)) (Keep.setCell (S:=(· = B0)) (p:=⟨B0,0,none⟩) (Keep.refl _ _) (.inl rfl) _) fun k e h=>by have:=(HO5.out.lt k e).1;omega
  ·exact HB5.out.setCell (p:=⟨B0,0,none⟩) (by have:=W0.out;show w.heap.size≤B0;omega) _
 case done=>
  rintro D xs W hD hS ⟨v,hv,hown,hbw⟩ hmk;have hrd:=hown.rd h0r;obtain ⟨ad,cap,rfl,_,_⟩:=hrd.shape;have HO:=hh hown;have HBW:=hh hbw;have HS:=hh hS;have c2:W.cell? ⟨B0,0,none⟩=some (.slice ad xs.length cap):=Lib.cell_of_heap hv 0;clear hown hbw hrd hS hv;go_wp2_with fail;refine d0B (B:=w.heap.size) _ W (Marks.cons ⟨List.Pairwise.nil,fun _ h=>by cases h⟩ (by have:=SB.out.size;omega) hmk (fun _ h=>by cases h)) fun w' hw'=>?_
  refine ⟨_,results_tmp rfl _ _ _,_,xs,rfl,?_,HS.out,hw'.onto HBW.out⟩;rw [W0.out];have hq:Own w' (B0+1) 209 kE 2 (.slice ad xs.length cap) xs:=⟨HO.out.1,by
   rcases HO.out.2 with h2 | ⟨g',cap',cur,e,hg,hhq,r⟩
   ·exact .inl h2
   ·exact .inr ⟨g',cap',cur,e,hg,hw'.cells _ _ _ _ hhq,r⟩⟩
  exact hq.mono (Nat.le_succ _)
 case stop=>
  rintro D c pre W hD hSp hf hmk
  exact hf.elim

theorem k0g {w:World} {A1 g:Nat} {M:List ((Int × Int) × Nat)} (h1:w.heap[A1]? = some (.cells #[.map (some g)] 207 (0,0))) (hM:MapL kV mV w g M) (hlen:M.length < 1000000) :
  Calls Tryz.prog 187 #[.func (.func 189) #[] #[.pointer (some ⟨A1,0,none⟩)]] w (KeysRet w M):=by
 have HC:=hh (m0X h1 hM hlen);clear h1 hM hlen
 go_enter Tryz.func187,Tryz.ntmps187
 go_wp2_with fail;refine HC.out.mono ?_;rintro e w1 ⟨v,ks,rfl,h1,h2,h3⟩;have H1:=hh h1;have H2:=hh h2;have H3:=hh h3;clear h1 h2 h3;go_wp2_with fail
 go_ret
 exact ⟨_,_,rfl,H1.out,H2.out,H3.out⟩
def sortK (ks:List (Int × Int)):List (Int × Int):=ks.mergeSort fun x y=>!(ltOf cmpK) y x
theorem s0f (ks:List (Int × Int)) (t:Nat) (h:t < ks.length*2):(flatK kE 2 ks.toArray)[t]? = (ks.flatMap kE)[t]?:=by
 have h2:t / 2 < ks.length:=by omega
 have h3:=a0Z kE 2 h0r ks (t / 2) h2 (t % 2) (Nat.mod_lt _ (by omega));rw [Nat.div_add_mod'] at h3;have h4:t < (flatK kE 2 ks.toArray).size:=by simpa using h
 rw [Array.getElem?_eq_getElem h4,← getElem!_pos _ t h4,get_flatK kE 2 ks.toArray t (by simpa using h),h3];have h5:ks.toArray[t / 2]! = ks[t / 2]:=by rw [getElem!_pos _ _ (by simpa using h2)];simp
 rw [h5];obtain ⟨a,b⟩:=ks[t / 2]
 rcases (show t % 2=0∨t % 2=1 by omega) with e | e<;>simp [e,kE]
theorem q0T {w:World} {b off:Nat} {cap:Nat} {ks:List (Int × Int)} (h:Rd w kE 2 (.slice (some ⟨b,off,none⟩) ks.length cap) ks) (hf:∀ j,w.frozen? ⟨b,j,none⟩=false):HoldsK kE 2 w b off ks.toArray:=by
 intro t ht;rw [size_flatK] at ht;have ht2:t < ks.length*2:=by simpa using ht
 obtain ⟨ad,cap',e,h1,h2,h3⟩:=h
 cases e
 have hne:ks≠[]:=by intro e;subst e;simp at ht2
 obtain ⟨b',off',e,hb,hc⟩:=h3 hne
 cases e
 have h4:t / 2 < ks.length:=by omega
 have h5:=hc (t / 2) h4 (t % 2) (Nat.mod_lt _ (by omega));rw [Nat.add_assoc,Nat.div_add_mod'] at h5;refine ⟨?_,hf _⟩;rw [h5];have h6:=s0f ks t ht2;have h7:t < (flatK kE 2 ks.toArray).size:=by simpa using ht2
 rw [Array.getElem?_eq_getElem h7,← getElem!_pos _ t h7] at h6;have h8:=a0Z kE 2 h0r ks (t / 2) h4 (t % 2) (Nat.mod_lt _ (by omega));rw [Nat.div_add_mod'] at h8;rw [← h8,← h6];rfl
theorem j0g {w:World} {b off cap n:Nat} {os:Array Obj} {ks ks':List (Int × Int)} (h:HoldsK kE 2 w b off ks.toArray) (hb:b < w.heap.size) (hl:ks'.length=ks.length) (hcap:ks.length≤cap) (hm:cap≤maxLen) :
  Rd (sortWorldK kE 2 w b off n ks'.toArray os) kE 2 (.slice (some ⟨b,off,none⟩) ks'.length cap) ks'∧Keep (· = b) w (sortWorldK kE 2 w b off n ks'.toArray os):=by
 have hsz:ks'.toArray.size=ks.toArray.size:=by simpa using hl
 have h0:HoldsK kE 2 (Sort.ahead w n) b off ks.toArray:=holdsK_ahead kE 2 w n b off _ h;have h1:=holdsK_putRowK kE 2 (Sort.ahead w n) b off ks.toArray ks'.toArray h0 hsz;have hb1:b < (putRowK kE 2 (Sort.ahead w n) b off ks'.toArray).heap.size:=by unfold putRowK;rw [size_putRow];exact hb
 have h2:=holdsK_grow kE 2 _ os b off _ hb1 h1
 constructor
 ·refine ⟨_,_,rfl,by omega,hm,fun hne=>⟨b,off,rfl,?_,fun i hi j hj=>?_⟩⟩
  ·unfold sortWorldK grow
   simp only [Array.size_append]
   omega
  ·have h3:=(h2.cell (i:=i) (c:=j) (by simpa using hi) hj).1
   show (grow (putRowK kE 2 (Sort.ahead w n) b off ks'.toArray) os).cell? _=_
   rw [h3];have h5:ks'.toArray[i]! = ks'[i]:=by rw [getElem!_pos _ _ (by simpa using hi)];simp
   rw [h5];obtain ⟨x,y⟩:=ks'[i]
   rcases (show j=0∨j=1 by omega) with rfl | rfl<;>simp [kE]
 ·refine ⟨rfl,rfl,rfl,?_,fun k hk hn=>?_⟩
  ·unfold sortWorldK grow putRowK putRow mapBlock
   simp
  ·unfold sortWorldK grow putRowK putRow mapBlock
   have hn2:b≠k:=fun e=>hn e.symm
   rw [Array.getElem?_append_left (by simpa using hk)]
   simp [Array.getElem?_modify,hn2]
theorem b0G (ks:List (Int × Int)):(sortK ks).Perm ks:=List.mergeSort_perm _ _
theorem d0O (ks:List (Int × Int)):(sortK ks).length=ks.length:=(b0G ks).length_eq
theorem Own.frozen {α:Type} {w:World} {B:Nat} {e:TypeId} {enc:α→List Value} {sz:Nat} {b off n cap:Nat} {l:List α} (h:Own w B e enc sz (.slice (some ⟨b,off,none⟩) n cap) l) (j:Nat):off=0∧w.frozen? ⟨b,j,none⟩=false:=by
 rcases h.2 with ⟨h1,_⟩ | ⟨g,cap',cur,e,hg,hhq,r⟩
 ·cases h1
 ·cases e;exact ⟨rfl,Lib.frozen_of_heap hhq j⟩
def SortRet (w:World) (M:List ((Int × Int) × Nat)) (e:Ending) (w':World):Prop:=∃ v,e = .returned v∧Rd w' kE 2 v (sortK (M.map (·.1)))∧Below w.heap.size w w'
theorem f0m:∀ (a b:List (Int × Int)),a.Perm b→a.Pairwise (fun x y=>¬ kLt y x)→b.Pairwise (fun x y=>¬ kLt y x)→a=b
 | [],b,h,_,_=>(List.nil_perm.1 h).symm▸rfl
 | x :: a,[],h,_,_=>absurd h.length_eq (by simp)
 | x :: a,y :: b,h,h1,h2=>by
  obtain ⟨p1,p2⟩:=List.pairwise_cons.1 h1;obtain ⟨q1,q2⟩:=List.pairwise_cons.1 h2;have hxy:x=y:=by
   rcases List.mem_cons.1 (h.mem_iff.1 (List.mem_cons_self (a:=x) (l:=a))) with e | e
   ·exact e
   ·rcases List.mem_cons.1 (h.mem_iff.2 (List.mem_cons_self (a:=y) (l:=b))) with e2 | e2
    ·exact e2.symm
    ·exact f0U (q1 x e) (p1 y e2)
  subst hxy;rw [f0m a b h.cons_inv p2 q2]
theorem c0T (ks:List (Int × Int)):(sortK ks).Pairwise (fun x y=>¬ kLt y x):=by
 have h:=List.pairwise_mergeSort (le:=fun x y=>!(ltOf cmpK) y x) (fun a b c h k=>by
  simp only [Bool.not_eq_true'] at h k ⊢
  exact l0u.ntrans c b a k h) (fun a b=>by
  cases h:ltOf cmpK b a with
  | false=>simp
  | true=>
   have h1:=(f0s b a).1 h;have h2:ltOf cmpK a b=false:=(d0a a b).2 fun k=>d0d _ (j0v h1 k)
   simp [h2]) ks
 exact h.imp fun {a b} h=>by
  simp only [Bool.not_eq_true'] at h
  exact (d0a b a).1 h
theorem j0s {a b:List (Int × Int)} (h:a.Perm b):sortK a=sortK b:=
 f0m _ _ (((b0G a).trans h).trans (b0G b).symm) (c0T a) (c0T b)
theorem g0J {w:World} {A1 g:Nat} {M:List ((Int × Int) × Nat)} (h1:w.heap[A1]? = some (.cells #[.map (some g)] 207 (0,0))) (hM:MapL kV mV w g M) (hlen:M.length < 1000000) (hne:M≠[]) :
  Calls Tryz.prog 136 #[.func (.func 189) #[] #[.pointer (some ⟨A1,0,none⟩)],.func (.func 138) #[] #[]] w (SortRet w M):=by
 have HC:=hh (k0g h1 hM hlen);have HL:=hh hlen;have HN:=hh hne;clear h1 hM hlen hne
 go_enter Tryz.func136,Tryz.ntmps136
 go_wp2_with fail;refine HC.out.mono ?_;rintro e w1 ⟨v,ks,rfl,h1,h2,h3⟩;have hrd:=h1.rd h0r;have hkl:=h2.length_eq;rw [List.length_map] at hkl;have hne:ks≠[]:=by intro e;subst e;simp at hkl;exact HN.out (List.length_eq_zero_iff.1 hkl.symm)
 obtain ⟨ad,cap,rfl,hc1,hc2⟩:=hrd.shape;obtain ⟨b,off,rfl,hbl⟩:=hrd.ptr (List.length_pos_iff.2 hne);obtain ⟨hoff,_⟩:=h1.frozen 0;have hH:=q0T hrd (fun j=>(h1.frozen j).2);have hsort:=AnyQ.slices_SortFunc_total (P:=Tryz.prog) Tryz.sortKey 2 Tryz.isAgg209 Tryz.sizeOf209 kE h0r (fun x=>r0L x) cmpK l0u 138 #[] b off cap ks.toArray w1 (enters_of Tryz.func138 (by kernel_rfl) rfl) (fun _ _ _ _ x y=>q0R x y _) hH hbl (by simp;have:=HL.out;omega) (fun x y h k=>f0U ((d0a x y).1 h) ((d0a y x).1 k));have hbB:=(h1.lt b rfl).1;have hw:=fun (n:Nat) (os:Array Obj)=>j0g (n:=n) (os:=os) hH hbl (d0O ks) hc1 hc2
 rw [d0O ks] at hw;obtain ⟨N,hN⟩:=nm (ks.length);replace hsort:Calls Tryz.prog 188 #[.slice (some ⟨b,off,none⟩) N cap,.func (.func 138) #[] #[]] w1 fun e w'=>e = .returned (.tuple #[])∧∃ n os,w'=sortWorldK kE 2 w1 b off n (sortK ks).toArray os:=by rw [hN];exact hsort
 rw [← hN] at hw ⊢;have HS:=hh hsort;have HW:=hh hw;have HB:=hh h3;have HBB:=hh hbB;have HU:=hh (j0s h2);clear h1 h2 h3 hrd hne hc1 hbl hoff hH hsort hbB hw hN hkl;go_wp2_with fail;refine HS.out.mono ?_;rintro e w2 ⟨rfl,n,os,hw2⟩;have h4:=HW.out n os;rw [← hw2] at h4;have H4:=hh h4.1;have H5:=hh (HB.out.trans (h4.2.below (B:=w.heap.size) (fun q hq e=>by have:=HBB.out;omega) HB.out.size));clear h4 hw2 HS HW;go_wp2_with fail
 go_ret
 exact ⟨_,rfl,by rw [← HU.out];exact H4.out,H5.out⟩
end
section
set_option maxHeartbeats 4000000
open Go.RowKit Go.Sort Go.Shelf

theorem l0g (a b:Nat):(a ||| b=0)↔(a=0∧b=0):=by
 constructor
 ·intro h;have h1:=Nat.left_le_or (n:=a) (m:=b);have h2:=Nat.right_le_or (n:=a) (m:=b)
  omega
 ·rintro ⟨rfl,rfl⟩;rfl
def half256:Nat:=340282366920938463463374607431768211456
theorem m0w {a b c d:Int} {n:Nat} (h:UIs a b c d n) (w:World):Calls Tryz.prog 101 #[.agg #[.int .u64 a,.int .u64 b,.int .u64 c,.int .u64 d]] w (Ret w (.bool (decide (n < half256)))):=by
 obtain ⟨C,E,hc,he,rfl,rfl,hn⟩:∃ C E:Nat,C < 18446744073709551616∧E < 18446744073709551616∧c=(C:Int)∧d=(E:Int)∧(n < half256↔C=0∧E=0):=by
  unfold UIs at h
  unfold half256
  exact ⟨c.toNat,d.toNat,by omega,by omega,by omega,by omega,by omega⟩
 have hor:bits BinOp.or IntKind.u64 (C:Int) (E:Int)=((C ||| E:Nat):Int):=u64_or_nat C E hc he;have hz:(((C ||| E:Nat):Int) == 0)=decide (n < half256):=by
  by_cases h0:C ||| E=0
  ·have:=(l0g C E).1 h0;rw [h0,decide_eq_true (hn.2 this)];rfl
  ·have h1:¬ (C=0∧E=0):=fun e=>h0 ((l0g C E).2 e)
   rw [decide_eq_false (fun k=>h1 (hn.1 k))]
   simpa using h0
 obtain ⟨z,hz2⟩:=nm ((((C ||| E:Nat):Int) == 0));have HZ:=hh (hz2.trans hz);have hz3:=hz2.symm;obtain ⟨q,hq⟩:∃ q:Int,q=((C ||| E:Nat):Int):=⟨_,rfl⟩;rw [← hq] at hor hz3;clear h hc he hn hz hz2 hq
 go_enter Tryz.func101,Tryz.ntmps101
 go_wp2_with fail
 go_ret
 exact ⟨by rw [HZ.out];rfl,(Below.refl _ _).alloc (Nat.le_refl _) _⟩

structure LRow where
 e:Int
 t:Int
 m:Nat
def rowC (r:LRow):Array Value:=#[.int .i64 r.e,.int .i64 r.t,.int .u64 (uw0 r.m),.int .u64 (uw1 r.m),.int .u64 (uw2 r.m),.int .u64 (uw3 r.m)]
def rowE (r:LRow):List Value:=[.int .i64 r.e,.int .i64 r.t,.int .u64 (uw0 r.m),.int .u64 (uw1 r.m),.int .u64 (uw2 r.m),.int .u64 (uw3 r.m)]
theorem h0S (r:LRow):(rowE r).length=6:=rfl
theorem q0Z (r:LRow):∀ u∈rowE r,u.oneCell'=true:=by
 intro u hu;simp only [rowE,List.mem_cons,List.not_mem_nil,or_false] at hu
 rcases hu with rfl | rfl | rfl | rfl | rfl | rfl<;>rfl
theorem p0d (r:LRow):(#[.int .i64 r.e,.int .i64 r.t,.int .u64 (uw0 r.m),.int .u64 (uw1 r.m),.int .u64 (uw2 r.m),.int .u64 (uw3 r.m)]:Array Value).all (·.oneCell')=true:=by simp [Value.oneCell']
def ROk (r:LRow):Prop:=I64k (r.e,r.t)∧r.m < uMax
def rkey (r:LRow):Int × Int:=(r.e,r.t)
def kv (r:LRow):(Int × Int) × Nat:=((r.e,r.t),r.m)
def goodR (r:LRow):Bool:=decide (1≤r.e) && (decide (r.e≤4294967295) && (decide (1≤r.t) && (decide (r.t≤1000) && decide (r.m < half256))))
theorem Tryz.zeroRow (w:World):(zeroValue 63).run Tryz.prog w = .ok (.agg #[.int .i64 0,.int .i64 0,.int .u64 0,.int .u64 0,.int .u64 0,.int .u64 0]) w:=by kernel_rfl
theorem Tryz.sizeRow:(Tryz.prog.info? 63).map (·.size)=some 6:=by kernel_rfl
theorem Tryz.infoRow:(Tryz.prog.info? 63).map (fun i=>(i.zero,i.size,i.bytes))=some (some (.agg #[.int .i64 0,.int .i64 0,.int .u64 0,.int .u64 0,.int .u64 0,.int .u64 0]),6,48):=by kernel_rfl
theorem Rd.six {w:World} {ad:Option Addr} {n cap:Nat} {l:List LRow} (h:Rd w rowE 6 (.slice ad n cap) l) (i:Nat) (hi:i < l.length) :
  ∃ b off,ad=some ⟨b,off,none⟩∧b < w.heap.size∧w.cell? ⟨b,off+i*6,none⟩=some (.int .i64 l[i].e)∧w.cell? ⟨b,off+i*6+1,none⟩=some (.int .i64 l[i].t)∧w.cell? ⟨b,off+i*6+2,none⟩=some (.int .u64 (uw0 l[i].m)) ∧
   w.cell? ⟨b,off+i*6+3,none⟩=some (.int .u64 (uw1 l[i].m))∧w.cell? ⟨b,off+i*6+4,none⟩=some (.int .u64 (uw2 l[i].m))∧w.cell? ⟨b,off+i*6+5,none⟩=some (.int .u64 (uw3 l[i].m)):=by
 obtain ⟨ad',cap',he,h1,h2,h3⟩:=h
 cases he
 obtain ⟨b,off,rfl,hb,hc⟩:=h3 (by intro hl;subst hl;simp at hi)
 exact ⟨b,off,rfl,hb,hc i hi 0 (by omega),hc i hi 1 (by omega),hc i hi 2 (by omega),hc i hi 3 (by omega),hc i hi 4 (by omega),hc i hi 5 (by omega)⟩

theorem p0T (r:LRow) (hr:r.m < uMax) (w:World):Calls Tryz.prog 135 #[.agg #[.int .i64 r.e,.int .i64 r.t,.int .u64 (uw0 r.m),.int .u64 (uw1 r.m),.int .u64 (uw2 r.m),.int .u64 (uw3 r.m)]] w (Ret w (.bool (goodR r))):=by
 have HU:=hh (uw_is hr);obtain ⟨e,t,m⟩:=r;obtain ⟨q,hq⟩:=nm (goodR ⟨e,t,m⟩);have HQ:=hh hq;rw [← hq];clear hr hq
 dsimp only at HU ⊢
 by_cases h0:1≤e
 ·by_cases h1:e≤4294967295
  ·by_cases h2:1≤t
   ·by_cases h3:t≤1000
    ·go_enter Tryz.func135,Tryz.ntmps135
     go_wp2_with fail;refine (m0w HU.out _).mono ?_;rintro e' w1 ⟨rfl,hb⟩;have HB:=hh (((Below.refl w.heap.size w).alloc (Nat.le_refl _) _).trans (hb.mono (by simp)));clear hb;go_wp2_with fail
     go_ret
     exact ⟨by rw [HQ.out];simp [goodR,h0,h1,h2,h3],HB.out⟩
    ·have g3:1000 < t:=by omega
     have hF:goodR ⟨e,t,m⟩=false:=by simp [goodR,h0,h1,h2,h3]
     rw [hF] at HQ;clear h3 hF
     go_enter Tryz.func135,Tryz.ntmps135
     go_wp2_with fail
     go_ret
     exact ⟨by rw [HQ.out];rfl,(Below.refl _ _).alloc (Nat.le_refl _) _⟩
   ·have g2:t < 1:=by omega
    have hF:goodR ⟨e,t,m⟩=false:=by simp [goodR,h0,h1,h2]
    rw [hF] at HQ;clear h2 hF
    go_enter Tryz.func135,Tryz.ntmps135
    go_wp2_with fail
    go_ret
    exact ⟨by rw [HQ.out];rfl,(Below.refl _ _).alloc (Nat.le_refl _) _⟩
  ·have g1:4294967295 < e:=by omega
   have hF:goodR ⟨e,t,m⟩=false:=by simp [goodR,h0,h1]
   rw [hF] at HQ;clear h1 hF
   go_enter Tryz.func135,Tryz.ntmps135
   go_wp2_with fail
   go_ret
   exact ⟨by rw [HQ.out];rfl,(Below.refl _ _).alloc (Nat.le_refl _) _⟩
 ·have g0:e < 1:=by omega
  have hF:goodR ⟨e,t,m⟩=false:=by simp [goodR,h0]
  rw [hF] at HQ;clear h0 hF
  go_enter Tryz.func135,Tryz.ntmps135
  go_wp2_with fail
  go_ret
  exact ⟨by rw [HQ.out];rfl,(Below.refl _ _).alloc (Nat.le_refl _) _⟩
end
end Go.Proofs.YtakkfabaeolbdaaGreat
