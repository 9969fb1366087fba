/- Rows in order: leaf.Sorted (code). No condition. Groups of rows, one for each earner (code). No condition. Groups of rows, one for each earner; their leaves (code). No condition. -/
import Derived.Test.YtakkfabaeolbdaaGreatCn17
import Derived.Test.YtakkfabaeolbdaaGreatCn18
import Derived.Deep.Cut
import Derived.Test.YtakkfabaeolbdaaGreatCn11
namespace Go.Proofs.YtakkfabaeolbdaaGreat
section
set_option maxHeartbeats 16000000
set_option maxRecDepth 100000
open Go.RowKit Go.Sort Go.Shelf

def lookR (l:List LRow) (k:Int × Int):Nat:=((l.find? fun r=>decide (rkey r=k)).map LRow.m).getD 0
def sortR (l:List LRow):List LRow:=(sortK (l.map rkey)).map fun k=>⟨k.1,k.2,lookR l k⟩
def SortOk (l:List LRow):Prop:=(0 < l.length∧l.length≤1024)∧(∀ r∈l,goodR r=true)∧(l.map rkey).Nodup
instance (l:List LRow):Decidable (SortOk l):=by unfold SortOk;exact inferInstance
def sortedF (l:List LRow):Option (List LRow):=if SortOk l then some (sortR l) else none
theorem e0z {l:List LRow} (h:¬ SortOk l):sortedF l=none:=if_neg h
theorem f0y {l:List LRow} (h:SortOk l):sortedF l=some (sortR l):=if_pos h
theorem c0L (l:List LRow):(sortR l).length=l.length:=by unfold sortR;rw [List.length_map,d0O,List.length_map]
theorem k0A (l:List LRow):(l.map kv).map (·.1)=l.map rkey:=by rw [List.map_map];rfl
theorem k0T {l:List LRow} (hn:(l.map rkey).Nodup) (j:Nat) (hj:j < l.length):lookR l (rkey l[j])=l[j].m:=by
 induction l generalizing j with
 | nil=>simp at hj
 | cons r l ih=>
  rw [List.map_cons,List.nodup_cons] at hn
  unfold lookR
  cases j with
  | zero=>simp
  | succ j=>
   have hj2:j < l.length:=by simpa using hj
   have hne:¬ rkey r=rkey l[j]:=fun e=>hn.1 (by rw [e];exact List.mem_map.2 ⟨_,List.getElem_mem hj2,rfl⟩)
   rw [List.getElem_cons_succ,List.find?_cons_of_neg (by simpa using hne)]
   exact ih hn.2 j hj2
theorem r0M {l:List LRow} {k:Int × Int} (h:k∈l.map rkey):∃ (j:Nat) (hj:j < l.length),rkey l[j]=k:=by
 obtain ⟨r,hr,e⟩:=List.mem_map.1 h;obtain ⟨j,hj,rfl⟩:=List.mem_iff_getElem.1 hr
 exact ⟨j,hj,e⟩
theorem g0O {l:List LRow} (i:Nat) (hi:i < l.length):((l.take (i+1)).map rkey).Nodup↔((l.take i).map rkey).Nodup∧rkey l[i] ∉ (l.take i).map rkey:=by
 rw [List.take_succ_eq_append_getElem hi,List.map_append,List.nodup_append]
 constructor
 ·rintro ⟨h1,_,h3⟩
  exact ⟨h1,fun hm=>h3 _ hm _ (by simp) rfl⟩
 ·rintro ⟨h1,h2⟩
  exact ⟨h1,by simp,fun a ha b hb e=>by simp at hb;subst hb;subst e;exact h2 ha⟩
def MapAt (l:List LRow) (i:Nat) (M:List ((Int × Int) × Nat)):Prop:=
 M.length≤i∧(((l.take i).map rkey).Nodup→M=(l.take i).map kv)∧(¬ ((l.take i).map rkey).Nodup→M.length < i)∧(∀ p∈M,I64k p.1)∧∀ r∈l.take i,goodR r=true
theorem MapAt.next {l:List LRow} {i:Nat} {M M':List ((Int × Int) × Nat)} (h:MapAt l i M) (hi:i < l.length) (hk:I64k (rkey l[i])) (hg:goodR l[i]=true)
  (hM:(rkey l[i] ∉ M.map (·.1)∧M'=M ++ [(rkey l[i],l[i].m)])∨(rkey l[i]∈M.map (·.1)∧M'.map (·.1)=M.map (·.1))):MapAt l (i+1) M':=by
 obtain ⟨h1,h2,h3,h4,h5⟩:=h;have hlen:M'.length≤M.length+1∧(rkey l[i]∈M.map (·.1)→M'.length=M.length):=by
  rcases hM with ⟨m1,rfl⟩ | ⟨m1,m2⟩
  ·exact ⟨by simp,fun h=>absurd h m1⟩
  ·have:=congrArg List.length m2;simp only [List.length_map] at this
   exact ⟨by omega,fun _=>this⟩
 have hkeys:((l.take i).map rkey).Nodup→(rkey l[i]∈M.map (·.1)↔rkey l[i]∈(l.take i).map rkey):=fun hn=>by rw [h2 hn,k0A]
 refine ⟨by omega,fun hn=>?_,fun hn=>?_,fun p hp=>?_,fun r hr=>?_⟩
 ·obtain ⟨n1,n2⟩:=(g0O i hi).1 hn;have hni:rkey l[i] ∉ M.map (·.1):=fun h=>n2 ((hkeys n1).1 h)
  rcases hM with ⟨m1,rfl⟩ | ⟨m1,m2⟩
  ·rw [List.take_succ_eq_append_getElem hi,List.map_append,← h2 n1];rfl
  ·exact absurd m1 hni
 ·by_cases hn1:((l.take i).map rkey).Nodup
  ·have hm:rkey l[i]∈(l.take i).map rkey:=by
    by_cases hm:rkey l[i]∈(l.take i).map rkey
    ·exact hm
    ·exact absurd ((g0O i hi).2 ⟨hn1,hm⟩) hn
   have:=hlen.2 ((hkeys hn1).2 hm)
   omega
  ·have:=h3 hn1;omega
 ·rcases hM with ⟨m1,rfl⟩ | ⟨m1,m2⟩
  ·rcases List.mem_append.1 hp with hp | hp
   ·exact h4 p hp
   ·simp at hp;subst hp;exact hk
  ·have:p.1∈M.map (·.1):=by rw [← m2];exact List.mem_map.2 ⟨p,hp,rfl⟩
   obtain ⟨q,hq,e⟩:=List.mem_map.1 this;rw [← e];exact h4 q hq
 ·rw [List.take_succ_eq_append_getElem hi] at hr
  rcases List.mem_append.1 hr with hr | hr
  ·exact h5 r hr
  ·simp at hr;rw [hr];exact hg
theorem Rd.two {w:World} {ad:Option Addr} {n cap:Nat} {l:List (Int × Int)} (h:Rd w kE 2 (.slice ad n cap) l) (i:Nat) (hi:i < l.length) :
  ∃ b off,ad=some ⟨b,off,none⟩∧b < w.heap.size∧w.cell? ⟨b,off+i*2,none⟩=some (.int .i64 l[i].1)∧w.cell? ⟨b,off+i*2+1,none⟩=some (.int .i64 l[i].2):=by
 obtain ⟨ad',cap',he,h1,h2,h3⟩:=h
 cases he
 obtain ⟨b,off,rfl,hb,hc⟩:=h3 (by intro hl;subst hl;simp at hi)
 exact ⟨b,off,rfl,hb,hc i hi 0 (by omega),hc i hi 1 (by omega)⟩
theorem r0Q (w:World) (r:LRow) (e:TypeId):Rd (w.alloc (.cells (rowC r) e)) rowE 6 (.slice (some ⟨w.heap.size,0,none⟩) 1 1) [r]:=by
 refine ⟨_,_,rfl,Nat.le_refl _,by unfold maxLen;omega,fun _=>⟨_,_,rfl,by simp,fun i hi j hj=>?_⟩⟩;obtain rfl:i=0:=by simpa using hi
 rw [Lib.cell_of_heap (heap_alloc_new w _)];simp only [Nat.zero_mul,Nat.zero_add,List.getElem_cons_zero,rowC,rowE];rw [List.getElem?_toArray]
def SortedRet (w:World) (l:List LRow) (e:Ending) (w':World):Prop:=Below w.heap.size w w' ∧
 ((sortedF l=none∧e = .returned (.tuple #[.slice none 0 0,.bool false]))∨∃ v s,sortedF l=some s∧e = .returned (.tuple #[v,.bool true])∧Own w' w.heap.size 63 rowE 6 v s)
theorem n0G (g:Nat) (w:World):Calls Tryz.prog 137 #[.map (some g)] w fun e w'=>e = .returned (.func (.func 189) #[] #[.pointer (some ⟨w.heap.size,0,none⟩)])∧w'=w.alloc (.cells #[.map (some g)] 207):=by
 go_enter Tryz.func137,Tryz.ntmps137
 go_wp2_with fail
 go_ret
 exact ⟨rfl,rfl⟩
theorem m0M (w:World) (v:Value) (l:List LRow) (hr:Rd w rowE 6 v l) (hok:∀ r∈l,ROk r) (hlen:l.length < 1000000000):Calls Tryz.prog 59 #[v] w (SortedRet w l):=by
 obtain ⟨ad,cap,rfl,hc1,hc2⟩:=hr.shape;obtain ⟨n,hn⟩:=nm (l.length);have HR:=hh hr;have HOK:=hh hok
 by_cases h01:l.length=0∨1024 < l.length
 ·have HF:=hh (e0z (l:=l) fun h=>by have:=h.1;omega);have key:n=0∨(0 < n∧1024 < n):=by omega
  rw [← hn];clear hr hok hlen hc1 h01 hn
  rcases key with rfl | ⟨h0,h1⟩
  all_goals
   go_enter Tryz.func59,Tryz.ntmps59
   go_wp2_with fail
   go_ret2
   exact ⟨Below.refl _ _,.inl ⟨HF.out,rfl⟩⟩
 ·have h0:0 < n:=by omega
  have h24:¬ 1024 < n:=by omega
  have t0:((n:Int) == 0)=false:=by simp;omega
  have d24:decide (1024 < (n:Int))=false:=by simp;omega
  have hmm:∀ w:World,(Instr.makeMap 207 none).run Tryz.prog w = .ok (.map (some w.heap.size)) (w.alloc (.map #[] 0)):=fun w=>rfl
  have HN:=hh hn;rw [← hn] at HR ⊢;clear hr hok hlen hc1 h01 hn
  go_enter Tryz.func59,Tryz.ntmps59
  go_wp2_with fail;obtain ⟨w1,hw1⟩:=nm (w.alloc (.map #[] 0));obtain ⟨g,hg⟩:=nm (w.heap.size);rw [← hw1,← hg];have HM1:=hh (show MapL kV mV w1 g [] by rw [hw1,hg];exact MapL.made w);have HB1:=hh (show Below w.heap.size w w1 by rw [hw1];exact (Below.refl _ _).alloc (Nat.le_refl _) _);have WG:Hid (w.heap.size≤g):=hh (by omega);have HA1:Hid (MapAt l 0 []):=hh ⟨by simp,fun _=>rfl,fun h=>absurd (by simp) h,fun p hp=>by simp at hp,fun r hr=>by simp at hr⟩;have n24:n≤1024:=by omega
  clear hw1 hg hmm t0 d24 h24
  go_loopw [22] (fun x wr=>∃ (i:Nat) (M:List ((Int × Int) × Nat)),x = .int .i64 i∧i≤n∧Hid (MapL kV mV wr g M)∧Hid (MapAt l i M)∧Hid (Below w.heap.size w wr)) (fun x _=>n - (intOf x).toNat)
  case atStart=>exact ⟨0,[],rfl,by omega,HM1,HA1,HB1⟩
  case round=>
   clear HM1 HB1 HA1;obtain ⟨i,M,rfl,hin,HM,HA,HB⟩:=hrel
   by_cases hlt:i < n
   ·have hi:i < l.length:=by have:=HN.out;omega
    obtain ⟨bb,off,rfl,_,c0,c1,c2,c3,c4,c5⟩:=(HR.out.later HB.out).six i hi;have hrk:=HOK.out _ (List.getElem_mem hi);obtain ⟨r,hrr⟩:=nm (l[i]);have hnx:=fun M' h1 h2 h3=>MapAt.next (M':=M') HA.out hi h1 h2 h3
    rw [← hrr] at c0 c1 c2 c3 c4 c5 hrk hnx;have HRK:=hh hrk;have HNX:=hh hnx;have HLT:=hh hlt;have HRM:=hh (show r∈l by rw [hrr];exact List.getElem_mem hi);clear hrk hnx hrr hi
    go_wp2_with (refine sA _ Tryz.zeroRow ?_)
    intro X d1 hX
    go_wp2_with (refine a0a (t:=63) (old:=#[.int .i64 0,.int .i64 0,.int .u64 0,.int .u64 0,.int .u64 0,.int .u64 0]) rfl 63 _ _ rfl X #[.int .i64 r.e,.int .i64 r.t,.int .u64 (uw0 r.m),.int .u64 (uw1 r.m),.int .u64 (uw2 r.m),.int .u64 (uw3 r.m)] rfl rfl hX.out.cells Tryz.sizeRow rfl (p0d r) ?_)
    intro d2 hxX kX zX;clear zX;have hbX:Below wr.heap.size wr d2:=hX.out.below.trans (kX.below (B:=wr.heap.size) (fun x hx e=>by have:=hX.out.eq;omega) hX.out.below.size);have HX:=hh hxX;have HM2:=hh (HM.out.later hbX);have HB2:=bT HB hbX;have HXG:Hid (X≠g):=hh (by have:=hX.out.eq;have:=HM.out.lt;omega);clear hX hxX kX hbX HM HB c0 c1 c2 c3 c4 c5;have q0:d2.cell? ⟨X,0,none⟩=some (.int .i64 r.e):=Lib.cell_of_heap HX.out 0;have q1:d2.cell? ⟨X,1,none⟩=some (.int .i64 r.t):=Lib.cell_of_heap HX.out 1;have q2:d2.cell? ⟨X,2,none⟩=some (.int .u64 (uw0 r.m)):=Lib.cell_of_heap HX.out 2;have q3:d2.cell? ⟨X,3,none⟩=some (.int .u64 (uw1 r.m)):=Lib.cell_of_heap HX.out 3;have q4:d2.cell? ⟨X,4,none⟩=some (.int .u64 (uw2 r.m)):=Lib.cell_of_heap HX.out 4;have q5:d2.cell? ⟨X,5,none⟩=some (.int .u64 (uw3 r.m)):=Lib.cell_of_heap HX.out 5
    go_wp2_with (refine s0e rfl _ _ _ rfl Tryz.keyOk Tryz.underlying207 HM2.out HA.out.2.2.2.1 (r.e,r.t) HRK.out.1 r.m rfl rfl rfl ?_)
    intro w5 M' h1 h2 h3 h4;have HM5:=hh h1;have HX5:=ka1 h3 HX HXG;have HCS:=hh h2;have HB5:=hh (HB2.out.trans (h3.below (B:=w.heap.size) (fun q hq e=>by have:=WG.out;omega) HB2.out.size));clear h1 h2 h3 h4 q0 q1 q2 q3 q4 q5 HX HM2 HB2
    go_wp2_with (refine lR HX5 Tryz.underlying63 Tryz.sizeRow ?_)
    refine (p0T r HRK.out.2 w5).mono ?_;rintro e w6 ⟨rfl,hb6⟩;have HM6:=hh (HM5.out.later hb6);have HB6:=bT HB5 hb6;clear hb6 HM5 HX5 HB5
    cases hgr:goodR r with
    | false=>
     have HF:=hh (e0z (l:=l) fun h=>by
      have h2:=h.2.1 _ HRM.out;rw [hgr] at h2;cases h2)
     clear hgr;go_wp2_with fail
     go_ret2
     exact ⟨HB6.out,.inl ⟨HF.out,rfl⟩⟩
    | true=>
     have HA6:=hh (HNX.out M' HRK.out.1 hgr HCS.out);clear hgr;go_wp2_with fail
     go_roundw
     case rel=>exact ⟨i+1,M',by go_num,HLT.out,HM6,HA6,HB6⟩
     case measure=>have:=HLT.out;simp [intOf];omega
   ·obtain rfl:i=n:=by omega
    have hlm:∀ ty,(Builtin.len_ #[207] ty #[.map (some g)]).run Tryz.prog wr = .ok (.int .i64 M.length) wr:=fun ty=>q0S Tryz.underlying207 HM.out
    by_cases hnd:(l.map rkey).Nodup
    ·have hM:=HA.out.2.1 (by rw [HN.out,List.take_length];exact hnd);rw [HN.out,List.take_length] at hM;have hml:M.length=i:=by rw [hM,List.length_map];exact HN.out.symm
     rw [hml] at hlm;have tm:((i:Int) != (i:Int))=false:=by simp
     have HY:=hh (f0y (l:=l) ⟨by have:=HN.out;omega,fun r hr=>by have h5:=HA.out.2.2.2.2 r;rw [HN.out,List.take_length] at h5;exact h5 hr,hnd⟩);have HV:=hh HA.out.2.2.2.1;have HM0:=hh hM;have HML:=hh hml;have HND:=hh hnd;obtain ⟨ks,hks⟩:=nm (sortK (l.map rkey));have hkl:ks.length=i:=by rw [hks,d0O,List.length_map];exact HN.out.symm
     have HKS:=hh hks;have HKL:=hh hkl;clear hM hml hnd HA hlt hks hkl;go_wp2_with fail;refine (n0G g wr).mono ?_;rintro e w2 ⟨rfl,hw2⟩;obtain ⟨A1,hA1⟩:=nm (wr.heap.size);rw [← hA1];have hb2:Below wr.heap.size wr w2:=by rw [hw2];exact (Below.refl _ _).alloc (Nat.le_refl _) _
     have H1:=hh (show w2.heap[A1]? = some (.cells #[.map (some g)] 207 (0,0)) by rw [hw2,hA1];exact heap_alloc_new _ _);have HM2:=hh (HM.out.later hb2);have HB2:=bT HB hb2;clear hw2 hA1 hb2 HM HB hlm tm;go_wp2_with fail;refine (g0J H1.out HM2.out (by have:=HML.out;omega) (fun e=>by have:=HML.out;rw [e] at this;simp at this;omega)).mono ?_;rintro e w3 ⟨v3,rfl,hrd,hb3⟩;rw [HM0.out,k0A,← HKS.out] at hrd;obtain ⟨ad3,cap3,rfl,z1,z2⟩:=hrd.shape;rw [HKL.out] at hrd z1 ⊢;obtain ⟨b3,off3,rfl,hb3l⟩:=hrd.ptr (by rw [HKL.out];exact h0);have HRD:=hh hrd;have HM3:=hh (HM2.out.later hb3);have HB3:=bT HB2 hb3;have hmk:∀ w:World,(Instr.makeSlice 60 (.int .i64 0) (.int .i64 (i:Int))).run Tryz.prog w = .ok (.slice (some ⟨w.heap.size,0,none⟩) 0 i) (w.alloc (.cells (madeCells #[.int .i64 0,.int .i64 0,.int .u64 0,.int .u64 0,.int .u64 0,.int .u64 0] (i*6)) 63)):=fun w=>by
      obtain ⟨inf,h1,h2,h3,h4⟩:=info_parts Tryz.infoRow;have h5:=run_make (P:=Tryz.prog) w 60 63 inf _ Tryz.underlying60 h1 h2 .i64 .i64 0 (i:Int) (by omega) (by omega) (by rw [h4];omega) (by omega);rw [h3] at h5
      simpa [Value.cells] using h5
     clear hrd hb3 H1 HM2 HB2;go_wp2_with fail;obtain ⟨w4,hw4⟩:=nm (w3.alloc (.cells (madeCells #[.int .i64 0,.int .i64 0,.int .u64 0,.int .u64 0,.int .u64 0,.int .u64 0] (i*6)) 63));obtain ⟨G,hG⟩:=nm (w3.heap.size);rw [← hw4,← hG];have hb4:Below w3.heap.size w3 w4:=by rw [hw4];exact (Below.refl _ _).alloc (Nat.le_refl _) _
     have HO4:Hid (Own w4 G 63 rowE 6 (.slice (some ⟨G,0,none⟩) 0 i) ((sortR l).take 0)):=hh (by rw [hw4,hG];exact World.ownsRow_made w3 _ i (Nat.le_refl _) (by unfold maxLen;omega) (size_madeCells _ _));have HRD4:=hh (HRD.out.later hb4);have HM4:=hh (HM3.out.later hb4);have HB4:=bT HB3 hb4;have HGS:=hh (show G≤w4.heap.size by rw [hG];exact hb4.size);have HGG:=hh (show g < G∧b3 < G∧w.heap.size≤G by have:=HM3.out.lt;have:=HB3.out.size;omega);clear hw4 hG hb4 hmk HRD HM3 HB3 hb3l wr;go_wp2_with fail
     go_loopw [8,51] (fun vo x wr=>∃ j:Nat,x = .int .i64 j∧j≤i∧Hid (G≤wr.heap.size)∧Hid (Own wr G 63 rowE 6 vo ((sortR l).take j))∧Hid (Rd wr kE 2 (.slice (some ⟨b3,off3,none⟩) i cap3) ks)∧Hid (MapL kV mV wr g M)∧Hid (Below w.heap.size w wr)) (fun _ x _=>i - (intOf x).toNat)
     case atStart=>exact ⟨0,rfl,by omega,HGS,HO4,HRD4,HM4,HB4⟩
     case round=>
      clear HO4 HRD4 HM4 HB4 HGS;obtain ⟨j,rfl,hji,HGS,HO,HRD,HM,HB⟩:=hrel
      by_cases hlt:j < i
      ·have hjk:j < ks.length:=by rw [HKL.out];exact hlt
       obtain ⟨bq,oq,e,_,c0,c1⟩:=HRD.out.two j hjk
       cases e
       have hmem:ks[j]∈l.map rkey:=(b0G _).mem_iff.1 (by rw [← HKS.out];exact List.getElem_mem hjk);have hsr:(sortR l).take (j+1)=(sortR l).take j ++ [(⟨ks[j].1,ks[j].2,lookR l ks[j]⟩:LRow)]:=by
        rw [List.take_succ_eq_append_getElem (by rw [c0L,← HN.out];exact hlt)]
        congr 2
        simp only [sortR,List.getElem_map,← HKS.out]
       obtain ⟨⟨k1,k2⟩,hk⟩:∃ k,k=ks[j]:=⟨_,rfl⟩;rw [← hk] at c0 c1 hmem hsr;obtain ⟨m,hm⟩:=nm (lookR l (k1,k2));rw [← hm] at hsr;have HLK:Hid (∀ w',MapL kV mV w' g M→(Instr.lookup 207 (.map (some g)) (.agg #[.int .i64 k1,.int .i64 k2]) false).run Tryz.prog w' = .ok (.agg #[.int .u64 (uw0 m),.int .u64 (uw1 m),.int .u64 (uw2 m),.int .u64 (uw3 m)]) w'):=hh fun w' h=>by
        obtain ⟨q,hq,e⟩:=r0M hmem;have hqm:q < M.length:=by rw [HM0.out,List.length_map];exact hq
        have h5:=n0v Tryz.keyOk Tryz.underlying207 h HV.out (by rw [HM0.out,k0A];exact HND.out) q hqm;have h6:M[q]=kv l[q]:=by simp only [HM0.out,List.getElem_map]
        have h7:M[q].1=(k1,k2):=by rw [h6];exact e
        have h8:M[q].2=m:=by rw [h6,hm,← e,k0T HND.out q hq];rfl
        rw [h7,h8] at h5
        exact h5
       have HSR:=hh hsr;have HLT:=hh hlt;have HTL:=hh (show ((sortR l).take j).length=j by rw [List.length_take,c0L,← HN.out];omega);clear hmem hsr hk hm hjk
       go_wp2_with (refine sA _ Tryz.zeroKey ?_)
       intro X d1 hX
       go_wp2_with (refine a0a (t:=209) (old:=#[.int .i64 0,.int .i64 0]) rfl 209 _ _ rfl X #[.int .i64 k1,.int .i64 k2] rfl rfl hX.out.cells Tryz.sizeKey rfl (k0f _ _) ?_)
       intro d2 hxX kX zX;clear zX;have hbX:Below wr.heap.size wr d2:=hX.out.below.trans (kX.below (B:=wr.heap.size) (fun x hx e=>by have:=hX.out.eq;omega) hX.out.below.size);have HX:=hh hxX;have HGS2:=hh (Nat.le_trans HGS.out hbX.size);have HO2:=hh (HO.out.later hbX);have HRD2:=hh (HRD.out.later hbX);have HM2:=hh (HM.out.later hbX);have HB2:=bT HB hbX;clear hX hxX kX hbX HO HRD HM HB HGS c0 c1
       go_upto_region 18 with fail
       obtain ⟨wz,hwz,hbz⟩:=dr d2;have hS:=And.intro (a0c hbz HX.out) (HM2.out.later hbz);have HOz:=hh (HO2.out.later hbz);have HRDz:=hh (HRD2.out.later hbz);have HBz:=bT HB2 hbz;have HGSz:=hh (Nat.le_trans HGS2.out hbz.size);clear hbz HX HO2 HRD2 HM2 HB2 HGS2;refine rg (fun w'=>w'.heap[X]? = some (.cells #[.int .i64 k1,.int .i64 k2] 209 (0,0))∧MapL kV mV w' g M) 12 12 hwz hS ?_;clear hwz;refine tA1 0 55 hS ?_;go_frame;refine tA1 1 56 hS ?_;go_frame;refine tk 2 (some 57) rfl rfl (.inl ⟨by rfl,fun w' hS'=>(by have hc:w'.cell? ⟨X,0,none⟩=some (.int .i64 k1):=Lib.cell_of_heap hS'.1 0;go_simp;rfl)⟩) hS ?_;go_frame;refine tA1 3 58 hS ?_;go_frame;refine tk 4 (some 59) rfl rfl (.inl ⟨by rfl,fun w' hS'=>(by have hc:w'.cell? ⟨X,1,none⟩=some (.int .i64 k2):=Lib.cell_of_heap hS'.1 1;go_simp;rfl)⟩) hS ?_;go_frame;refine tA1 5 60 hS ?_;go_frame;refine tk 6 (some 61) rfl rfl (a0p (by rfl) 209 _ rfl (.pointer (some ⟨X,0,none⟩)) rfl (.agg #[.int .i64 k1,.int .i64 k2]) (fun w' hS'=>d0T hS'.1 Tryz.underlying209 rfl Tryz.sizeKey)) hS ?_;go_frame;refine tk 7 (some 62) rfl rfl (.inl ⟨by rfl,fun w' hS'=>(by have hq:=HLK.out w' hS'.2;go_simp;rfl)⟩) hS ?_;go_frame;refine tA1 8 63 hS ?_;go_frame;refine t1 9 fun K hK=>?_
       simp only [gA,jB,gC];go_simp;obtain ⟨w6,hw6⟩:=nm (wz.alloc (.cells #[.int .i64 k1,.int .i64 k2,.int .u64 (uw0 m),.int .u64 (uw1 m),.int .u64 (uw2 m),.int .u64 (uw3 m)] 63));have hb6:Below wz.heap.size wz w6:=by rw [hw6];exact (Below.refl _ _).alloc (Nat.le_refl _) _
       have hS6:=And.intro (a0c hb6 hS.1) (hS.2.later hb6);have HL6:=hh (show Rd w6 rowE 6 (.slice (some ⟨wz.heap.size,0,none⟩) 1 1) [(⟨k1,k2,m⟩:LRow)] by rw [hw6];exact r0Q wz ⟨k1,k2,m⟩ _);have HO6:=hh (HOz.out.later hb6);have HRD6:=hh (HRDz.out.later hb6);have HB6:=bT HBz hb6;have HGS6:=hh (Nat.le_trans HGSz.out hb6.size);rw [← hw6];clear hw6 hb6 HOz HRDz HBz HGSz hS;have hS:=hS6;clear hS6;refine hK _ _ (fun _ _=>hS) ?_;clear hK;refine t1 10 fun K hK=>?_
       simp only [gA,jB,gC];refine a0L (.tmp 55) (.tmp 64) 60 rfl Tryz.underlying60 Tryz.infoRow rfl (by decide) h0S q0Z HO6.out rfl _ rfl HL6.out (by rw [HTL.out];simp;unfold maxLen;omega) (by rw [HTL.out];simp;omega) (B:=w.heap.size) (w0:=w) HB6.out HGG.out.2.2 HGS6.out ?_;intro v7 w7 ho7 hb7 hg7;have hS7:=And.intro ((hg7.block X (a0b hS.1) (fun e=>by obtain ⟨cs,fr,h⟩:=HO6.out.cellsAt e.symm;rw [hS.1] at h;cases h)).trans hS.1) (hS.2.keep (S:=fun k=>Value.ownBlock _=some k) ⟨hg7.os,hg7.tape,hg7.output,hg7.size,fun k hk hn=>hg7.block k hk (fun e=>hn e.symm)⟩ (fun e=>by have:=(HO6.out.lt g e).1;have:=HGG.out.1;omega));have HO7:=hh ho7;have HB7:=hh hb7;have HGS7:=hh (Nat.le_trans HGS6.out hg7.size);have HRD7:=hh (HO6.out.rdo hg7 HRD6.out (fun q e=>by cases e;exact HGG.out.2.1));refine hK _ _ (fun _ _=>hS7) ?_;clear hK ho7 hb7 hg7 HO6 HRD6 HB6 HGS6 hS;have hS:=hS7;clear hS7;refine tA1 11 8 hS ?_;go_frame;refine tD ?_;go_wp2_with fail
       go_roundw
       case rel=>exact ⟨j+1,by go_num,HLT.out,HGS7,by rw [HSR.out];exact HO7,HRD7,hh hS.2,HB7⟩
       case measure=>have:=HLT.out;simp [intOf];omega
      ·obtain rfl:j=i:=by omega
       have HE:=hh (show (sortR l).take j=sortR l by rw [List.take_of_length_le (by rw [c0L,← HN.out];omega)]);rw [HE.out] at HO;go_wp2_with fail
       go_ret2
       exact ⟨HB.out,.inr ⟨_,_,HY.out,rfl,HO.out.mono HGG.out.2.2⟩⟩
    ·have hml:=HA.out.2.2.1 (by rw [HN.out,List.take_length];exact hnd);have tm:((M.length:Int) != (i:Int))=true:=by simp;omega
     have HF:=hh (e0z (l:=l) fun h=>hnd h.2.2);clear hml hnd;go_wp2_with fail
     go_ret2
     exact ⟨HB.out,.inl ⟨HF.out,rfl⟩⟩
end
section
set_option maxHeartbeats 4000000
set_option maxRecDepth 100000
open Go.RowKit

def fidx {α:Type} (p:α→Bool) (l:List α):Int:=match l.findIdx? p with
 | some i=>(i:Int)
 | none=>-1
theorem h0W {α:Type} {p:α→Bool} {l:List α} {i:Nat} (hi:i < l.length) (h1:∀ j (h:j < l.length),j < i→p l[j]=false) (h2:p l[i]=true):fidx p l=(i:Int):=by
 unfold fidx
 rw [show l.findIdx? p=some i from List.findIdx?_eq_some_iff_getElem.2 ⟨hi,h2,fun j hj=>by rw [h1 j (by omega) hj];decide⟩]
theorem e0i {α:Type} {p:α→Bool} {l:List α} (h:∀ j (h:j < l.length),p l[j]=false):fidx p l = -1:=by
 unfold fidx
 rw [show l.findIdx? p=none from List.findIdx?_eq_none_iff.2 fun x hx=>by obtain ⟨j,hj,rfl⟩:=List.mem_iff_getElem.1 hx;exact h j hj]
abbrev SlV:=Option Addr × Nat × Nat
def slV (s:SlV):Value:=.slice s.1 s.2.1 s.2.2
def gE (g:Int × SlV):List Value:=[.int .i64 g.1,slV g.2]
theorem r0G (g:Int × SlV):∀ u∈gE g,u.oneCell'=true:=by
 intro u hu;simp only [gE,slV,List.mem_cons,List.not_mem_nil,or_false] at hu
 rcases hu with rfl | rfl<;>rfl
theorem j0m (g:Int × SlV):(gE g).length=2:=rfl
theorem Rd.grp {w:World} {ad:Option Addr} {n cap:Nat} {l:List (Int × SlV)} (h:Rd w gE 2 (.slice ad n cap) l) (i:Nat) (hi:i < l.length) :
  ∃ b off,ad=some ⟨b,off,none⟩∧b < w.heap.size∧w.cell? ⟨b,off+i*2,none⟩=some (.int .i64 l[i].1)∧w.cell? ⟨b,off+i*2+1,none⟩=some (.slice l[i].2.1 l[i].2.2.1 l[i].2.2.2):=by
 obtain ⟨ad',cap',he,h1,h2,h3⟩:=h
 cases he
 obtain ⟨b,off,rfl,hb,hc⟩:=h3 (by intro hl;subst hl;simp at hi)
 exact ⟨b,off,rfl,hb,hc i hi 0 (by omega),hc i hi 1 (by omega)⟩

theorem o0o (t:Int) (A:Nat) (r:LRow) (w:World) (hA:w.heap[A]? = some (.cells #[.int .i64 t] 3 (0,0))) :
  Calls Tryz.prog 156 #[.agg #[.int .i64 r.e,.int .i64 r.t,.int .u64 (uw0 r.m),.int .u64 (uw1 r.m),.int .u64 (uw2 r.m),.int .u64 (uw3 r.m)],.pointer (some ⟨A,0,none⟩)] w (Ret w (.bool (decide (r.t=t)))):=by
 have hne:A≠w.heap.size:=Nat.ne_of_lt (a0b hA);have c0:(w.alloc (.cells #[.int .i64 r.e,.int .i64 r.t,.int .u64 (uw0 r.m),.int .u64 (uw1 r.m),.int .u64 (uw2 r.m),.int .u64 (uw3 r.m)] 63)).cell? ⟨A,0,none⟩=some (.int .i64 t):=Lib.cell_of_heap (a0c ((Below.refl w.heap.size w).alloc (Nat.le_refl _) _) hA) 0;obtain ⟨q,hq⟩:=nm (decide (r.t=t));have he:(r.t == t)=q:=by rw [hq];simp [BEq.beq]
 rw [← hq];clear hq
 go_enter Tryz.func156,Tryz.ntmps156
 go_wp2_with fail
 go_ret
 exact ⟨rfl,(Below.refl _ _).alloc (Nat.le_refl _) _⟩
theorem m0E (t:Int) (A:Nat) (x:Int) (a:Option Addr) (n c:Nat) (w:World) (hA:w.heap[A]? = some (.cells #[.int .i64 t] 3 (0,0))) :
  Calls Tryz.prog 74 #[.agg #[.int .i64 x,.slice a n c],.pointer (some ⟨A,0,none⟩)] w (Ret w (.bool (decide (x=t)))):=by
 have c0:(w.alloc (.cells #[.int .i64 x,.slice a n c] 144)).cell? ⟨A,0,none⟩=some (.int .i64 t):=Lib.cell_of_heap (a0c ((Below.refl w.heap.size w).alloc (Nat.le_refl _) _) hA) 0;obtain ⟨q,hq⟩:=nm (decide (x=t));have he:(x == t)=q:=by rw [hq];simp [BEq.beq]
 rw [← hq];clear hq hA
 go_enter Tryz.func74,Tryz.ntmps74
 go_wp2_with fail
 go_ret
 exact ⟨rfl,(Below.refl _ _).alloc (Nat.le_refl _) _⟩
theorem j0U (A:Nat) (r h0:LRow) (tl:List LRow) (v:Value) (w:World) (hA:w.heap[A]? = some (.cells #[v] 60 (0,0))) (hv:Rd w rowE 6 v (h0 :: tl)) :
  Calls Tryz.prog 198 #[.agg #[.int .i64 r.e,.int .i64 r.t,.int .u64 (uw0 r.m),.int .u64 (uw1 r.m),.int .u64 (uw2 r.m),.int .u64 (uw3 r.m)],.pointer (some ⟨A,0,none⟩)] w (Ret w (.bool (decide (r.e≠h0.e)))):=by
 obtain ⟨ad,cap,rfl,z1,z2⟩:=hv.shape;obtain ⟨b,off,rfl,hb,c1,_⟩:=hv.six 0 (by simp);obtain ⟨w1,hw1⟩:=nm (w.alloc (.cells #[.int .i64 r.e,.int .i64 r.t,.int .u64 (uw0 r.m),.int .u64 (uw1 r.m),.int .u64 (uw2 r.m),.int .u64 (uw3 r.m)] 63));obtain ⟨X,hX⟩:=nm (w.heap.size);have hbw:Below w.heap.size w w1:=by rw [hw1];exact (Below.refl _ _).alloc (Nat.le_refl _) _
 obtain ⟨q,hq⟩:=nm (decide (r.e≠h0.e));have he:(r.e != h0.e)=q:=by rw [hq];simp [bne,BEq.beq]
 rw [← hq];have c2:w1.cell? ⟨A,0,none⟩=some (.slice (some ⟨b,off,none⟩) (h0 :: tl).length cap):=Lib.cell_of_heap (a0c hbw hA) 0;have c3:w1.cell? ⟨b,off,none⟩=some (.int .i64 h0.e):=by
  rw [(bcell hbw).1 b off hb];simpa using c1
 have c4:w1.cell? ⟨X,0,none⟩=some (.int .i64 r.e):=Lib.cell_of_heap (show w1.heap[X]? = some (.cells #[.int .i64 r.e,.int .i64 r.t,.int .u64 (uw0 r.m),.int .u64 (uw1 r.m),.int .u64 (uw2 r.m),.int .u64 (uw3 r.m)] 63 (0,0)) by rw [hw1,hX];exact heap_alloc_new w _) 0;have hlen:0 < (h0 :: tl).length:=by simp
 obtain ⟨N,hN⟩:=nm ((h0 :: tl).length);rw [← hN] at c2 hlen;have hN0:(0:Int) < (N:Int):=by omega
 have HB:=hh hbw;clear hq hA hv z1 c1 hb hbw hN
 go_enter Tryz.func198,Tryz.ntmps198
 go_wp2_with fail;rw [← hw1,← hX];clear hw1 hX
 go_quiet (fail)
 go_wp2_with fail
 go_ret
 exact ⟨rfl,below_drewN HB.out _⟩

theorem q0N (w:World) (A:Nat) (p:LRow→Bool) (v:Value) (l:List (LRow)) (hr:Rd w rowE 6 v l) (hlen:l.length < 1000000000)
  (hcl:∀ W,Below w.heap.size w W→∀ x,x∈l→Calls Tryz.prog 156 #[.agg #[.int .i64 x.e,.int .i64 x.t,.int .u64 (uw0 x.m),.int .u64 (uw1 x.m),.int .u64 (uw2 x.m),.int .u64 (uw3 x.m)],.pointer (some ⟨A,0,none⟩)] W (Ret W (.bool (p x)))) :
  Calls Tryz.prog 155 #[v,.func (.func 156) #[] #[.pointer (some ⟨A,0,none⟩)]] w (Ret w (.int .i64 (fidx p l))):=by
 obtain ⟨ad,cap,rfl,z1,z2⟩:=hr.shape;obtain ⟨q,hq⟩:=nm (fidx p l);rw [← hq];obtain ⟨n,hn⟩:=nm (l.length);rw [← hn] at hr hlen ⊢;have HR:=hh hr;have HC:=hh hcl;have HQ:=hh hq;have HN:=hh hn;clear hr hcl hq hn z1
 go_enter Tryz.func155,Tryz.ntmps155
 go_wp2_with fail
 go_loopw [8] (fun x wr=>∃ i:Nat,x = .int .i64 i∧i≤n∧Hid (∀ j (h:j < l.length),j < i→p l[j]=false)∧Hid (Below w.heap.size w wr)) (fun x _=>n - (intOf x).toNat)
 case atStart=>exact ⟨0,rfl,by omega,hh fun j h hj=>by omega,hh (Below.refl _ _)⟩
 case round=>
  obtain ⟨i,rfl,hin,HP,HB⟩:=hrel
  by_cases hlt:i < n
  ·have hi:i < l.length:=by have:=HN.out;omega
   obtain ⟨b,off,rfl,_,c0,c1,c2,c3,c4,c5⟩:=(HR.out.later HB.out).six i hi;have hc:=HC.out wr HB.out l[i] (List.getElem_mem hi);have hp0:p l[i]=false→∀ j (h:j < l.length),j < i+1→p l[j]=false:=fun h0 j h hj=>by
    rcases (show j < i∨j=i by omega) with h1 | rfl
    ·exact HP.out j h h1
    ·exact h0
   have hp1:p l[i]=true→q=(i:Int):=fun h1=>by rw [HQ.out];exact h0W hi HP.out h1
   obtain ⟨x,hx⟩:=nm (l[i]);rw [← hx] at c0 c1 c2 c3 c4 c5 hc hp0 hp1;obtain ⟨z,hz⟩:=nm (p x);rw [← hz] at hc hp0 hp1;have HCC:=hh hc;have HP0:=hh hp0;have HP1:=hh hp1;clear hc hx hz hi hp0 hp1;go_wp2_with fail;refine HCC.out.mono ?_;rintro e w2 ⟨rfl,hb⟩;have HB2:=bT HB hb;clear hb HB c0 c1 c2 c3 c4 c5
   cases z with
   | false=>
    have HP2:=hh (HP0.out rfl);go_wp2_with fail
    go_roundw
    case rel=>exact ⟨i+1,by go_num,hlt,HP2,HB2⟩
    case measure=>simp [intOf];omega
   | true=>
    have HE:=hh (HP1.out rfl);go_wp2_with fail
    go_ret
    exact ⟨by rw [HE.out];rfl,HB2.out⟩
  ·obtain rfl:i=n:=by omega
   have HE:=hh (show q = -1 by rw [HQ.out];exact e0i fun j h=>HP.out j h (by rw [HN.out];exact h));go_wp2_with fail
   go_ret
   exact ⟨by rw [HE.out];rfl,HB.out⟩

theorem r0r (w:World) (A:Nat) (p:LRow→Bool) (v:Value) (l:List (LRow)) (hr:Rd w rowE 6 v l) (hlen:l.length < 1000000000)
  (hcl:∀ W,Below w.heap.size w W→∀ x,x∈l→Calls Tryz.prog 198 #[.agg #[.int .i64 x.e,.int .i64 x.t,.int .u64 (uw0 x.m),.int .u64 (uw1 x.m),.int .u64 (uw2 x.m),.int .u64 (uw3 x.m)],.pointer (some ⟨A,0,none⟩)] W (Ret W (.bool (p x)))) :
  Calls Tryz.prog 155 #[v,.func (.func 198) #[] #[.pointer (some ⟨A,0,none⟩)]] w (Ret w (.int .i64 (fidx p l))):=by
 obtain ⟨ad,cap,rfl,z1,z2⟩:=hr.shape;obtain ⟨q,hq⟩:=nm (fidx p l);rw [← hq];obtain ⟨n,hn⟩:=nm (l.length);rw [← hn] at hr hlen ⊢;have HR:=hh hr;have HC:=hh hcl;have HQ:=hh hq;have HN:=hh hn;clear hr hcl hq hn z1
 go_enter Tryz.func155,Tryz.ntmps155
 go_wp2_with fail
 go_loopw [8] (fun x wr=>∃ i:Nat,x = .int .i64 i∧i≤n∧Hid (∀ j (h:j < l.length),j < i→p l[j]=false)∧Hid (Below w.heap.size w wr)) (fun x _=>n - (intOf x).toNat)
 case atStart=>exact ⟨0,rfl,by omega,hh fun j h hj=>by omega,hh (Below.refl _ _)⟩
 case round=>
  obtain ⟨i,rfl,hin,HP,HB⟩:=hrel
  by_cases hlt:i < n
  ·have hi:i < l.length:=by have:=HN.out;omega
   obtain ⟨b,off,rfl,_,c0,c1,c2,c3,c4,c5⟩:=(HR.out.later HB.out).six i hi;have hc:=HC.out wr HB.out l[i] (List.getElem_mem hi);have hp0:p l[i]=false→∀ j (h:j < l.length),j < i+1→p l[j]=false:=fun h0 j h hj=>by
    rcases (show j < i∨j=i by omega) with h1 | rfl
    ·exact HP.out j h h1
    ·exact h0
   have hp1:p l[i]=true→q=(i:Int):=fun h1=>by rw [HQ.out];exact h0W hi HP.out h1
   obtain ⟨x,hx⟩:=nm (l[i]);rw [← hx] at c0 c1 c2 c3 c4 c5 hc hp0 hp1;obtain ⟨z,hz⟩:=nm (p x);rw [← hz] at hc hp0 hp1;have HCC:=hh hc;have HP0:=hh hp0;have HP1:=hh hp1;clear hc hx hz hi hp0 hp1;go_wp2_with fail;refine HCC.out.mono ?_;rintro e w2 ⟨rfl,hb⟩;have HB2:=bT HB hb;clear hb HB c0 c1 c2 c3 c4 c5
   cases z with
   | false=>
    have HP2:=hh (HP0.out rfl);go_wp2_with fail
    go_roundw
    case rel=>exact ⟨i+1,by go_num,hlt,HP2,HB2⟩
    case measure=>simp [intOf];omega
   | true=>
    have HE:=hh (HP1.out rfl);go_wp2_with fail
    go_ret
    exact ⟨by rw [HE.out];rfl,HB2.out⟩
  ·obtain rfl:i=n:=by omega
   have HE:=hh (show q = -1 by rw [HQ.out];exact e0i fun j h=>HP.out j h (by rw [HN.out];exact h));go_wp2_with fail
   go_ret
   exact ⟨by rw [HE.out];rfl,HB.out⟩

theorem r0c (w:World) (A:Nat) (p:Int × SlV→Bool) (v:Value) (l:List (Int × SlV)) (hr:Rd w gE 2 v l) (hlen:l.length < 1000000000)
  (hcl:∀ W,Below w.heap.size w W→∀ x,x∈l→Calls Tryz.prog 74 #[.agg #[.int .i64 x.1,.slice x.2.1 x.2.2.1 x.2.2.2],.pointer (some ⟨A,0,none⟩)] W (Ret W (.bool (p x)))) :
  Calls Tryz.prog 73 #[v,.func (.func 74) #[] #[.pointer (some ⟨A,0,none⟩)]] w (Ret w (.int .i64 (fidx p l))):=by
 obtain ⟨ad,cap,rfl,z1,z2⟩:=hr.shape;obtain ⟨q,hq⟩:=nm (fidx p l);rw [← hq];obtain ⟨n,hn⟩:=nm (l.length);rw [← hn] at hr hlen ⊢;have HR:=hh hr;have HC:=hh hcl;have HQ:=hh hq;have HN:=hh hn;clear hr hcl hq hn z1
 go_enter Tryz.func73,Tryz.ntmps73
 go_wp2_with fail
 go_loopw [8] (fun x wr=>∃ i:Nat,x = .int .i64 i∧i≤n∧Hid (∀ j (h:j < l.length),j < i→p l[j]=false)∧Hid (Below w.heap.size w wr)) (fun x _=>n - (intOf x).toNat)
 case atStart=>exact ⟨0,rfl,by omega,hh fun j h hj=>by omega,hh (Below.refl _ _)⟩
 case round=>
  obtain ⟨i,rfl,hin,HP,HB⟩:=hrel
  by_cases hlt:i < n
  ·have hi:i < l.length:=by have:=HN.out;omega
   obtain ⟨b,off,rfl,_,c0,c1⟩:=(HR.out.later HB.out).grp i hi;have hc:=HC.out wr HB.out l[i] (List.getElem_mem hi);have hp0:p l[i]=false→∀ j (h:j < l.length),j < i+1→p l[j]=false:=fun h0 j h hj=>by
    rcases (show j < i∨j=i by omega) with h1 | rfl
    ·exact HP.out j h h1
    ·exact h0
   have hp1:p l[i]=true→q=(i:Int):=fun h1=>by rw [HQ.out];exact h0W hi HP.out h1
   obtain ⟨x,hx⟩:=nm (l[i]);rw [← hx] at c0 c1 hc hp0 hp1;obtain ⟨z,hz⟩:=nm (p x);rw [← hz] at hc hp0 hp1;have HCC:=hh hc;have HP0:=hh hp0;have HP1:=hh hp1;clear hc hx hz hi hp0 hp1;go_wp2_with fail;refine HCC.out.mono ?_;rintro e w2 ⟨rfl,hb⟩;have HB2:=bT HB hb;clear hb HB c0 c1
   cases z with
   | false=>
    have HP2:=hh (HP0.out rfl);go_wp2_with fail
    go_roundw
    case rel=>exact ⟨i+1,by go_num,hlt,HP2,HB2⟩
    case measure=>simp [intOf];omega
   | true=>
    have HE:=hh (HP1.out rfl);go_wp2_with fail
    go_ret
    exact ⟨by rw [HE.out];rfl,HB2.out⟩
  ·obtain rfl:i=n:=by omega
   have HE:=hh (show q = -1 by rw [HQ.out];exact e0i fun j h=>HP.out j h (by rw [HN.out];exact h));go_wp2_with fail
   go_ret
   exact ⟨by rw [HE.out];rfl,HB.out⟩
end
section
set_option maxHeartbeats 16000000
set_option maxRecDepth 100000
open Go.RowKit

def lead (e:Int):List LRow→Nat
 | []=>0
 | x :: l=>if x.e=e then lead e l+1 else 0
theorem p0q (e:Int):∀ l,lead e l≤l.length
 | []=>Nat.le_refl _
 | x :: l=>by unfold lead;have:=p0q e l;split<;>simp;omega
theorem i0e (e:Int):∀ (l:List LRow) (j:Nat) (h:j < l.length),j < lead e l→l[j].e=e
 | [],_,h,_=>by simp at h
 | x :: l,j,h,hj=>by
  unfold lead at hj
  split at hj
  ·cases j with
   | zero=>assumption
   | succ j=>exact i0e e l j (by simpa using h) (by omega)
  ·omega
theorem h0x (e:Int):∀ (l:List LRow) (h:lead e l < l.length),l[lead e l].e≠e
 | [],h=>by simp at h
 | x :: l,h=>by
  by_cases hx:x.e=e
  ·have e1:lead e (x :: l)=lead e l+1:=by rw [lead,if_pos hx]
   rw [e1] at h;have:=h0x e l (by simpa using h)
   simpa only [e1,List.getElem_cons_succ] using this
  ·have e1:lead e (x :: l)=0:=by rw [lead,if_neg hx]
   simpa only [e1,List.getElem_cons_zero] using hx
def groupsF:List LRow→List (Int × List LRow)
 | []=>[]
 | r :: l=>(r.e,r :: l.take (lead r.e l)) :: groupsF (l.drop (lead r.e l))
termination_by l=>l.length
decreasing_by simp;omega
theorem d0C:groupsF [] = []:=by rw [groupsF]
theorem b0T (r:LRow) (l:List LRow):groupsF (r :: l)=(r.e,r :: l.take (lead r.e l)) :: groupsF (l.drop (lead r.e l)):=by rw [groupsF]
def headN (r:LRow) (l:List LRow):Nat:=lead r.e l+1
theorem f0j (r:LRow) (l:List LRow):headN r l≤(r :: l).length:=by
 have:=p0q r.e l
 unfold headN;simp;omega
theorem o0v (r:LRow) (l:List LRow):(r :: l).take (headN r l)=r :: l.take (lead r.e l):=rfl
theorem p0m (r:LRow) (l:List LRow):(r :: l).drop (headN r l)=l.drop (lead r.e l):=rfl
theorem p0W (r:LRow) (l:List LRow):(fidx (fun x:LRow=>decide (x.e≠r.e)) (r :: l) < 0∧headN r l=(r :: l).length)∨fidx (fun x:LRow=>decide (x.e≠r.e)) (r :: l)=(headN r l:Int):=by
 have hT:∀ j (h:j < (r :: l).length),j < headN r l→decide ((r :: l)[j].e≠r.e)=false:=fun j h hj=>by
  cases j with
  | zero=>simp
  | succ j=>
   have h1:=i0e r.e l j (by simpa using h) (by unfold headN at hj;omega);have h2:(r :: l)[j+1].e=r.e:=h1
   exact decide_eq_false (fun k=>k h2)
 rcases Nat.lt_or_ge (headN r l) (r :: l).length with h | h
 ·right
  have h1:=h0x r.e l (by unfold headN at h;simpa using h)
  exact h0W h hT (decide_eq_true h1)
 ·left
  have:=f0j r l;refine ⟨?_,by omega⟩;rw [e0i (fun j hj=>hT j hj (by omega))]
  decide
def GPair (w:World) (b:Option Nat) (raws:List (Int × SlV)) (gs:List (Int × List LRow)):Prop:=raws.length=gs.length∧(∀ (i:Nat) (r:Int × SlV) (g:Int × List LRow),raws[i]? = some r→gs[i]? = some g→r.1=g.1∧Rd w rowE 6 (slV r.2) g.2)∧∀ r∈raws,∀ k,(slV r.2).ownBlock=some k→b=some k
theorem GPair.keep {w w':World} {b:Option Nat} {raws:List (Int × SlV)} {gs:List (Int × List LRow)} (h:GPair w b raws gs) {S:Nat→Prop} (hk:Keep S w w') (hS:∀ x,b=some x→¬ S x):GPair w' b raws gs:=
 ⟨h.1,fun i r g h1 h2=>⟨(h.2.1 i r g h1 h2).1,(h.2.1 i r g h1 h2).2.keep hk fun k e _=>hS k (h.2.2 r (List.mem_of_getElem? h1) k e)⟩,h.2.2⟩
theorem GPair.later {w w':World} {b:Option Nat} {raws:List (Int × SlV)} {gs:List (Int × List LRow)} (h:GPair w b raws gs) (hb:Below w.heap.size w w'):GPair w' b raws gs:=h.keep (S:=fun _=>False) (Keep.of_below hb) fun _ _ h=>h
theorem GPair.snoc {w:World} {b:Option Nat} {raws:List (Int × SlV)} {gs:List (Int × List LRow)} (h:GPair w b raws gs) {x:Int} {v:SlV} {l:List LRow} (hv:Rd w rowE 6 (slV v) l) (hb:∀ k,(slV v).ownBlock=some k→b=some k):GPair w b (raws ++ [(x,v)]) (gs ++ [(x,l)]):=by
 refine ⟨by simp [h.1],fun i r g h1 h2=>?_,fun r hr=>?_⟩
 ·rcases Nat.lt_or_ge i raws.length with hi | hi
  ·rw [List.getElem?_append_left hi] at h1;rw [List.getElem?_append_left (by rw [← h.1];exact hi)] at h2
   exact h.2.1 i r g h1 h2
  ·rw [List.getElem?_append_right hi] at h1;rw [List.getElem?_append_right (by rw [← h.1];exact hi)] at h2;have h0:i - raws.length=0:=by
    rcases Nat.eq_zero_or_pos (i - raws.length) with h | h
    ·exact h
    ·rw [List.getElem?_eq_none (by simp;omega)] at h1;cases h1
   rw [h0] at h1;rw [← h.1,h0] at h2
   simp at h1 h2
   subst h1 h2
   exact ⟨rfl,hv⟩
 ·rcases List.mem_append.1 hr with hr | hr
  ·exact h.2.2 r hr
  ·simp at hr;subst hr;exact hb
def GroupsRet (w:World) (b:Option Nat) (gs:List (Int × List LRow)) (e:Ending) (w':World):Prop:=∃ v raws,e = .returned v∧Own w' w.heap.size 144 gE 2 v raws∧GPair w b raws gs∧Below w.heap.size w w'
theorem m0Z {P:Program} {t e:TypeId} (ht:P.underlying t=some (.slice e)) {sz:Nat} (hs:(P.info? e).map (·.size)=some sz) (w:World) (ad:Option Addr) (L cap n:Nat) (hn:n≤cap) (kl:IntKind) :
  (Instr.slice t (.slice ad L cap) none (some (.int kl (n:Int))) (some (.int kl (n:Int)))).run P w = .ok (.slice (if n=0 then ad else ad.map (·.add (0*sz))) n n) w:=by
 cases hq:P.info? e with
 | none=>simp [hq] at hs
 | some inf=>
  have h5:(0:Int)≤n:=by omega
  have h6:(n:Int)≤(cap:Int):=by omega
  simp [Instr.slice,run_underlying ht,Instr.sliceBounds,run_sliceBound,h5,h6,sizeOf,typeInfo,hq]
theorem Rd.cut3 {w:World} {ad:Option Addr} {n cap k:Nat} {l:List LRow} (h:Rd w rowE 6 (.slice ad n cap) l) (hk:k≤l.length):Rd w rowE 6 (.slice (if k=0 then ad else ad.map (·.add (0*6))) k k) (l.take k)∧∀ q,(Value.slice (if k=0 then ad else ad.map (·.add (0*6))) k k).ownBlock=some q→Value.ownBlock (.slice ad n cap)=some q:=by
 obtain ⟨ad',cap',e,h1,h2,h3⟩:=h
 cases e
 have hk2:(l.take k).length=k:=by rw [List.length_take];omega
 constructor
 ·refine ⟨_,_,by rw [hk2],by omega,by omega,fun hne=>?_⟩;have hk0:k≠0:=by intro e;subst e;simp at hne
  obtain ⟨b,off,rfl,hb,hc⟩:=h3 (by intro e;subst e;simp at hne);refine ⟨b,off,by rw [if_neg hk0];simp [Addr.add],hb,fun i hi j hj=>?_⟩;rw [hk2] at hi;rw [hc i (by omega) j hj]
  simp
 ·intro q hq
  cases ad with
  | none=>split at hq<;>simp [Value.ownBlock] at hq
  | some a=>
   have:(if k=0 then some a else Option.map (fun x=>x.add (0*6)) (some a))=some a:=by split<;>simp [Addr.add]
   rw [this] at hq
   exact hq

theorem Tryz.infoGrp:(Tryz.prog.info? 144).map (fun i=>(i.zero,i.size,i.bytes))=some (some (.agg #[.int .i64 0,.slice none 0 0]),2,32):=by kernel_rfl
theorem Tryz.sizeGrp:(Tryz.prog.info? 144).map (·.size)=some 2:=by kernel_rfl
theorem r0T (w:World) (x:Int) (v:SlV) (e:TypeId):Rd (w.alloc (.cells #[.int .i64 x,.slice v.1 v.2.1 v.2.2] e)) gE 2 (.slice (some ⟨w.heap.size,0,none⟩) 1 1) [(x,v)]:=by
 refine ⟨_,_,rfl,Nat.le_refl _,by unfold maxLen;omega,fun _=>⟨_,_,rfl,by simp,fun i hi j hj=>?_⟩⟩;obtain rfl:i=0:=by simpa using hi
 rw [Lib.cell_of_heap (heap_alloc_new w _)]
 simp [gE,slV]
def lenAt (w:World) (A:Nat):Nat:=match w.cell? ⟨A,0,none⟩ with
 | some (.slice _ n _)=>n
 | _=>0
theorem i0i {w:World} {A:Nat} {ad:Option Addr} {n cap:Nat} (h:w.cell? ⟨A,0,none⟩=some (.slice ad n cap)):lenAt w A=n:=by unfold lenAt;rw [h]
theorem m0k (w:World) (v:Value) (l:List LRow) (hr:Rd w rowE 6 v l) (hlen:l.length < 1000000):Calls Tryz.prog 152 #[v] w (GroupsRet w v.ownBlock (groupsF l)):=by
 obtain ⟨ad0,cap0,rfl,_,_⟩:=hr.shape;obtain ⟨n0,hn0⟩:=nm (l.length);rw [← hn0] at hr hlen ⊢;have HR:=hh hr;have HL:=hh hlen;have HN0:=hh hn0;clear hr hlen hn0
 go_enter Tryz.func152,Tryz.ntmps152
 go_wp2_with fail;obtain ⟨w1,hw1⟩:=nm (w.alloc (.cells #[.slice ad0 n0 cap0] 60));obtain ⟨A,hA⟩:=nm (w.heap.size);rw [← hw1,← hA];have HA1:=hh (show w1.heap[A]? = some (.cells #[.slice ad0 n0 cap0] 60 (0,0)) by rw [hw1,hA];exact heap_alloc_new _ _);have HB1:=hh (show Below w.heap.size w w1 by rw [hw1];exact (Below.refl _ _).alloc (Nat.le_refl _) _);have WA:=hh hA;clear hw1 hA
 go_loopw [3] (fun vo wr=>∃ (rest:List LRow) (vl:Value) (raws:List (Int × SlV)) (done:List (Int × List LRow)),Hid (wr.heap[A]? = some (.cells #[vl] 60 (0,0)))∧Hid (Rd w rowE 6 vl rest)∧Hid (rest.length≤l.length) ∧
   Hid (Own wr (A+1) 144 gE 2 vo raws)∧Hid (∀ k,vl.ownBlock=some k→Value.ownBlock (.slice ad0 n0 cap0)=some k)∧Hid (GPair w (Value.ownBlock (.slice ad0 n0 cap0)) raws done)∧Hid (raws.length+rest.length≤l.length)∧Hid (done ++ groupsF rest=groupsF l)∧Hid (Below w.heap.size w wr)) (fun _ wr=>lenAt wr A)
 case atStart=>exact ⟨l,_,[],[],HA1,HR,hh (Nat.le_refl _),hh (Own.nil _ _ _ _ _),hh (fun k h=>h),hh ⟨rfl,(fun i r g h=>by simp at h),fun r h=>by simp at h⟩,hh (by simp),hh rfl,HB1⟩
 case round=>
  clear HA1 HB1;obtain ⟨rest,vl,raws,done,HA,HRR,HRL,HO,HVB,HG,HRW,HE,HB⟩:=hrel;obtain ⟨ad,cap,rfl,z1,z2⟩:=HRR.out.shape
  cases rest with
  | nil=>
   have cA:wr.cell? ⟨A,0,none⟩=some (.slice ad ([]:List LRow).length cap):=Lib.cell_of_heap HA.out 0;simp only [List.length_nil] at cA;rw [d0C,List.append_nil] at HE;clear z1;go_wp2_with fail
   go_ret
   exact ⟨_,raws,rfl,HO.out.mono (by rw [WA.out];exact Nat.le_succ _),by rw [← HE.out];exact HG.out,HB.out⟩
  | cons r tl=>
   obtain ⟨b,off,rfl,hbl,c0,_⟩:=(HRR.out.later HB.out).six 0 (by simp);replace c0:wr.cell? ⟨b,off,none⟩=some (.int .i64 r.e):=by simpa using c0
   obtain ⟨L,hL⟩:=nm ((r :: tl).length);rw [← hL] at HRR z1 HRW HRL;have hL1:1≤L:=by rw [hL];simp
   have cA:wr.cell? ⟨A,0,none⟩=some (.slice (some ⟨b,off,none⟩) L cap):=by rw [hL];exact Lib.cell_of_heap HA.out 0
   have HA2:=hh (show wr.heap[A]? = some (.cells #[.slice (some ⟨b,off,none⟩) L cap] 60 (0,0)) by rw [hL];exact HA.out);obtain ⟨N,hN⟩:=nm (headN r tl);have hNL:1≤N∧N≤L:=by rw [hN,hL];exact ⟨by unfold headN;omega,f0j r tl⟩
   have hcut:=HRR.out.cut3 (k:=N) (by rw [hN];exact f0j r tl);have hfrom:=HRR.out.from Tryz.underlying60 (sz:=6) Tryz.sizeRow N (by rw [hN];exact f0j r tl);have hadd:(if N=0 then (some ⟨b,off,none⟩:Option Addr) else Option.map (fun x:Addr=>x.add (0*6)) (some ⟨b,off,none⟩))=some ⟨b,off,none⟩:=by split<;>simp [Addr.add]
   have hsl:=fun (w:World) (kl:IntKind)=>m0Z (P:=Tryz.prog) Tryz.underlying60 Tryz.sizeRow w (some ⟨b,off,none⟩) L cap N (by omega) kl
   rw [hadd] at hcut;simp only [hadd] at hsl;have hgr:groupsF (r :: tl)=(r.e,(r :: tl).take N) :: groupsF ((r :: tl).drop N):=by rw [b0T,hN,o0v,p0m]
   have HGR:=hh (show (done ++ [(r.e,(r :: tl).take N)]) ++ groupsF ((r :: tl).drop N)=groupsF l by rw [← HE.out,hgr,List.append_assoc];rfl);obtain ⟨vd,hvd1,hvd2,hvd3⟩:=hfrom;obtain ⟨adv,capv,rfl,_,_⟩:=hvd2.shape;have hdl:((r :: tl).drop N).length=L - N:=by rw [List.length_drop,← hL]
   obtain ⟨D,hD⟩:=nm (L - N);rw [← hD] at hdl;rw [hdl] at hvd1 hvd2 hvd3;have HD:=hh (show D+N=L∧1≤N by omega);have HG2:=hh (HG.out.snoc (x:=r.e) (v:=(some ⟨b,off,none⟩,N,N)) hcut.1 (fun k e=>HVB.out k (hcut.2 k e)));have HVB2:Hid (∀ k,Value.ownBlock (.slice adv D capv)=some k→Value.ownBlock (.slice ad0 n0 cap0)=some k):=hh (fun k e=>HVB.out k (hvd3 k e));have HVD:=hh hvd2;have HDL:=hh hdl;have HML:=hh (i0i cA);have hii:=p0W r tl;rw [← hN,← hL] at hii;have hix:=r0r wr A (fun x=>decide (x.e≠r.e)) _ (r :: tl) (HRR.out.later HB.out) (by rw [← hL];have:=HRL.out;have:=HL.out;have:=HN0.out;omega) (fun W hb x _=>j0U A x r tl _ W (a0c hb HA2.out) (HRR.out.later (HB.out.trans (hb.mono HB.out.size))));obtain ⟨q,hq⟩:=nm (fidx (fun x=>decide (x.e≠r.e)) (r :: tl));rw [← hq] at hii hix;have HIX:=hh hix;have hLi:0 < L:=hL1;have hNc:N≤cap:=by omega
   have HBL:=hh (show b < w.heap.size from HRR.out.lt b rfl (by simp));have HCE:=hh (show w.cell? ⟨b,off,none⟩=some (.int .i64 r.e) by rw [← (bcell HB.out).1 b off (HRR.out.lt b rfl (by simp))];exact c0);clear hq hix hcut hvd2 hvd3 HVB hdl hD hgr HE HG hadd hL hN HA c0 z1;go_wp2_with fail;refine HIX.out.mono ?_;rintro e w2 ⟨rfl,hb2⟩;have hA3:=a0c hb2 HA2.out;have HO2:=hh (HO.out.later hb2);have HB2:=bT HB hb2;have cA2:w2.cell? ⟨A,0,none⟩=some (.slice (some ⟨b,off,none⟩) L cap):=Lib.cell_of_heap hA3 0;have HA3:=hh hA3;clear hb2 hA3 HIX HO HB cA HA2
   rcases hii with ⟨hq0,hNL2⟩ | rfl
   ·subst hNL2
    go_upto_region 6 with fail
    obtain ⟨wz,hwz,hbz⟩:=dr w2;have hS:=And.intro (a0c hbz HA3.out) (((bcell (HB2.out.trans (hbz.mono HB2.out.size))).1 b off HBL.out).trans HCE.out);have HOz:=hh (HO2.out.later hbz);have HBz:=bT HB2 hbz;clear hbz HO2 HB2 HA3 cA2;refine rg (fun w'=>w'.heap[A]? = some (.cells #[.slice (some ⟨b,off,none⟩) N cap] 60 (0,0))∧w'.cell? ⟨b,off,none⟩=some (.int .i64 r.e)) 13 13 hwz hS ?_;clear hwz;refine tA1 0 15 hS ?_;go_frame;refine tk 1 (some 16) rfl rfl (.inl ⟨by rfl,fun w' hS'=>(by have hc:w'.cell? ⟨A,0,none⟩=some (.slice (some ⟨b,off,none⟩) N cap):=Lib.cell_of_heap hS'.1 0;go_simp;rfl)⟩) hS ?_;go_frame;refine tA1 2 17 hS ?_;go_frame;refine tA1 3 18 hS ?_;go_frame;refine tk 4 (some 19) rfl rfl (.inl ⟨by rfl,fun w' hS'=>(by have hc:=hS'.2;go_simp;rfl)⟩) hS ?_;go_frame;refine tk 5 (some 20) rfl rfl (.inl ⟨by rfl,fun w' hS'=>(by have hc:w'.cell? ⟨A,0,none⟩=some (.slice (some ⟨b,off,none⟩) N cap):=Lib.cell_of_heap hS'.1 0;go_simp;rfl)⟩) hS ?_;go_frame;refine tA1 6 21 hS ?_;go_frame;refine tA1 7 22 hS ?_;go_frame;refine tA1 8 23 hS ?_;go_frame;refine tA1 9 24 hS ?_;go_frame;refine t1 10 fun K hK=>?_
    simp only [gA,jB,gC];go_simp;obtain ⟨w6,hw6⟩:=nm (wz.alloc (.cells #[.int .i64 r.e,.slice (some ⟨b,off,none⟩) N N] 144));have hb6:Below wz.heap.size wz w6:=by rw [hw6];exact (Below.refl _ _).alloc (Nat.le_refl _) _
    have hS6:=And.intro (a0c hb6 hS.1) (((bcell hb6).1 b off (block_lt_of_cell hS.2)).trans hS.2);have HL6:=hh (show Rd w6 gE 2 (.slice (some ⟨wz.heap.size,0,none⟩) 1 1) [((r.e,(some ⟨b,off,none⟩,N,N)):Int × SlV)] by rw [hw6];exact r0T wz r.e (some ⟨b,off,none⟩,N,N) _);have HO6:=hh (HOz.out.later hb6);have HB6:=bT HBz hb6;rw [← hw6];clear hw6 hb6 HOz HBz hS;have hS:=hS6;clear hS6;refine hK _ _ (fun _ _=>hS) ?_;clear hK;refine t1 11 fun K hK=>?_
    simp only [gA,jB,gC];refine a0L (.tmp 15) (.tmp 25) 137 rfl Tryz.underlying137 Tryz.infoGrp rfl (by decide) j0m r0G HO6.out rfl _ rfl HL6.out (by have:=HRW.out;have:=HL.out;have:=HN0.out;simp;unfold maxLen;omega) (by have:=HRW.out;have:=HL.out;have:=HN0.out;simp;omega) (B:=w.heap.size) (w0:=w) HB6.out (by rw [WA.out];exact Nat.le_succ _) (Nat.succ_le_of_lt (a0b hS.1)) ?_;intro v7 w7 ho7 hb7 hg7;have hS7:=And.intro (HO6.out.other hg7 (Nat.lt_succ_self A) hS.1) (((bcell hb7).1 b off HBL.out).trans HCE.out);have HO7:=hh ho7;have HB7:=hh hb7;refine hK _ _ (fun _ _=>hS7) ?_;clear hK ho7 hb7 hg7 HO6 HB6 hS;have hS:=hS7;clear hS7;refine tA1 12 3 hS ?_;go_frame;refine tD ?_;have cA7:w7.cell? ⟨A,0,none⟩=some (.slice (some ⟨b,off,none⟩) N cap):=Lib.cell_of_heap hS.1 0;have fA7:w7.frozen? ⟨A,0,none⟩=false:=Lib.frozen_of_heap hS.1 0;have HS7:=hh hS;clear hS;go_wp2_with fail;have hk:Keep (· = A) w7 (w7.setCell ⟨A,0,none⟩ (.slice adv D capv)):=Keep.setCell (S:=(· = A)) (p:=⟨A,0,none⟩) (Keep.refl _ _) (.inl rfl) _;have hA8:=heap_setCell_same w7 A 0 _ _ (Value.slice adv D capv) HS7.out.1;have HA8:=hh (show (w7.setCell ⟨A,0,none⟩ (.slice adv D capv)).heap[A]? = some (.cells #[.slice adv D capv] 60 (0,0)) from hA8);have HO8:=hh (HO7.out.keep hk fun k e h=>by have:=(HO7.out.lt k e).1;omega)
    have HB8:=hh (HB7.out.trans (hk.below (B:=w.heap.size) (fun q hq e=>by have:=WA.out;omega) HB7.out.size));clear hk hA8 cA7 fA7
    go_roundw
    case rel=>
     refine ⟨_,_,_,_,HA8,HVD,hh ?_,HO8,HVB2,HG2,hh ?_,HGR,HB8⟩
     ·have:=HDL.out;have:=HRL.out;have:=HD.out;omega
     ·have:=HDL.out;have:=HRW.out;have:=HD.out;simp only [List.length_append,List.length_singleton];omega
    case measure=>
     rw [HML.out,i0i (Lib.cell_of_heap HA8.out 0)];have:=HD.out;omega
   ·go_upto_region 6 with fail
    obtain ⟨wz,hwz,hbz⟩:=dr w2;have hS:=And.intro (a0c hbz HA3.out) (((bcell (HB2.out.trans (hbz.mono HB2.out.size))).1 b off HBL.out).trans HCE.out);have HOz:=hh (HO2.out.later hbz);have HBz:=bT HB2 hbz;clear hbz HO2 HB2 HA3 cA2;refine rg (fun w'=>w'.heap[A]? = some (.cells #[.slice (some ⟨b,off,none⟩) L cap] 60 (0,0))∧w'.cell? ⟨b,off,none⟩=some (.int .i64 r.e)) 13 13 hwz hS ?_;clear hwz;refine tA1 0 15 hS ?_;go_frame;refine tk 1 (some 16) rfl rfl (.inl ⟨by rfl,fun w' hS'=>(by have hc:w'.cell? ⟨A,0,none⟩=some (.slice (some ⟨b,off,none⟩) L cap):=Lib.cell_of_heap hS'.1 0;go_simp;rfl)⟩) hS ?_;go_frame;refine tA1 2 17 hS ?_;go_frame;refine tA1 3 18 hS ?_;go_frame;refine tk 4 (some 19) rfl rfl (.inl ⟨by rfl,fun w' hS'=>(by have hc:=hS'.2;go_simp;rfl)⟩) hS ?_;go_frame;refine tk 5 (some 20) rfl rfl (.inl ⟨by rfl,fun w' hS'=>(by have hc:w'.cell? ⟨A,0,none⟩=some (.slice (some ⟨b,off,none⟩) L cap):=Lib.cell_of_heap hS'.1 0;go_simp;rfl)⟩) hS ?_;go_frame;refine tA1 6 21 hS ?_;go_frame;refine tA1 7 22 hS ?_;go_frame;refine tA1 8 23 hS ?_;go_frame;refine tA1 9 24 hS ?_;go_frame;refine t1 10 fun K hK=>?_
    simp only [gA,jB,gC];go_simp;obtain ⟨w6,hw6⟩:=nm (wz.alloc (.cells #[.int .i64 r.e,.slice (some ⟨b,off,none⟩) N N] 144));have hb6:Below wz.heap.size wz w6:=by rw [hw6];exact (Below.refl _ _).alloc (Nat.le_refl _) _
    have hS6:=And.intro (a0c hb6 hS.1) (((bcell hb6).1 b off (block_lt_of_cell hS.2)).trans hS.2);have HL6:=hh (show Rd w6 gE 2 (.slice (some ⟨wz.heap.size,0,none⟩) 1 1) [((r.e,(some ⟨b,off,none⟩,N,N)):Int × SlV)] by rw [hw6];exact r0T wz r.e (some ⟨b,off,none⟩,N,N) _);have HO6:=hh (HOz.out.later hb6);have HB6:=bT HBz hb6;rw [← hw6];clear hw6 hb6 HOz HBz hS;have hS:=hS6;clear hS6;refine hK _ _ (fun _ _=>hS) ?_;clear hK;refine t1 11 fun K hK=>?_
    simp only [gA,jB,gC];refine a0L (.tmp 15) (.tmp 25) 137 rfl Tryz.underlying137 Tryz.infoGrp rfl (by decide) j0m r0G HO6.out rfl _ rfl HL6.out (by have:=HRW.out;have:=HL.out;have:=HN0.out;simp;unfold maxLen;omega) (by have:=HRW.out;have:=HL.out;have:=HN0.out;simp;omega) (B:=w.heap.size) (w0:=w) HB6.out (by rw [WA.out];exact Nat.le_succ _) (Nat.succ_le_of_lt (a0b hS.1)) ?_;intro v7 w7 ho7 hb7 hg7;have hS7:=And.intro (HO6.out.other hg7 (Nat.lt_succ_self A) hS.1) (((bcell hb7).1 b off HBL.out).trans HCE.out);have HO7:=hh ho7;have HB7:=hh hb7;refine hK _ _ (fun _ _=>hS7) ?_;clear hK ho7 hb7 hg7 HO6 HB6 hS;have hS:=hS7;clear hS7;refine tA1 12 3 hS ?_;go_frame;refine tD ?_;have cA7:w7.cell? ⟨A,0,none⟩=some (.slice (some ⟨b,off,none⟩) L cap):=Lib.cell_of_heap hS.1 0;have fA7:w7.frozen? ⟨A,0,none⟩=false:=Lib.frozen_of_heap hS.1 0;have HS7:=hh hS;clear hS;go_wp2_with fail;have hk:Keep (· = A) w7 (w7.setCell ⟨A,0,none⟩ (.slice adv D capv)):=Keep.setCell (S:=(· = A)) (p:=⟨A,0,none⟩) (Keep.refl _ _) (.inl rfl) _;have hA8:=heap_setCell_same w7 A 0 _ _ (Value.slice adv D capv) HS7.out.1;have HA8:=hh (show (w7.setCell ⟨A,0,none⟩ (.slice adv D capv)).heap[A]? = some (.cells #[.slice adv D capv] 60 (0,0)) from hA8);have HO8:=hh (HO7.out.keep hk fun k e h=>by have:=(HO7.out.lt k e).1;omega)
    have HB8:=hh (HB7.out.trans (hk.below (B:=w.heap.size) (fun q hq e=>by have:=WA.out;omega) HB7.out.size));clear hk hA8 cA7 fA7
    go_roundw
    case rel=>
     refine ⟨_,_,_,_,HA8,HVD,hh ?_,HO8,HVB2,HG2,hh ?_,HGR,HB8⟩
     ·have:=HDL.out;have:=HRL.out;have:=HD.out;omega
     ·have:=HDL.out;have:=HRW.out;have:=HD.out;simp only [List.length_append,List.length_singleton];omega
    case measure=>
     rw [HML.out,i0i (Lib.cell_of_heap HA8.out 0)];have:=HD.out;omega
end
end Go.Proofs.YtakkfabaeolbdaaGreat
