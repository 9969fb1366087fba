/- A contract of the library, laid at this program. No condition. Keys of rows: as keys of a map, and the order that they are sorted by (code). No condition. The order that rows are sorted by (code). No condition. -/
import Derived.Shelf.SlSortCmp.NoneTotal
import Derived.Test.YtakkfabaeolbdaaGreatCnBase
import Derived.Test.YtakkfabaeolbdaaGreatCn13
import Derived.Test.YtakkfabaeolbdaaGreatCn2
import Derived.Test.YtakkfabaeolbdaaGreatCnReg
import Derived.DeepKeys5
import Derived.Deep.Cut
namespace Go.Proofs.YtakkfabaeolbdaaGreat
section
open Go.Shelf
def Tryz.sortKey_ren:Go.Shelf.Ren:=⟨fun | 6=>188 | 15=>219 | 14=>218 | 28=>245 | 29=>246 | 20=>237 | 21=>238 | 22=>239 | 23=>240 | 24=>241 | 25=>242 | 26=>243 | 27=>244 | 46=>258 | 47=>259 | 48=>260 | 49=>261 | 50=>262 | 57=>269 | n=>n,fun | 22=>210 | 24=>209 | 25=>217 | 3=>3 | 39=>223 | 0=>0 | 53=>218 | 55=>23 | 4=>4 | 46=>303 | 45=>302 | 50=>268 | 5=>5 | 9=>9 | 66=>317 | 70=>321 | 76=>325 | 77=>109 | n=>n,fun | n=>n⟩
theorem Tryz.sortKey:Go.Proofs.SlLaysF0.n6 Tryz.prog Tryz.sortKey_ren:={
 mixed:=by kernel_rfl
 f6:=⟨Tryz.f188.name,by decide,Tryz.func188.trans (congrArg some (by kernel_rfl))⟩
 f14:=⟨Tryz.f218.name,by decide,Tryz.func218.trans (congrArg some (by kernel_rfl))⟩
 f15:=Tryz.func219.trans (congrArg some (by kernel_rfl))
 f20:=⟨Tryz.f237.name,by decide,Tryz.func237.trans (congrArg some (by kernel_rfl))⟩
 f21:=⟨Tryz.f238.name,by decide,Tryz.func238.trans (congrArg some (by kernel_rfl))⟩
 f22:=⟨Tryz.f239.name,by decide,Tryz.func239.trans (congrArg some (by kernel_rfl))⟩
 f23:=⟨Tryz.f240.name,by decide,Tryz.func240.trans (congrArg some (by kernel_rfl))⟩
 f24:=⟨Tryz.f241.name,by decide,Tryz.func241.trans (congrArg some (by kernel_rfl))⟩
 f25:=⟨Tryz.f242.name,by decide,Tryz.func242.trans (congrArg some (by kernel_rfl))⟩
 f26:=⟨Tryz.f243.name,by decide,Tryz.func243.trans (congrArg some (by kernel_rfl))⟩
 f27:=⟨Tryz.f244.name,by decide,Tryz.func244.trans (congrArg some (by kernel_rfl))⟩
 f28:=Tryz.func245.trans (congrArg some (by kernel_rfl))
 f29:=Tryz.func246.trans (congrArg some (by kernel_rfl))
 f46:=⟨Tryz.f258.name,by decide,Tryz.func258.trans (congrArg some (by kernel_rfl))⟩
 f47:=Tryz.func259.trans (congrArg some (by kernel_rfl))
 f48:=Tryz.func260.trans (congrArg some (by kernel_rfl))
 f49:=⟨Tryz.f261.name,by decide,Tryz.func261.trans (congrArg some (by kernel_rfl))⟩
 f50:=⟨Tryz.f262.name,by decide,Tryz.func262.trans (congrArg some (by kernel_rfl))⟩
 f57:=⟨Tryz.f269.name,by decide,Tryz.func269.trans (congrArg some (by kernel_rfl))⟩
 t0:=Tryz.underlying0
 a0:=Tryz.isAgg0
 z0:=Tryz.sizeOf0
 v0:=Tryz.zeroValue0
 t3:=Tryz.underlying3
 a3:=Tryz.isAgg3
 z3:=Tryz.sizeOf3
 v3:=Tryz.zeroValue3
 t4:=Tryz.underlying4
 a4:=Tryz.isAgg4
 z4:=Tryz.sizeOf4
 v4:=Tryz.zeroValue4
 t5:=Tryz.underlying5
 a5:=Tryz.isAgg5
 z5:=Tryz.sizeOf5
 v5:=Tryz.zeroValue5
 t9:=Tryz.underlying9
 a9:=Tryz.isAgg9
 z9:=Tryz.sizeOf9
 v9:=Tryz.zeroValue9
 t22:=Tryz.underlying210
 a22:=Tryz.isAgg210
 z22:=Tryz.sizeOf210
 v22:=Tryz.zeroValue210
 t25:=Tryz.underlying217
 a25:=Tryz.isAgg217
 z25:=Tryz.sizeOf217
 v25:=Tryz.zeroValue217
 t39:=Tryz.underlying223
 a39:=Tryz.isAgg223
 z39:=Tryz.sizeOf223
 v39:=Tryz.zeroValue223
 t45:=Tryz.underlying302
 a45:=Tryz.isAgg302
 z45:=Tryz.sizeOf302
 v45:=Tryz.zeroValue302
 t46:=Tryz.underlying303
 a46:=Tryz.isAgg303
 z46:=Tryz.sizeOf303
 v46:=Tryz.zeroValue303
 t50:=Tryz.underlying268
 a50:=Tryz.isAgg268
 z50:=Tryz.sizeOf268
 v50:=Tryz.zeroValue268
 t53:=Tryz.underlying218
 a53:=Tryz.isAgg218
 z53:=Tryz.sizeOf218
 v53:=Tryz.zeroValue218
 t55:=Tryz.underlying23
 a55:=Tryz.isAgg23
 z55:=Tryz.sizeOf23
 v55:=Tryz.zeroValue23
 t66:=Tryz.underlying317
 a66:=Tryz.isAgg317
 z66:=Tryz.sizeOf317
 v66:=Tryz.zeroValue317
 t70:=Tryz.underlying321
 a70:=Tryz.isAgg321
 z70:=Tryz.sizeOf321
 v70:=Tryz.zeroValue321
 t76:=Tryz.underlying325
 a76:=Tryz.isAgg325
 z76:=Tryz.sizeOf325
 v76:=Tryz.zeroValue325
 t77:=Tryz.underlying109
 a77:=Tryz.isAgg109
 z77:=Tryz.sizeOf109
 v77:=Tryz.zeroValue109 }
end
section
open Go.RowKit Go.Sort Go.Shelf
open Go.Maps (Keyed)

def kE (k:Int × Int):List Value:=[.int .i64 k.1,.int .i64 k.2]
def kV (k:Int × Int):Value:=.agg #[.int .i64 k.1,.int .i64 k.2]
def I64k (k:Int × Int):Prop:=(-9223372036854775808≤k.1∧k.1 < 9223372036854775808)∧(-9223372036854775808≤k.2∧k.2 < 9223372036854775808)
theorem h0r (k:Int × Int):(kE k).length=2:=rfl
theorem r0L (k:Int × Int):∀ u∈kE k,u.oneCell'=true:=by
 intro u hu;simp only [kE,List.mem_cons,List.not_mem_nil,or_false] at hu
 rcases hu with rfl | rfl<;>rfl
theorem s0Y (a b:Int × Int) (h:kV a=kV b):a=b:=by
 obtain ⟨a1,a2⟩:=a;obtain ⟨b1,b2⟩:=b
 simpa [kV] using h
theorem Tryz.keyLaid:laidOutB Tryz.prog=true:=by kernel_rfl
theorem Tryz.keyKeyed:Keyed Tryz.prog 209:=
 Keyed.of_law (deep_law_gate Tryz.keyLaid (of_decide_eq_true (by kernel_rfl)) (of_decide_eq_true (by kernel_rfl)) (by kernel_rfl) (by kernel_rfl))
theorem o0g {n:Int} (h:-9223372036854775808≤n∧n < 9223372036854775808):(Lit.int .i64 n).wf=true:=by
 simp [Lit.wf,IntKind.min,IntKind.signed,IntKind.bits]
 omega
theorem Tryz.keyLit {k:Int × Int} (hk:I64k k):Tryz.prog.keyLits (Tryz.prog.types.size+1) 209 (kV k).cells.toList=some [.int .i64 k.1,.int .i64 k.2]:=by
 have h1:=o0g hk.1;have h2:=o0g hk.2;obtain ⟨d,hd⟩:∃ d,Tryz.prog.types.size=d+1:=⟨Tryz.prog.types.size - 1,by kernel_rfl⟩;have hc:Tryz.prog.cellsOf 209 = 2:=by kernel_rfl
 have hi:Tryz.prog.cellsOf 3 = 1:=by kernel_rfl
 rw [hd]
 unfold Program.keyLits
 rw [Tryz.underlying209];simp only [kV,Value.cells];rw [hc]
 simp [Program.keyLits,Tryz.underlying3,hi,h1,h2]
theorem Tryz.keyOk:KeyOk Tryz.prog 209 kV I64k where
 keyed:=Tryz.keyKeyed
 key k hk:=by
  unfold keyOf
  rw [Tryz.underlying209];have hc:Tryz.prog.cellsOf 209 = 2:=by kernel_rfl
  have hf:(Tryz.prog.keyType 209 && (kV k).formed Tryz.prog 209)=true:=by
   rw [show Tryz.prog.keyType 209 = true by kernel_rfl];simp only [kV,Value.formed,Tryz.underlying209,hc]
   rfl
  simp only [hf,if_true,Tryz.keyLit hk]
  exact ⟨_,rfl⟩
 inj:=s0Y
end
section
set_option maxHeartbeats 4000000
set_option maxRecDepth 100000
open Go.RowKit Go.Sort Go.Shelf

def cmpI (x y:Int):Int:=if x < y then -1 else if y < x then 1 else 0
theorem i0T (x:Int) (w:World):Calls Tryz.prog 190 #[.int .i64 x] w fun e w'=>e = .returned (.bool false)∧w=w':=by
 have h:(x != x)=false:=by simp
 go_enter Tryz.func190,Tryz.ntmps190
 go_wp2_with fail
 go_ret
 exact ⟨rfl,rfl⟩
theorem l0x (x y:Int) (w:World):Calls Tryz.prog 140 #[.int .i64 x,.int .i64 y] w fun e w'=>e = .returned (.int .i64 (cmpI x y))∧w=w':=by
 have hv:(x < y∧cmpI x y = -1)∨(¬ x < y∧y < x∧cmpI x y=1)∨(¬ x < y∧¬ y < x∧cmpI x y=0):=by
  unfold cmpI
  by_cases h:x < y
  ·exact .inl ⟨h,if_pos h⟩
  ·by_cases h2:y < x
   ·exact .inr (.inl ⟨h,h2,by rw [if_neg h,if_pos h2]⟩)
   ·exact .inr (.inr ⟨h,h2,by rw [if_neg h,if_neg h2]⟩)
 obtain ⟨r,hr⟩:=nm (cmpI x y);rw [← hr] at hv ⊢;clear hr
 rcases hv with ⟨h1,rfl⟩ | ⟨h1,h2,rfl⟩ | ⟨h1,h2,rfl⟩
 all_goals
  go_enter Tryz.func140,Tryz.ntmps140
  go_wp2_with fail;refine (i0T x _).mono ?_;rintro e w1 ⟨rfl,rfl⟩;go_wp2_with fail;refine (i0T y _).mono ?_;rintro e w1 ⟨rfl,rfl⟩;go_wp2_with fail
  go_ret
  exact ⟨rfl,rfl⟩
theorem o0A (a b:Int) (v:Value) (w:World) (h:Rd w intE 1 v [a,b]):Calls Tryz.prog 139 #[v] w fun e w'=>e = .returned (.int .i64 (if a≠0 then a else b))∧w=w':=by
 obtain ⟨r,hr⟩:=nm (if a≠0 then a else b);rw [← hr];have HR:=hh hr;clear hr;obtain ⟨ad,cap,rfl,_,_⟩:=h.shape;obtain ⟨bb,off,rfl,hbb,c0⟩:=h.at 0 (by simp);obtain ⟨_,_,e,_,c1⟩:=h.at 1 (by simp)
 cases e
 replace c0:w.cell? ⟨bb,off+0,none⟩=some (.int .i64 a):=c0;replace c1:w.cell? ⟨bb,off+1,none⟩=some (.int .i64 b):=c1;rw [Nat.add_zero] at c0;clear h hbb
 go_enter Tryz.func139,Tryz.ntmps139
 go_wp2_with fail
 go_loopw [8] (fun x wr=>wr=w∧(x = .int .i64 0∨(x = .int .i64 1∧Hid (a=0))∨(x = .int .i64 2∧Hid (a=0∧b=0)))) (fun x _=>2 - (intOf x).toNat)
 case atStart=>exact ⟨rfl,.inl rfl⟩
 case round=>
  obtain ⟨rfl,rfl | ⟨rfl,ha⟩ | ⟨rfl,ha⟩⟩:=hrel
  ·by_cases h0:a=0
   ·have ht:(a != 0)=false:=by simp [h0]
    have H0:=hh h0;clear h0;go_wp2_with fail
    go_roundw
    case rel=>exact ⟨by first | rfl | trivial,.inr (.inl ⟨rfl,H0⟩)⟩
    case measure=>simp [intOf]
   ·have ht:(a != 0)=true:=by simp [h0]
    have H0:=hh h0;clear h0;go_wp2_with fail
    go_ret
    exact ⟨by rw [HR.out,if_pos H0.out];rfl,rfl⟩
  ·by_cases h0:b=0
   ·have ht:(b != 0)=false:=by simp [h0]
    have H0:=hh h0;clear h0;go_wp2_with fail
    go_roundw
    case rel=>exact ⟨by first | rfl | trivial,.inr (.inr ⟨rfl,hh ⟨ha.out,H0.out⟩⟩)⟩
    case measure=>simp [intOf]
   ·have ht:(b != 0)=true:=by simp [h0]
    have H0:=hh h0;clear h0;go_wp2_with fail
    go_ret
    exact ⟨by rw [HR.out,if_neg (fun h=>h ha.out)];rfl,rfl⟩
  ·go_wp2_with fail
   go_ret
   exact ⟨by rw [HR.out,if_neg (fun h=>h ha.out.1),ha.out.2];rfl,rfl⟩
def cmpK (x y:Int × Int):Int:=if cmpI x.1 y.1≠0 then cmpI x.1 y.1 else cmpI x.2 y.2

theorem q0R (x y:Int × Int) (w:World):Calls Tryz.prog 138 #[.agg (kE x).toArray,.agg (kE y).toArray] w fun e w'=>e = .returned (.int .i64 (cmpK x y))∧∃ q os',w'=grow (w.drewN q) os':=by
 obtain ⟨x1,x2⟩:=x;obtain ⟨y1,y2⟩:=y
 show Calls Tryz.prog 138 #[.agg #[.int .i64 x1,.int .i64 x2],.agg #[.int .i64 y1,.int .i64 y2]] w _
 obtain ⟨a,ha⟩:=nm (cmpI x1 y1);obtain ⟨b,hb⟩:=nm (cmpI x2 y2);have HA:=hh (fun w=>by rw [ha];exact l0x x1 y1 w:∀ w,Calls Tryz.prog 140 #[.int .i64 x1,.int .i64 y1] w fun e w'=>e = .returned (.int .i64 a)∧w=w');have HB:=hh (fun w=>by rw [hb];exact l0x x2 y2 w:∀ w,Calls Tryz.prog 140 #[.int .i64 x2,.int .i64 y2] w fun e w'=>e = .returned (.int .i64 b)∧w=w');obtain ⟨r,hr⟩:=nm (cmpK (x1,x2) (y1,y2));rw [← hr];have HR:=hh (show r=if a≠0 then a else b by rw [hr,ha,hb];rfl);clear ha hb hr
 go_enter Tryz.func138,Tryz.ntmps138
 go_wp2_with fail;obtain ⟨X,hX⟩:=nm (w.heap.size);obtain ⟨Y,hY⟩:=nm (X+1);obtain ⟨wz,hwz⟩:=nm (((w.alloc (.cells #[.int .i64 x1,.int .i64 x2] 209)).alloc (.cells #[.int .i64 y1,.int .i64 y2] 209)).drew);have hS:wz.heap[X]? = some (.cells #[.int .i64 x1,.int .i64 x2] 209 (0,0))∧wz.heap[Y]? = some (.cells #[.int .i64 y1,.int .i64 y2] 209 (0,0)):=by
  rw [hwz,hY,hX]
  exact ⟨heap_alloc2_old _ _ _,heap_alloc2_new _ _ _⟩
 have HG:=hh (show wz=grow (w.drewN 1) #[.cells #[.int .i64 x1,.int .i64 x2] 209 (0,0),.cells #[.int .i64 y1,.int .i64 y2] 209 (0,0)] by rw [hwz,alloc_eq_grow,alloc_eq_grow,grow_grow];rfl);rw [← hX,← hY];refine a0f (fun w'=>w'.heap[X]? = some (.cells #[.int .i64 x1,.int .i64 x2] 209 (0,0))∧w'.heap[Y]? = some (.cells #[.int .i64 y1,.int .i64 y2] 209 (0,0))) 13 13 (by kernel_rfl) rfl ?_;rw [← hwz];clear hwz hX hY;refine tA1 0 5 hS ?_;go_frame;refine tk 1 (some 6) rfl rfl (.inl ⟨by rfl,fun w' hS'=>(by have hc:w'.cell? ⟨X,0,none⟩=some (.int .i64 x1):=Lib.cell_of_heap hS'.1 0;go_simp;rfl)⟩) hS ?_;go_frame;refine tA1 2 7 hS ?_;go_frame;refine tk 3 (some 8) rfl rfl (.inl ⟨by rfl,fun w' hS'=>(by have hc:w'.cell? ⟨Y,0,none⟩=some (.int .i64 y1):=Lib.cell_of_heap hS'.2 0;go_simp;rfl)⟩) hS ?_;go_frame;refine tA1 5 10 hS ?_;go_frame;refine tk 6 (some 11) rfl rfl (.inl ⟨by rfl,fun w' hS'=>(by have hc:w'.cell? ⟨X,1,none⟩=some (.int .i64 x2):=Lib.cell_of_heap hS'.1 1;go_simp;rfl)⟩) hS ?_;go_frame;refine tA1 7 12 hS ?_;go_frame;refine tk 8 (some 13) rfl rfl (.inl ⟨by rfl,fun w' hS'=>(by have hc:w'.cell? ⟨Y,1,none⟩=some (.int .i64 y2):=Lib.cell_of_heap hS'.2 1;go_simp;rfl)⟩) hS ?_;go_frame;refine t1 4 fun K hK=>?_
 simp only [gA,jB,gC];go_simp;refine (HA.out _).mono ?_;rintro e w2 ⟨rfl,rfl⟩;refine hK _ _ (fun _ _=>hS) ?_;clear hK;refine t1 9 fun K hK=>?_
 simp only [gA,jB,gC];go_simp;refine (HB.out _).mono ?_;rintro e w2 ⟨rfl,rfl⟩;refine hK _ _ (fun _ _=>hS) ?_;clear hK;refine t1 10 fun K hK=>?_
 simp only [gA,jB,gC];go_simp;obtain ⟨w3,hw3⟩:=nm (wz.alloc (.cells #[.int .i64 a,.int .i64 b] 3));have hrd:Rd w3 intE 1 (.slice (some ⟨wz.heap.size,0,none⟩) 2 2) [a,b]:=by rw [hw3];exact c0w wz intE (fun _=>rfl) 3 [a,b] _ 2 rfl (by omega) rfl
 have HG3:=hh (show w3=grow wz #[.cells #[.int .i64 a,.int .i64 b] 3 (0,0)] by rw [hw3,alloc_eq_grow]);rw [← hw3];have hb3:Below wz.heap.size wz w3:=by rw [hw3];exact (Below.refl _ _).alloc (Nat.le_refl _) _
 have hS3:=And.intro ((hb3.block _ (a0b hS.1)).trans hS.1) ((hb3.block _ (a0b hS.2)).trans hS.2);have HO:=hh (o0A a b _ w3 hrd);rw [← HR.out] at HO;clear hw3 hb3 hrd hS;have hS:=hS3;clear hS3;refine hK _ _ (fun _ _=>hS) ?_;clear hK;refine t1 11 fun K hK=>?_
 simp only [gA,jB,gC];go_simp;refine HO.out.mono ?_;rintro e w2 ⟨rfl,rfl⟩;refine hK _ _ (fun _ _=>hS) ?_;clear hK;refine tA1 12 4 hS ?_;go_frame;refine tD ?_;clear hS;go_wp2_with fail
 go_ret
 exact ⟨rfl,1,_,by rw [HG3.out,HG.out,grow_grow]⟩

theorem o0T (x y:Int):cmpI x y < 0↔x < y:=by
 unfold cmpI
 split
 ·simp [*]
 ·split<;>simp [*]
theorem o0F (x y:Int):cmpI x y=0↔x=y:=by
 unfold cmpI
 split
 ·simp;omega
 ·split
  ·simp;omega
  ·simp;omega
def kLt (x y:Int × Int):Prop:=x.1 < y.1∨(x.1=y.1∧x.2 < y.2)
theorem f0s (x y:Int × Int):ltOf cmpK x y=true↔kLt x y:=by
 unfold ltOf cmpK kLt
 simp only [decide_eq_true_eq]
 by_cases h:x.1=y.1
 ·rw [if_neg (fun e=>e ((o0F _ _).2 h)),o0T]
  omega
 ·rw [if_pos (fun e=>h ((o0F _ _).1 e)),o0T]
  omega
theorem d0a (x y:Int × Int):ltOf cmpK x y=false↔¬ kLt x y:=by rw [← f0s];simp
theorem d0d (x:Int × Int):¬ kLt x x:=by unfold kLt;omega
theorem j0v {x y z:Int × Int} (h:kLt x y) (k:kLt y z):kLt x z:=by unfold kLt at *;omega
theorem f0U {x y:Int × Int} (h:¬ kLt x y) (k:¬ kLt y x):x=y:=by
 obtain ⟨a,b⟩:=x;obtain ⟨c,d⟩:=y
 unfold kLt at *
 simp only at h k;rw [Prod.mk.injEq];omega
theorem l0u:SWO (ltOf cmpK) where
 irrefl x:=(d0a x x).2 (d0d x)
 trans x y z h k:=(f0s x z).2 (j0v ((f0s x y).1 h) ((f0s y z).1 k))
 ntrans x y z h k:=(d0a x z).2 (by have h1:=(d0a x y).1 h;have h2:=(d0a y z).1 k;unfold kLt at *;omega)
end
end Go.Proofs.YtakkfabaeolbdaaGreat
