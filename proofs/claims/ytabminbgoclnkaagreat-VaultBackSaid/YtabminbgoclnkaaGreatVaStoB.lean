/- The library's binary searches, as a store calls them: no condition. -/
import Derived.Test.YtabminbgoclnkaaGreatVaStoS
import Derived.Lib.Bytealg
import Derived.Laws.Externs
namespace Go.Proofs.YtabminbgoclnkaaGreat
set_option maxHeartbeats 1000000
set_option maxRecDepth 100000
open Go.RowKit

theorem a0g (k:Txt):(bs k).toList=k:=by rw [Lib.toList_data];rfl
theorem n0p (x:ByteArray) (w:World):Calls Tryz.prog 192 #[.string x] w fun e w'=>e = .returned (.bool false)∧w=w':=by
 have h:(x.toList == x.toList)=true:=by simp
 go_enter Tryz.func192,Tryz.ntmps192
 go_wp2
 go_ret
 exact ⟨rfl,rfl⟩
theorem l0J (x:ByteArray) (w:World):Calls Tryz.prog 182 #[.string x] w fun e w'=>e = .returned (.bool false)∧w=w':=by
 have h:(x.toList == x.toList)=true:=by simp
 go_enter Tryz.func182,Tryz.ntmps182
 go_wp2
 go_ret
 exact ⟨rfl,rfl⟩
theorem k0V (a b:Txt) (w:World):Calls Tryz.prog 181 #[.string (bs a),.string (bs b)] w fun e w'=>e = .returned (.bool (less a b))∧w=w':=by
 have h:Hid (Op.bytesLess (bs a).toList (bs b).toList=less a b):=by unfold Hid;rw [a0g,a0g];rfl
 go_enter Tryz.func181,Tryz.ntmps181
 go_wp2_with fail;refine (n0p _ _).mono ?_;rintro e w1 ⟨rfl,rfl⟩;go_wp2_with fail
 go_ret
 rw [← h.out]
 exact ⟨rfl,rfl⟩
structure Mid (ks:List Txt) (k:Txt) (i j:Nat):Prop where
 le:i≤j
 len:j≤ks.length
 lo:∀ q (h:q < ks.length),q < i→less ks[q] k=true
 hi:∀ q (h:q < ks.length),j≤q→less ks[q] k=false
theorem Mid.start (ks:List Txt) (k:Txt):Mid ks k 0 ks.length:=⟨Nat.zero_le _,Nat.le_refl _,fun _ _ h'=>absurd h' (Nat.not_lt_zero _),fun _ h h'=>absurd h (Nat.not_lt.2 h')⟩
theorem Mid.up {ks:List Txt} {k:Txt} {i j h:Nat} (m:Mid ks k i j) (hu:UpK ks) (hj:h < j) (hl:less (ks[h]'(Nat.lt_of_lt_of_le hj m.len)) k=true):Mid ks k (h+1) j:=by
 refine ⟨hj,m.len,fun q hq hqh=>?_,m.hi⟩
 rcases Nat.lt_or_ge q h with h1 | h1
 ·exact a0J (hu.ne (Nat.lt_of_lt_of_le hj m.len) h1) hl
 ·obtain rfl:q=h:=by omega
  exact hl
theorem Mid.down {ks:List Txt} {k:Txt} {i j h:Nat} (m:Mid ks k i j) (hu:UpK ks) (hi:i≤h) (hj:h < j) (hl:less (ks[h]'(Nat.lt_of_lt_of_le hj m.len)) k=false):Mid ks k i h:=by
 refine ⟨hi,Nat.le_of_lt (Nat.lt_of_lt_of_le hj m.len),m.lo,fun q hq hqh=>?_⟩
 rcases Nat.lt_or_ge h q with h1 | h1
 ·cases hb:less ks[q] k with
  | false=>rfl
  | true=>rw [a0J (hu.ne hq h1) hb] at hl;cases hl
 ·obtain rfl:q=h:=by omega
  exact hl
theorem Mid.at {ks:List Txt} {k:Txt} {i:Nat} (m:Mid ks k i i):At ks k i:=⟨m.len,m.lo,m.hi⟩

def BsRet (w:World) (R:Nat→Prop) (e:Ending) (w':World):Prop:=∃ (i:Nat) (b:Bool),e = .returned (.tuple #[.int .i64 i,.bool b])∧R i∧w=w'
theorem e0c (w:World) (v:Value) (ks:List Txt) (k:Txt) (hr:Rd w tE 1 v ks) (hu:UpK ks) (hl:ks.length < 4611686018427387904) :
  Calls Tryz.prog 166 #[v,.string (bs k)] w (BsRet w (At ks k)):=by
 obtain ⟨ad,cap,rfl,h1,h2⟩:=hr.shape;obtain ⟨n,hn⟩:∃ n,n=ks.length:=⟨_,rfl⟩;rw [← hn] at h1 hl hr ⊢;have HR:=Lib.hid hr;have HU:=Lib.hid hu;have HN:=Lib.hid hn;clear hr hu hn
 go_enter Tryz.func166,Tryz.ntmps166
 go_wp2_with fail
 go_loop [7,8] (fun a b=>∃ i j:Nat,a = .int .i64 i∧b = .int .i64 j∧i≤j∧j≤n∧Hid (Mid ks k i j)) (fun a b=>(intOf b).toNat - (intOf a).toNat)
 case atStart=>exact ⟨0,n,rfl,rfl,Nat.zero_le _,Nat.le_refl _,Lib.hid (HN.out▸Mid.start ks k)⟩
 case round=>
  obtain ⟨i,j,rfl,rfl,hij,hjn,M⟩:=hrel
  by_cases hlt:i < j
  ·have hjl:Hid ((i+j) / 2 < ks.length):=by unfold Hid;rw [← HN.out];omega
   obtain ⟨b,off,rfl,hb,hc⟩:=HR.out.at ((i+j) / 2) hjl.out;obtain ⟨x,hx⟩:∃ x,x=ks[(i+j) / 2]'hjl.out:=⟨_,rfl⟩;have hc':w.cell? ⟨b,off+(i+j) / 2,none⟩=some (.string (bs x)):=by rw [hx];exact hc
   have HX:=Lib.hid hx;have hw0:IntKind.i64.wrap ((i:Int)+(j:Int))=(i:Int)+(j:Int):=IntWalk.i64_in _ (by omega);clear hc hb hx;go_wp2_with fail;refine (k0V x k _).mono ?_;rintro e w1 ⟨rfl,rfl⟩
   cases hxk:less x k with
   | true=>
    have HL:=Lib.hid hxk;clear hxk;go_wp2_with fail
    go_round
    case rel=>exact ⟨(i+j) / 2+1,j,by go_num,rfl,by omega,hjn,Lib.hid (M.out.up HU.out (by omega) (by rw [← HX.out];exact HL.out))⟩
    case measure=>simp [intOf];omega
   | false=>
    have HL:=Lib.hid hxk;clear hxk;go_wp2_with fail
    go_round
    case rel=>exact ⟨i,(i+j) / 2,rfl,by go_num,by omega,by omega,Lib.hid (M.out.down HU.out (by omega) (by omega) (by rw [← HX.out];exact HL.out))⟩
    case measure=>simp [intOf];omega
  ·obtain rfl:i=j:=by omega
   have HA:=Lib.hid M.out.at;clear M
   by_cases hin:i < n
   ·have hil:Hid (i < ks.length):=by unfold Hid;rw [← HN.out];omega
    obtain ⟨b,off,rfl,hb,hc⟩:=HR.out.at i hil.out;obtain ⟨x,hx⟩:∃ x,x=ks[i]'hil.out:=⟨_,rfl⟩;have hc':w.cell? ⟨b,off+i,none⟩=some (.string (bs x)):=by rw [hx];exact hc
    clear hc hb hx
    cases hxk:((bs x).toList == (bs k).toList) with
    | true=>
     go_wp2_with fail
     go_ret2
     exact ⟨i,true,rfl,HA.out,rfl⟩
    | false=>
     go_wp2_with (refine (l0J _ _).mono ?_;rintro e w1 ⟨rfl,rfl⟩)
     go_ret2
     exact ⟨i,false,rfl,HA.out,rfl⟩
   ·go_wp2_with fail
    go_ret2
    exact ⟨i,false,rfl,HA.out,rfl⟩

theorem m0w:∀ (a b:Txt),decide (Lib.compareBytes a b < 0)=less a b
 | [],[]=>rfl
 | [],_ :: _=>rfl
 | _ :: _,[]=>rfl
 | a :: x,b :: y=>by
  rw [b0M]
  unfold Lib.compareBytes
  by_cases h1:a < b
  ·simp [h1]
  ·rw [if_neg h1]
   by_cases h2:b < a
   ·have hne:¬ a=b:=fun e=>by rw [e] at h2;exact g0v _ h2
    simp [h1,h2,hne]
   ·have he:a=b:=by
     rw [UInt8.lt_iff_toNat_lt] at h1 h2
     exact UInt8.toNat_inj.1 (by omega)
    rw [if_neg h2,m0w x y];subst he
    simp
theorem l0H (a b:Txt) (w:World):Calls Tryz.prog 173 #[.string (bs a),.string (bs b)] w fun e w'=>e = .returned (.int .i64 (Lib.compareBytes a b))∧w=w':=by
 go_enter Tryz.func173,Tryz.ntmps173
 go_wp2
 rw [run_callFunc_extern Tryz.func187 (by kernel_rfl) (by kernel_rfl) (by kernel_rfl) (e:=Extern.BytealgCompare.compare) (by kernel_rfl),Lib.run_compareString];simp only [Result.andThen];rw [Oper.upon_value]
 go_wp2
 go_ret
 exact ⟨rfl,rfl⟩
theorem m0n (a b:Txt) (w:World):Calls Tryz.prog 154 #[.string (bs a),.string (bs b)] w fun e w'=>e = .returned (.int .i64 (Lib.compareBytes a b))∧w=w':=by
 go_enter Tryz.func154,Tryz.ntmps154
 go_wp2_with (go_at_call 173;refine (l0H a b _).mono ?_;rintro e w1 ⟨rfl,rfl⟩)
 go_ret
 exact ⟨rfl,rfl⟩
def lastT (b:List Txt):Txt:=b.getLast?.getD []
theorem e0L (w:World) (v:Value) (b:List Txt) (k:Txt) (hr:Rd w tE 1 v b) (hb:b≠[]) (hl:b.length < 4611686018427387904) :
  Calls Tryz.prog 153 #[v,.string (bs k)] w fun e w'=>e = .returned (.int .i64 (Lib.compareBytes (lastT b) k))∧w=w':=by
 obtain ⟨ad,cap,rfl,h1,h2⟩:=hr.shape;obtain ⟨m,hm⟩:∃ m,b.length=m+1:=⟨b.length - 1,by have:=List.length_pos_iff.2 hb;omega⟩;obtain ⟨bb,off,rfl,hbb,hc⟩:=hr.at m (by omega);have hc':w.cell? ⟨bb,off+m,none⟩=some (.string (bs (lastT b))):=by
  rw [hc];have:lastT b=b[m]'(by omega):=by
   unfold lastT;rw [List.getLast?_eq_getElem?,show b.length - 1=m by omega,List.getElem?_eq_getElem (by omega)];rfl
  rw [this];rfl
 rw [hm] at h1 ⊢;have hcm:((m+1:Nat):Int)=(m:Int)+1:=by omega
 rw [hm] at hl;clear hc hbb hm hr hb
 generalize lastT b=x at *
 go_enter Tryz.func153,Tryz.ntmps153
 go_wp2_with fail;refine (m0n x k _).mono ?_;rintro e w1 ⟨rfl,rfl⟩;go_wp2_with fail
 go_ret
 exact ⟨rfl,rfl⟩

def lasts (bl:List (List Txt)):List Txt:=bl.map lastT
theorem k0y {bl:List (List Txt)} (hu:UpK bl.flatten) (hn:∀ b∈bl,b≠[]):UpK (lasts bl):=by
 unfold lasts UpK
 rw [List.pairwise_map];refine List.Pairwise.imp_of_mem ?_ (List.pairwise_flatten.1 hu).2;intro a b ha hb h;have m:∀ c∈bl,lastT c∈c:=fun c hc=>by
  unfold lastT
  cases hg:c.getLast? with
  | none=>exact absurd (List.getLast?_eq_none_iff.1 hg) (hn c hc)
  | some l=>exact List.mem_of_getLast? hg
 exact h _ (m a ha) _ (m b hb)
structure Rows (w:World) (vb:Value) (vs:List Value) (bl:List (List Txt)):Prop where
 rd:Rd w vE 1 vb vs
 len:vs.length=bl.length
 rows:∀ i (h:i < vs.length) (h':i < bl.length),Rd w tE 1 vs[i] bl[i]

theorem k0W (w:World) (vb:Value) (vs:List Value) (bl:List (List Txt)) (k:Txt) (hr:Rows w vb vs bl) (hu:UpK (lasts bl)) (hne:∀ b∈bl,b≠[]∧b.length < 4611686018427387904) (hl:bl.length < 4611686018427387904) :
  Calls Tryz.prog 152 #[vb,.string (bs k),.func (.func 153) #[] #[]] w (BsRet w (At (lasts bl) k)):=by
 obtain ⟨ad,cap,rfl,h1,h2⟩:=hr.rd.shape;obtain ⟨n,hn⟩:∃ n,n=vs.length:=⟨_,rfl⟩;have hnb:n=(lasts bl).length:=by rw [hn,hr.len];simp [lasts]
 rw [← hn] at h1 ⊢;have hln:n < 4611686018427387904:=by rw [hn,hr.len];exact hl
 have HR:=Lib.hid hr;have HU:=Lib.hid hu;have HN:=Lib.hid hn;have HNB:=Lib.hid hnb;have HE:=Lib.hid hne;clear hr hu hn hnb hne hl
 go_enter Tryz.func152,Tryz.ntmps152
 go_wp2_with fail
 go_loop [9,10] (fun a b=>∃ i j:Nat,a = .int .i64 i∧b = .int .i64 j∧i≤j∧j≤n∧Hid (Mid (lasts bl) k i j)) (fun a b=>(intOf b).toNat - (intOf a).toNat)
 case atStart=>exact ⟨0,n,rfl,rfl,Nat.zero_le _,Nat.le_refl _,Lib.hid (HNB.out▸Mid.start (lasts bl) k)⟩
 case round=>
  obtain ⟨i,j,rfl,rfl,hij,hjn,M⟩:=hrel
  by_cases hlt:i < j
  ·have hjl:Hid ((i+j) / 2 < vs.length∧(i+j) / 2 < bl.length∧(i+j) / 2 < (lasts bl).length):=by unfold Hid;rw [← HNB.out,← HR.out.len,← HN.out];omega
   obtain ⟨b,off,rfl,hb,hc⟩:=HR.out.rd.at ((i+j) / 2) hjl.out.1;have hrow:=HR.out.rows ((i+j) / 2) hjl.out.1 hjl.out.2.1;have hrow2:=HE.out (bl[(i+j) / 2]'hjl.out.2.1) (List.getElem_mem _);obtain ⟨x,hx⟩:∃ x,x=vs[(i+j) / 2]'hjl.out.1:=⟨_,rfl⟩;have hc':w.cell? ⟨b,off+(i+j) / 2,none⟩=some x:=by rw [hx];exact hc
   rw [← hx] at hrow;have HROW:=Lib.hid hrow;have HROW2:=Lib.hid hrow2;have hlast:(lasts bl)[(i+j) / 2]'hjl.out.2.2=lastT (bl[(i+j) / 2]'hjl.out.2.1):=by simp [lasts]
   obtain ⟨y,hy⟩:∃ y,y=lastT (bl[(i+j) / 2]'hjl.out.2.1):=⟨_,rfl⟩;rw [← hy] at hlast;have HY:=Lib.hid hy;have HLA:=Lib.hid hlast;have hw0:IntKind.i64.wrap ((i:Int)+(j:Int))=(i:Int)+(j:Int):=IntWalk.i64_in _ (by omega);clear hc hb hx hrow hrow2 hy hlast;go_wp2_with fail;refine (e0L w x (bl[(i+j) / 2]'hjl.out.2.1) k HROW.out HROW2.out.1 HROW2.out.2).mono ?_;rintro e w1 ⟨rfl,rfl⟩;rw [← HY.out];have hcl:=m0w y k;obtain ⟨z,hz⟩:∃ z,z=Lib.compareBytes y k:=⟨_,rfl⟩;rw [← hz] at hcl ⊢;clear hz
   cases hxk:less y k with
   | true=>
    have HL:=Lib.hid hxk;rw [hxk] at hcl;clear hxk;go_wp2_with fail
    go_round
    case rel=>exact ⟨(i+j) / 2+1,j,by go_num,rfl,by omega,hjn,Lib.hid (M.out.up HU.out (by omega) (by rw [HLA.out];exact HL.out))⟩
    case measure=>simp [intOf];omega
   | false=>
    have HL:=Lib.hid hxk;rw [hxk] at hcl;clear hxk;go_wp2_with fail
    go_round
    case rel=>exact ⟨i,(i+j) / 2,rfl,by go_num,by omega,by omega,Lib.hid (M.out.down HU.out (by omega) (by omega) (by rw [HLA.out];exact HL.out))⟩
    case measure=>simp [intOf];omega
  ·obtain rfl:i=j:=by omega
   have HA:=Lib.hid M.out.at;clear M
   by_cases hin:i < n
   ·have hjl:Hid (i < vs.length∧i < bl.length∧i < (lasts bl).length):=by unfold Hid;rw [← HNB.out,← HR.out.len,← HN.out];omega
    obtain ⟨b,off,rfl,hb,hc⟩:=HR.out.rd.at i hjl.out.1;have hrow:=HR.out.rows i hjl.out.1 hjl.out.2.1;have hrow2:=HE.out (bl[i]'hjl.out.2.1) (List.getElem_mem _);obtain ⟨x,hx⟩:∃ x,x=vs[i]'hjl.out.1:=⟨_,rfl⟩;have hc':w.cell? ⟨b,off+i,none⟩=some x:=by rw [hx];exact hc
    rw [← hx] at hrow;have HROW:=Lib.hid hrow;have HROW2:=Lib.hid hrow2;clear hc hb hx hrow hrow2;go_wp2_with fail;refine (e0L w x (bl[i]'hjl.out.2.1) k HROW.out HROW2.out.1 HROW2.out.2).mono ?_;rintro e w1 ⟨rfl,rfl⟩;obtain ⟨z,hz⟩:∃ z,z=Lib.compareBytes (lastT (bl[i]'hjl.out.2.1)) k:=⟨_,rfl⟩;rw [← hz];clear hz
    cases hz0:(z == 0) with
    | true=>
     go_wp2_with fail
     go_ret2
     exact ⟨i,true,rfl,HA.out,rfl⟩
    | false=>
     go_wp2_with fail
     go_ret2
     exact ⟨i,false,rfl,HA.out,rfl⟩
   ·go_wp2_with fail
    go_ret2
    exact ⟨i,false,rfl,HA.out,rfl⟩

def FindRet (w:World) (bl:List (List Txt)) (k:Txt) (e:Ending) (w':World):Prop:=∃ i:Nat,e = .returned (.int .i64 i)∧Find bl k i∧w=w'
theorem e0B {w:World} {g bm:Nat} {vb vp:Value} {zs:List (Value × List Txt)} (h:Bk w g bm vb vp zs) (hub:UpK (zs.map (·.2)).flatten) (hlz:zs.length < 4611686018427387904) (hne:zs≠[]) (k:Txt):Calls Tryz.prog 123 #[.pointer (some ⟨g,0,none⟩),.string (bs k)] w (FindRet w (zs.map (·.2)) k):=by
 obtain ⟨ad,cap,hvb,h1,h2⟩:=h.blocks.shape;obtain ⟨vs,hvs⟩:∃ vs,vs=zs.map (·.1):=⟨_,rfl⟩;obtain ⟨bl,hbl⟩:∃ bl,bl=zs.map (·.2):=⟨_,rfl⟩;have hl:bl.length < 4611686018427387904:=by rw [hbl,List.length_map];exact hlz
 have hbn:bl≠[]:=by rw [hbl];intro e;exact hne (List.map_eq_nil_iff.1 e)
 have hnn:∀ b∈bl,b≠[]∧b.length≤64:=by
  intro b hb;rw [hbl] at hb;obtain ⟨z,hz,rfl⟩:=List.mem_map.1 hb
  exact h.ne z hz
 have hlen:vs.length=bl.length:=by rw [hvs,hbl,List.length_map,List.length_map]
 rw [← hbl] at hub ⊢;rw [← hvs] at hvb h1;have hrows:Rows w (.slice ad vs.length cap) vs bl:=by
  refine ⟨by rw [← hvb,hvs];exact h.blocks.rd h0O,hlen,fun i a b=>?_⟩;have ha:i < zs.length:=by rw [hvs,List.length_map] at a;exact a
  have e1:vs[i]=zs[i].1:=by simp [hvs]
  have e2:bl[i]=zs[i].2:=by simp [hbl]
  rw [e1,e2]
  exact (h.rows.rows zs[i] (List.getElem_mem _)).rd e0A
 have hul:=k0y hub (fun b hb=>(hnn b hb).1);have hf:∀ i,At (lasts bl) k i→Find bl k (min i (bl.length - 1)):=by
  intro i ha;have hpos:=List.length_pos_iff.2 hbn;have hll:(lasts bl).length=bl.length:=by simp [lasts]
  have hle:=ha.le;have hg:∀ q (hq:q < bl.length),(lasts bl)[q]'(by omega)=lastT bl[q]:=fun q hq=>by simp [lasts]
  have hlt:∀ (b:List Txt) x,x∈b.getLast?→x=lastT b:=fun b x hx=>by unfold lastT;rw [Option.mem_def.1 hx];rfl
  refine ⟨by omega,fun j hj hji x hx=>?_,?_⟩
  ·rw [hlt _ _ hx,← hg j hj];exact ha.lo j (by omega) (by omega)
  ·by_cases hi:i < bl.length
   ·right
    intro x hx;have e:min i (bl.length - 1)=i:=by omega
    rw [hlt _ _ hx,← hg _ (by omega)]
    exact ha.hi _ (by omega) (by omega)
   ·left;omega
 obtain ⟨n,hn⟩:∃ n,n=vs.length:=⟨_,rfl⟩;have hnb:n=bl.length:=by rw [hn,hlen]
 rw [← hn] at h1 hrows;have c2:w.cell? ⟨g,2,none⟩=some (.slice ad n cap):=by rw [hn,← hvb];exact Lib.cell_of_heap h.head 2
 have HR:=Lib.hid hrows;have HU:=Lib.hid hul;have HE:Hid (∀ b∈bl,b≠[]∧b.length < 4611686018427387904):=Lib.hid fun b hb=>⟨(hnn b hb).1,by have:=(hnn b hb).2;omega⟩
 have HF:=Lib.hid hf;have HNB:=Lib.hid hnb;have HL:=Lib.hid hl;have hn0:0 < n:=by rw [hnb];exact List.length_pos_iff.2 hbn
 have hn1:n < 4611686018427387904:=by rw [hnb];exact hl
 clear hrows hul hub hf hn hnb hne hl h hbn hnn hlen hvb hvs hbl hlz
 go_enter Tryz.func123,Tryz.ntmps123
 go_wp2_with fail;refine (k0W w _ vs bl k HR.out HU.out HE.out HL.out).mono ?_;rintro e w1 ⟨i,b,rfl,ha,rfl⟩;have HA:=Lib.hid ha;clear ha
 by_cases hin:i < n
 ·have hd:(i:Int)≤(n:Int) - 1:=by omega
  go_wp2_with fail
  go_ret
  have h3:=HF.out i HA.out;rw [← HNB.out,show min i (n - 1)=i by omega] at h3
  exact ⟨i,rfl,h3,rfl⟩
 ·have hd:¬ (i:Int)≤(n:Int) - 1:=by omega
  go_wp2_with fail
  go_ret
  have h3:=HF.out i HA.out;rw [← HNB.out,show min i (n - 1)=n - 1 by omega] at h3;refine ⟨n - 1,?_,h3,rfl⟩
  show Ending.returned (Value.int .i64 ((n:Int) - 1))=_
  rw [show ((n - 1:Nat):Int)=(n:Int) - 1 by omega]
end Go.Proofs.YtabminbgoclnkaaGreat
