/- Numbers put into bytes: octet.Var and the document's. No condition. Hashes and amounts put into bytes (code, and the document's); the leaves of reward trees. No condition. The leaves of reward trees as bytes (code, and the document's). No condition. -/
import Derived.Test.YtakkfabaeolbdaaGreatCn6
import Derived.Test.YtakkfabaeolbdaaGreatCn11
import Derived.Test.YtakkfabaeolbdaaGreatCnReg
namespace Go.Proofs.YtakkfabaeolbdaaGreat
section
set_option maxHeartbeats 4000000
set_option maxRecDepth 100000
open Go.RowKit

theorem s0s {n:Nat} (h:n < 256):byteV (UInt8.ofNat n) = .int .u8 (n:Int):=by
 unfold byteV
 rw [UInt8.toNat_ofNat',Nat.mod_eq_of_lt (by simpa using h)]
theorem c0J {n:Nat} {x:Int} (h:n < 256) (e:x=(n:Int)):u8E (UInt8.ofNat n) = [Value.int .u8 x]:=by rw [e];exact congrArg (fun v=>[v]) (s0s h)
theorem or128:∀ x:Fin 256,x.val ||| 128=x.val % 128+128:=by decide +kernel
theorem o0O (m:Nat):bits BinOp.or IntKind.u8 (IntKind.u8.wrap (m:Int)) 128=((m % 128+128:Nat):Int):=by
 have h:=or128 ⟨m % 256,Nat.mod_lt _ (by omega)⟩;simp only at h;have hw:IntKind.u8.wrap (m:Int)=((m % 256:Nat):Int):=by rw [IntKind.wrap_u8];omega
 rw [hw];have hx:m % 256 ||| 128 < 2 ^ 8:=Nat.or_lt_two_pow (by omega) (by omega)
 show IntKind.u8.wrap ((BitVec.ofInt 8 ((m % 256:Nat):Int) ||| BitVec.ofInt 8 128).toNat:Int)=_
 have e1:(BitVec.ofInt 8 ((m % 256:Nat):Int)).toNat=m % 256:=by rw [BitVec.toNat_ofInt];omega
 have e2:(BitVec.ofInt 8 128).toNat=128:=rfl;rw [BitVec.toNat_or,e1,e2,IntKind.wrap_u8,h]
 omega
theorem n0H {o l:List UInt8} {m N:Nat} (h:o ++ varN m=l ++ varN N) (hN:N < 9223372036854775808):o.length≤l.length+9:=by
 have:=congrArg List.length h;simp only [List.length_append] at this;have:=i0K hN
 omega

theorem l0A (w:World) (v:Value) (l:List UInt8) (hr:Rd w u8E 1 v l) (hlen:l.length < 1000000000) (n:Int) (hn:n < 9223372036854775808) :
  Calls Tryz.prog 161 #[v,.int .i64 n] w (RowB w (l ++ varN n.toNat)):=by
 have HR:=Lib.hid hr;clear hr
 rcases Int.lt_or_le n 0 with h0 | h0
 ·rw [Int.toNat_of_nonpos (Int.le_of_lt h0)];have hN2:0 < 9223372036854775808:=by omega
  obtain ⟨N,hN⟩:∃ N,N=0:=⟨_,rfl⟩;rw [← hN] at hN2 ⊢;have H00:Hid (Value.int IntKind.i64 0 = .int .i64 (N:Int)):=Lib.hid (by rw [hN];rfl);clear hN
  go_enter Tryz.func161,Tryz.ntmps161
  go_wp2_with fail;refine (b0H w v l HR.out (by omega)).mono ?_;rintro e w1 ⟨v1,rfl,ho,hb⟩;have HO:=Lib.hid ho;have HB:=Lib.hid hb;clear ho hb HR;go_wp2_with fail
  go_loopw [1,5] (fun x vo wr=>∃ (m:Nat) (o:List UInt8),m < 9223372036854775808∧x = .int .i64 m∧Hid (o ++ varN m=l ++ varN N)∧Hid (Own wr w.heap.size 5 u8E 1 vo o)∧Hid (Below w.heap.size w wr)) (fun x _ _=>(intOf x).toNat)
  case atStart=>exact ⟨N,l,hN2,H00.out,Lib.hid rfl,HO,HB⟩
  case round=>
   clear HO HB;obtain ⟨m,o,hm,rfl,HE,HO,HB⟩:=hrel;have HL:=Lib.hid (n0H HE.out hN2)
   by_cases hlt:m < 128
   ·obtain ⟨c,hc⟩:∃ c,c=UInt8.ofNat m:=⟨_,rfl⟩;have HE2:=Lib.hid (by rw [← HE.out,f0g hlt,hc]:o ++ [c]=l ++ varN N);have HC:=Lib.hid (by rw [hc];exact c0J (by omega) rfl:u8E c = [Value.int .u8 (m:Int)]);clear hc
    go_wp2_with (at_builtin;refine b0x rfl _ _ _ rfl Tryz.underlying122 Tryz.infoU8 rfl c HO.out rfl rfl HC.out rfl (by have:=HL.out;unfold maxLen;omega) (by have:=HL.out;omega) HB.out (Nat.le_refl _) HB.out.size (Nat.le_refl _) ?_)
    intro v' w' ho' hb' _;have HO':=Lib.hid ho';have HB':=Lib.hid hb';clear ho' hb';go_wp2_with fail
    go_ret
    exact ⟨_,rfl,by rw [← HE2.out];exact HO'.out,HB'.out⟩
   ·obtain ⟨c,hc⟩:∃ c,c=UInt8.ofNat (m % 128+128):=⟨_,rfl⟩;have HE2:=Lib.hid (by rw [← HE.out,g0n hlt,hc,List.append_assoc];rfl:(o ++ [c]) ++ varN (m / 128)=l ++ varN N);have HC:=Lib.hid (by rw [hc];exact c0J (by omega) (o0O m):u8E c = [Value.int .u8 (bits BinOp.or IntKind.u8 (IntKind.u8.wrap (m:Int)) 128)]);clear hc
    go_wp2_with (at_builtin;refine b0x rfl _ _ _ rfl Tryz.underlying122 Tryz.infoU8 rfl c HO.out rfl rfl HC.out rfl (by have:=HL.out;unfold maxLen;omega) (by have:=HL.out;omega) HB.out (Nat.le_refl _) HB.out.size (Nat.le_refl _) ?_)
    intro v' w' ho' hb' _;have HO':=Lib.hid ho';have HB':=Lib.hid hb';clear ho' hb';go_wp2_with fail
    go_roundw
    case rel=>exact ⟨m / 128,_,by omega,by go_num,HE2,HO',HB'⟩
    case measure=>simp [intOf];omega
 ·obtain ⟨N,rfl⟩:=Int.eq_ofNat_of_zero_le h0;rw [Int.toNat_natCast];have hN2:N < 9223372036854775808:=by omega
  clear h0 hn
  go_enter Tryz.func161,Tryz.ntmps161
  go_wp2_with fail;refine (b0H w v l HR.out (by omega)).mono ?_;rintro e w1 ⟨v1,rfl,ho,hb⟩;have HO:=Lib.hid ho;have HB:=Lib.hid hb;clear ho hb HR;go_wp2_with fail
  go_loopw [1,5] (fun x vo wr=>∃ (m:Nat) (o:List UInt8),m < 9223372036854775808∧x = .int .i64 m∧Hid (o ++ varN m=l ++ varN N)∧Hid (Own wr w.heap.size 5 u8E 1 vo o)∧Hid (Below w.heap.size w wr)) (fun x _ _=>(intOf x).toNat)
  case atStart=>exact ⟨N,l,hN2,rfl,Lib.hid rfl,HO,HB⟩
  case round=>
   clear HO HB;obtain ⟨m,o,hm,rfl,HE,HO,HB⟩:=hrel;have HL:=Lib.hid (n0H HE.out hN2)
   by_cases hlt:m < 128
   ·obtain ⟨c,hc⟩:∃ c,c=UInt8.ofNat m:=⟨_,rfl⟩;have HE2:=Lib.hid (by rw [← HE.out,f0g hlt,hc]:o ++ [c]=l ++ varN N);have HC:=Lib.hid (by rw [hc];exact c0J (by omega) rfl:u8E c = [Value.int .u8 (m:Int)]);clear hc
    go_wp2_with (at_builtin;refine b0x rfl _ _ _ rfl Tryz.underlying122 Tryz.infoU8 rfl c HO.out rfl rfl HC.out rfl (by have:=HL.out;unfold maxLen;omega) (by have:=HL.out;omega) HB.out (Nat.le_refl _) HB.out.size (Nat.le_refl _) ?_)
    intro v' w' ho' hb' _;have HO':=Lib.hid ho';have HB':=Lib.hid hb';clear ho' hb';go_wp2_with fail
    go_ret
    exact ⟨_,rfl,by rw [← HE2.out];exact HO'.out,HB'.out⟩
   ·obtain ⟨c,hc⟩:∃ c,c=UInt8.ofNat (m % 128+128):=⟨_,rfl⟩;have HE2:=Lib.hid (by rw [← HE.out,g0n hlt,hc,List.append_assoc];rfl:(o ++ [c]) ++ varN (m / 128)=l ++ varN N);have HC:=Lib.hid (by rw [hc];exact c0J (by omega) (o0O m):u8E c = [Value.int .u8 (bits BinOp.or IntKind.u8 (IntKind.u8.wrap (m:Int)) 128)]);clear hc
    go_wp2_with (at_builtin;refine b0x rfl _ _ _ rfl Tryz.underlying122 Tryz.infoU8 rfl c HO.out rfl rfl HC.out rfl (by have:=HL.out;unfold maxLen;omega) (by have:=HL.out;omega) HB.out (Nat.le_refl _) HB.out.size (Nat.le_refl _) ?_)
    intro v' w' ho' hb' _;have HO':=Lib.hid ho';have HB':=Lib.hid hb';clear ho' hb';go_wp2_with fail
    go_roundw
    case rel=>exact ⟨m / 128,_,by omega,by go_num,HE2,HO',HB'⟩
    case measure=>simp [intOf];omega
end
section
set_option maxHeartbeats 4000000
set_option maxRecDepth 100000
open Go.RowKit

theorem q0U {a b c d:Int} {m:Nat} (h:UIs a b c d m) (w:World):Calls Tryz.prog 206 #[.agg #[.int .u64 a,.int .u64 b,.int .u64 c,.int .u64 d]] w (RowB w (amtB m)):=by
 have h1:=j0e a b c d w h.1.1 h.1.2 h.2.1.1 h.2.1.2 h.2.2.1.1 h.2.2.1.2 h.2.2.2.1.1 h.2.2.2.1.2;rw [g0q h] at h1
 exact h1
theorem Own.rdo {α β:Type} {w w':World} {B:Nat} {e:TypeId} {enc:α→List Value} {enc2:β→List Value} {sz sz2:Nat} {v u:Value} {l:List α} {l2:List β} (h:Own w B e enc sz v l) (hg:w.grownBy w' v.ownBlock) (hr:Rd w enc2 sz2 u l2) (hu:∀ k,u.ownBlock=some k→k < B):Rd w' enc2 sz2 u l2:=by
 obtain ⟨ad,cap,rfl,h1,h2,h3⟩:=hr;refine ⟨ad,cap,rfl,h1,h2,fun hne=>?_⟩;obtain ⟨b,off,rfl,hb',hc⟩:=h3 hne;refine ⟨b,off,rfl,Nat.lt_of_lt_of_le hb' hg.size,fun i hi j hj=>?_⟩;rw [World.cell?_of_block (w:=w) (w':=w') (hg.block b hb' (fun e=>by have:=(h.lt b e.symm).1;have:=hu b rfl;omega))]
 exact hc i hi j hj

theorem p0l (w:World) (v:Value) (l h:List UInt8) (hr:Rd w u8E 1 v l) (hlen:l.length < 1000000000) (hhq:h.length=32) :
  Calls Tryz.prog 160 #[v,.agg (c8 h)] w (RowB w (l ++ h)):=by
 have HR:=hh hr;have HL:=hh hlen;have HH:=hh hhq;clear hr hlen hhq
 go_enter Tryz.func160,Tryz.ntmps160
 go_wp2_with fail;obtain ⟨w1,hw1⟩:=nm (w.alloc (.cells (c8 h) 27));obtain ⟨X,hX⟩:=nm (w.heap.size);rw [← hw1,← hX];have HX:=hh (show w1.heap[X]? = some (.cells (c8 h) 27 (0,0)) by rw [hw1,hX];exact heap_alloc_new _ _);have HB:=hh (show Below w.heap.size w w1 by rw [hw1];exact (Below.refl _ _).alloc (Nat.le_refl _) _);clear hw1 hX;obtain ⟨wz,hwz⟩:=nm (w1.drew);have hbz:Below w1.heap.size w1 wz:=by rw [hwz];exact (Below.refl _ _).drew
 have HXz:=hh (a0c hbz HX.out);have HBz:=bT HB hbz;clear hbz HX HB;refine a0f (fun _=>True) 5 5 (by kernel_rfl) rfl ?_;rw [← hwz];clear hwz;refine a0g 0 (some 5) rfl rfl (by kernel_rfl) (by kernel_rfl) (by kernel_rfl) (by kernel_rfl) (by kernel_rfl) (by kernel_rfl) (fun _ _ _ h=>h) (.inl ⟨by rfl,fun w' _=>(by go_simp;rfl)⟩) (by trivial) ?_;go_frame;refine a0g 2 (some 7) rfl rfl (by kernel_rfl) (by kernel_rfl) (by kernel_rfl) (by kernel_rfl) (by kernel_rfl) (by kernel_rfl) (fun _ _ _ h=>h) (.inl ⟨by rfl,fun w' _=>(by go_simp;rfl)⟩) (by trivial) ?_;go_frame;refine t1 1 fun K hK=>?_
 simp only [gA,jB,gC];go_simp;refine (b0H _ v l (HR.out.later HBz.out) (by have:=HL.out;omega)).mono ?_;rintro e w2 ⟨v2,rfl,ho,hb⟩;have HO:=hh ho;have HX2:=hh (a0c hb HXz.out);have HB2:=bT HBz hb;clear ho;refine hK _ _ (fun _ _=>trivial) ?_;clear hK HXz;refine t1 3 fun K hK=>?_
 simp only [gA,jB,gC];refine a0L (.tmp 6) (.tmp 7) 122 rfl Tryz.underlying122 Tryz.infoU8 rfl (by decide) b0D h0h HO.out rfl _ rfl (o0t HX2.out 32 HH.out.symm (by omega)) (by rw [HH.out];have:=HL.out;unfold maxLen;omega) (by rw [HH.out];have:=HL.out;omega) (B:=w.heap.size) (w0:=w) HB2.out HBz.out.size hb.size ?_;intro v3 w3 ho3 hb3 _;have HO3:=hh ho3;have HB3:=hh hb3;refine hK _ _ (fun _ _=>trivial) ?_;clear hK hb HO HX2 HB2 ho3 hb3;refine a0g 4 (some 4) rfl rfl (by kernel_rfl) (by kernel_rfl) (by kernel_rfl) (by kernel_rfl) (by kernel_rfl) (by kernel_rfl) (fun _ _ _ h=>h) (.inl ⟨by rfl,fun w' _=>(by go_simp;rfl)⟩) (by trivial) ?_;go_frame;refine tD ?_;go_wp2_with fail
 go_ret
 exact ⟨_,rfl,HO3.out.mono HBz.out.size,HB3.out⟩

theorem r0P (m:Nat):(sigB (amtB m)).length≤32:=by have:=s0K (amtB m);rw [a0J] at this;exact this
def amtT (m:Nat):List UInt8:=UInt8.ofNat (sigB (amtB m)).length :: sigB (amtB m)
theorem r0z (m:Nat):(amtT m).length≤33:=by have:=r0P m;unfold amtT;simp;omega
theorem r0Y {m:Nat} (h:m < uMax):be (amtB m)=m:=by have:=i0v h;unfold amtF at this;rwa [if_pos (a0J m)] at this
theorem r0e {m:Nat} (h:m < uMax):(bitsN m+7) / 8=(sigB (amtB m)).length:=by have:=n0d (amtB m);rwa [r0Y h] at this
theorem r0i (w:World) (v:Value) (l:List UInt8) (hr:Rd w u8E 1 v l) (hlen:l.length < 1000000000) {a b c d:Int} {m:Nat} (h:UIs a b c d m) :
  Calls Tryz.prog 162 #[v,.agg #[.int .u64 a,.int .u64 b,.int .u64 c,.int .u64 d]] w (RowB w (l ++ amtT m)):=by
 have HR:=hh hr;have HL:=hh hlen;have H:=hh h;obtain ⟨D,hD⟩:=nm (bitsN m);obtain ⟨k,hk⟩:=nm ((sigB (amtB m)).length);have hdk:((D:Int)+7) / 8=(k:Int):=by have:=r0e h.lt;rw [← hD,← hk] at this;omega
 have hk32:k≤32:=by rw [hk];exact r0P m
 have hD256:D≤256:=by rw [hD];exact f0c m 256 (by have:=h.lt;unfold uMax at this;exact this)
 obtain ⟨c0,hc0⟩:=nm (UInt8.ofNat k);have HC0:=hh (by rw [hc0];exact c0J (by omega) (by rw [IntKind.wrap_u8];omega):u8E c0 = [Value.int .u8 (IntKind.u8.wrap (k:Int))]);have HT:=hh (by unfold amtT;rw [hc0,hk]:amtT m=c0 :: sigB (amtB m));have HDK:=hh hD;have HKK:=hh hk;have hw32:IntKind.i64.wrap ((32:Int) - (k:Int))=32 - (k:Int):=IntWalk.i64_in _ (by omega);clear hr hlen hD hk hc0 h
 go_enter Tryz.func162,Tryz.ntmps162
 go_wp2_with fail;obtain ⟨w1,hw1⟩:=nm (w.alloc (.cells #[.int .u64 a,.int .u64 b,.int .u64 c,.int .u64 d] 25));obtain ⟨X,hX⟩:=nm (w.heap.size);rw [← hw1,← hX];have HX:=hh (show w1.heap[X]? = some (.cells #[.int .u64 a,.int .u64 b,.int .u64 c,.int .u64 d] 25 (0,0)) by rw [hw1,hX];exact heap_alloc_new _ _);have HB:=hh (show Below w.heap.size w w1 by rw [hw1];exact (Below.refl _ _).alloc (Nat.le_refl _) _);clear hw1 hX;refine (n0n H.out w1).mono ?_;rintro e w2 ⟨rfl,hb2⟩;rw [← HDK.out];have HX2:=hh (a0c hb2 HX.out);have HB2:=bT HB hb2;clear hb2 HX HB
 go_wp2_with (refine lR HX2 Tryz.underlying25 Tryz.sizeU ?_)
 refine (q0U H.out w2).mono ?_;rintro e w3 ⟨va,rfl,ho,hb3⟩;have hrd:=ho.rd b0D;obtain ⟨ad,cap,rfl,_,_⟩:=hrd.shape;rw [a0J];rw [a0J] at hrd;obtain ⟨vs,hs1,hs2,hs5⟩:=hrd.from Tryz.underlying122 (sz:=1) (by kernel_rfl) (32 - k) (by rw [a0J];omega);have hs3:sigB (amtB m)=(amtB m).drop (32 - k):=by have:=o0b (amtB m);rw [a0J,← HKK.out] at this;exact this.symm
 rw [← hs3] at hs2;have hs4:∀ w kl,(Instr.slice 122 (.slice ad 32 cap) (some (.int kl ((32:Int) - (k:Int)))) none none).run Tryz.prog w = .ok vs w:=fun w kl=>by
  have:=hs1 w kl
  rwa [show ((32 - k:Nat):Int)=(32:Int) - (k:Int) by omega] at this
 have HS:=hh hs2;have HB:=bT HB2 hb3;have HLS:=hh (by rw [← HKK.out];exact hk32:(sigB (amtB m)).length≤32);have HQ3:=hh (fun q e=>(ho.lt q (hs5 q e)).2:∀ q,vs.ownBlock=some q→q < w3.heap.size);clear ho hrd hb3 hs1 hs2 hs3 hs5 HX2 HB2;go_wp2_with fail;obtain ⟨wz,hwz⟩:=nm (w3.drew);have hbz:Below w3.heap.size w3 wz:=by rw [hwz];exact (Below.refl _ _).drew
 have HR0:=hh (HR.out.later (HB.out.trans (hbz.mono HB.out.size)));have HS0:=hh (HS.out.later hbz);have HB0:=bT HB hbz;have HZ0:=hh (Nat.le_refl wz.heap.size);have HQ:=hh (fun q e=>Nat.lt_of_lt_of_le (HQ3.out q e) hbz.size:∀ q,vs.ownBlock=some q→q < wz.heap.size);clear hbz HR HS HB HQ3;have hS:True:=trivial;have HW:=hh HB0.out.size;refine a0f (fun _=>True) 14 14 (by kernel_rfl) rfl ?_;rw [← hwz];clear hwz;refine tA1 0 13 hS ?_;go_frame;refine tA1 2 15 hS ?_;go_frame;refine tA1 3 16 hS ?_;go_frame;refine tA1 6 19 hS ?_;go_frame;refine tA1 7 20 hS ?_;go_frame;refine tA1 8 21 hS ?_;go_frame;refine tA1 9 22 hS ?_;go_frame;refine tA1 10 23 hS ?_;go_frame;refine tA1 11 24 hS ?_;go_frame;refine a0B 1 4 rfl rfl (by kernel_rfl) (fun K hK=>?_) (fun K hK=>?_)
 ·simp only [gA,jB,gC];rw [if_pos (by rfl)];go_simp;refine (b0H _ v l HR0.out (by have:=HL.out;omega)).mono ?_;rintro e wt1 ⟨v2,rfl,ho,hb⟩;have HO1:=hh (ho.mono HZ0.out);clear ho;have HR1:=hh (HR0.out.later hb);have HS1:=hh (HS0.out.later hb);have HB1:=bT HB0 hb;have HZ1:=hh (Nat.le_trans HZ0.out hb.size);clear hb HR0 HS0 HB0 HZ0;refine hK _ _ (fun _ _=>hS) ?_;clear hK;refine t1 4 fun K hK=>?_
  simp only [gA,jB,gC];go_simp;obtain ⟨wt2,hw⟩:=nm (World.alloc wt1 (.cells #[.int .u8 (IntKind.u8.wrap (k:Int))] 5));obtain ⟨Y,hY⟩:=nm ((World.heap wt1).size);rw [← hw,← hY];have HY2:=hh (show Rd wt2 u8E 1 (.slice (some ⟨Y,0,none⟩) 1 1) [c0] by rw [hw,hY];exact c0w _ u8E b0D 5 [c0] _ 1 rfl (by omega) (by simp [HC0.out]));have hb:Below (World.heap wt1).size wt1 wt2:=by rw [hw];exact (Below.refl _ _).alloc (Nat.le_refl _) _
  clear hw hY;have HR2:=hh (HR1.out.later hb);have HS2:=hh (HS1.out.later hb);have HB2:=bT HB1 hb;have HZ2:=hh (Nat.le_trans HZ1.out hb.size);have HO2:=hh (HO1.out.later hb);clear hb HR1 HS1 HB1 HZ1 HO1;refine hK _ _ (fun _ _=>hS) ?_;clear hK;refine t1 5 fun K hK=>?_
  simp only [gA,jB,gC];refine a0L (.tmp 14) (.tmp 17) 122 rfl Tryz.underlying122 Tryz.infoU8 rfl (by decide) b0D h0h HO2.out rfl _ rfl HY2.out (by have:=HL.out;simp only [List.length_cons,List.length_nil];unfold maxLen;omega) (by have:=HL.out;simp only [List.length_cons,List.length_nil];omega) (B:=w.heap.size) (w0:=w) HB2.out HW.out HZ2.out ?_;intro v3 wt3 ho hb hg;have HO3:=hh ho;have HB3:=hh hb;have HZ3:=hh (Nat.le_trans HZ2.out hg.size);have HS3:=hh (HO2.out.rdo hg HS2.out HQ.out);clear ho hb hg HR2 HS2 HB2 HZ2 HO2 HY2;refine hK _ _ (fun _ _=>hS) ?_;clear hK;refine t1 12 fun K hK=>?_
  simp only [gA,jB,gC];refine a0L (.tmp 18) (.tmp 24) 122 rfl Tryz.underlying122 Tryz.infoU8 rfl (by decide) b0D h0h HO3.out rfl _ rfl HS3.out (by have:=HL.out;have:=HLS.out;simp only [List.length_append,List.length_cons,List.length_nil];unfold maxLen;omega) (by have:=HL.out;have:=HLS.out;simp only [List.length_append,List.length_cons,List.length_nil];omega) (B:=w.heap.size) (w0:=w) HB3.out HW.out HZ3.out ?_;intro v4 wt4 ho hb hg;have HO4:=hh ho;have HB4:=hh hb;have HZ4:=hh (Nat.le_trans HZ3.out hg.size);clear ho hb hg HO3 HB3 HZ3 HS3;refine hK _ _ (fun _ _=>hS) ?_;clear hK;refine tA1 13 4 hS ?_;go_frame;refine tD ?_;go_wp2_with fail
  go_ret
  exact ⟨_,rfl,by rw [HT.out];have h:=HO4.out;rw [List.append_assoc] at h;exact h.mono HW.out,HB4.out⟩
 ·simp only [gA,jB,gC];rw [if_pos (by rfl)];go_simp;obtain ⟨wt5,hw⟩:=nm (World.alloc wz (.cells #[.int .u8 (IntKind.u8.wrap (k:Int))] 5));obtain ⟨Y,hY⟩:=nm ((World.heap wz).size);rw [← hw,← hY];have HY5:=hh (show Rd wt5 u8E 1 (.slice (some ⟨Y,0,none⟩) 1 1) [c0] by rw [hw,hY];exact c0w _ u8E b0D 5 [c0] _ 1 rfl (by omega) (by simp [HC0.out]));have hb:Below (World.heap wz).size wz wt5:=by rw [hw];exact (Below.refl _ _).alloc (Nat.le_refl _) _
  clear hw hY;have HR5:=hh (HR0.out.later hb);have HS5:=hh (HS0.out.later hb);have HB5:=bT HB0 hb;have HZ5:=hh (Nat.le_trans HZ0.out hb.size);clear hb HR0 HS0 HB0 HZ0;refine hK _ _ (fun _ _=>hS) ?_;clear hK;refine t1 1 fun K hK=>?_
  simp only [gA,jB,gC];go_simp;refine (b0H _ v l HR5.out (by have:=HL.out;omega)).mono ?_;rintro e wt6 ⟨v2,rfl,ho,hb⟩;have HO6:=hh (ho.mono HZ5.out);clear ho;have HR6:=hh (HR5.out.later hb);have HS6:=hh (HS5.out.later hb);have HB6:=bT HB5 hb;have HZ6:=hh (Nat.le_trans HZ5.out hb.size);have HY6:=hh (HY5.out.later hb);clear hb HR5 HS5 HB5 HZ5 HY5;refine hK _ _ (fun _ _=>hS) ?_;clear hK;refine t1 5 fun K hK=>?_
  simp only [gA,jB,gC];refine a0L (.tmp 14) (.tmp 17) 122 rfl Tryz.underlying122 Tryz.infoU8 rfl (by decide) b0D h0h HO6.out rfl _ rfl HY6.out (by have:=HL.out;simp only [List.length_cons,List.length_nil];unfold maxLen;omega) (by have:=HL.out;simp only [List.length_cons,List.length_nil];omega) (B:=w.heap.size) (w0:=w) HB6.out HW.out HZ6.out ?_;intro v7 wt7 ho hb hg;have HO7:=hh ho;have HB7:=hh hb;have HZ7:=hh (Nat.le_trans HZ6.out hg.size);have HS7:=hh (HO6.out.rdo hg HS6.out HQ.out);clear ho hb hg HR6 HS6 HB6 HZ6 HY6 HO6;refine hK _ _ (fun _ _=>hS) ?_;clear hK;refine t1 12 fun K hK=>?_
  simp only [gA,jB,gC];refine a0L (.tmp 18) (.tmp 24) 122 rfl Tryz.underlying122 Tryz.infoU8 rfl (by decide) b0D h0h HO7.out rfl _ rfl HS7.out (by have:=HL.out;have:=HLS.out;simp only [List.length_append,List.length_cons,List.length_nil];unfold maxLen;omega) (by have:=HL.out;have:=HLS.out;simp only [List.length_append,List.length_cons,List.length_nil];omega) (B:=w.heap.size) (w0:=w) HB7.out HW.out HZ7.out ?_;intro v8 wt8 ho hb hg;have HO8:=hh ho;have HB8:=hh hb;have HZ8:=hh (Nat.le_trans HZ7.out hg.size);clear ho hb hg HO7 HB7 HZ7 HS7;refine hK _ _ (fun _ _=>hS) ?_;clear hK;refine tA1 13 4 hS ?_;go_frame;refine tD ?_;go_wp2_with fail
  go_ret
  exact ⟨_,rfl,by rw [HT.out];have h:=HO8.out;rw [List.append_assoc] at h;exact h.mono HW.out,HB8.out⟩

theorem Rd.grown {β:Type} {w w':World} {row:Option Nat} {enc2:β→List Value} {sz2:Nat} {u:Value} {l2:List β} (hr:Rd w enc2 sz2 u l2) (hg:w.grownBy w' row) (hu:∀ k,u.ownBlock=some k→row≠some k):Rd w' enc2 sz2 u l2:=by
 obtain ⟨ad,cap,rfl,h1,h2,h3⟩:=hr;refine ⟨ad,cap,rfl,h1,h2,fun hne=>?_⟩;obtain ⟨b,off,rfl,hb',hc⟩:=h3 hne;refine ⟨b,off,rfl,Nat.lt_of_lt_of_le hb' hg.size,fun i hi j hj=>?_⟩;rw [World.cell?_of_block (w:=w) (w':=w') (hg.block b hb' (fun e=>hu b rfl e.symm))]
 exact hc i hi j hj
end
section
set_option maxHeartbeats 4000000
set_option maxRecDepth 100000
open Go.RowKit

theorem d0T {P:Program} {w:World} {g:Nat} {t ty:TypeId} {cs:Array Value} {fr:Nat × Nat} {d:TypeDesc} (hg:w.heap[g]? = some (.cells cs t fr))
  (hu:P.underlying ty=some d) (hd:(match d with | .struct _ | .array _ _=>true | _=>false)=true) (hi:(P.info? ty).map (·.size)=some cs.size) :
  (Instr.loadAt ty (.pointer (some ⟨g,0,none⟩))).run P w = .ok (.agg cs) w:=by
 have h:=run_loadVar_row (P:=P) w g t ty cs fr d hg hu hd hi
 exact h
theorem Tryz.sizeHc (h:List UInt8) (hhq:h.length=32):(Tryz.prog.info? 27).map (·.size)=some (c8 h).size:=by
 rw [show (c8 h).size=32 by simp [c8,hhq]];kernel_rfl
def earL (e:Int) (h:List UInt8):List UInt8:=varN e.toNat ++ h
def tokL (t:Int) (m:Nat):List UInt8:=varN t.toNat ++ amtT m
theorem l0O {e:Int} {h:List UInt8} (he:e < 9223372036854775808) (hhq:h.length=32):(earL e h).length≤41:=by
 have:=i0K (show e.toNat < 9223372036854775808 by omega)
 unfold earL;rw [List.length_append,hhq];omega
theorem l0z {t:Int} {m:Nat} (he:t < 9223372036854775808):(tokL t m).length≤42:=by
 have:=i0K (show t.toNat < 9223372036854775808 by omega);have:=r0z m
 unfold tokL;rw [List.length_append];omega

theorem o0c (w:World) (n:Int) (hn:n < 9223372036854775808) {h:List UInt8} (hhq:h.length=32) :
  Calls Tryz.prog 83 #[.int .i64 n,.agg (c8 h)] w (RowB w (earL n h)):=by
 have HH:=hh hhq;have HN:=hh hn;have HLN:=hh (show (varN n.toNat).length≤9 from i0K (by omega));clear hn hhq
 go_enter Tryz.func83,Tryz.ntmps83
 go_wp2_with fail;obtain ⟨w1,hw1⟩:=nm (w.alloc (.cells (c8 h) 27));obtain ⟨X,hX⟩:=nm (w.heap.size);rw [← hw1,← hX];have HX:=hh (show w1.heap[X]? = some (.cells (c8 h) 27 (0,0)) by rw [hw1,hX];exact heap_alloc_new _ _);have HB:=hh (show Below w.heap.size w w1 by rw [hw1];exact (Below.refl _ _).alloc (Nat.le_refl _) _);clear hw1 hX;obtain ⟨wz,hwz,hbz⟩:=dr w1;have hS:=a0c hbz HX.out;have HBz:=bT HB hbz;clear hbz HX HB;refine rg (fun w'=>w'.heap[X]? = some (.cells (c8 h) 27 (0,0))) 5 5 hwz hS ?_;clear hwz;refine tA1 0 5 hS ?_;go_frame;refine tk 2 (some 7) rfl rfl (a0p (by rfl) 27 _ rfl (.pointer (some ⟨X,0,none⟩)) rfl (.agg (c8 h)) (fun w' hS'=>d0T hS' Tryz.underlying27 rfl (Tryz.sizeHc h HH.out))) hS ?_;go_frame;refine t1 1 fun K hK=>?_
 simp only [gA,jB,gC];go_simp;refine (l0A _ _ [] (Rd.nil _ _ _) (by simp) n HN.out).mono ?_;rintro e w2 ⟨v2,rfl,ho,hb⟩;have hS2:=a0c hb hS;have HO:=hh (ho.mono HBz.out.size);have HR2:=hh (HO.out.rd b0D);rw [List.nil_append] at HR2;have HB2:=bT HBz hb;refine hK _ _ (fun _ _=>hS2) ?_;clear hK hS hb ho;have hS:=hS2;clear hS2;refine t1 3 fun K hK=>?_
 simp only [gA,jB,gC];go_simp;refine (p0l _ _ _ h HR2.out (by have:=HLN.out;omega) HH.out).mono ?_;rintro e w3 ⟨v3,rfl,ho,hb⟩;have hS3:=a0c hb hS;have HO3:=hh (ho.mono HB2.out.size);have HB3:=bT HB2 hb;refine hK _ _ (fun _ _=>hS3) ?_;clear hK hS hb ho;have hS:=hS3;clear hS3;refine tA1 4 4 hS ?_;go_frame;refine tD ?_;clear hS;go_wp2_with fail
 go_ret
 exact ⟨_,rfl,HO3.out,HB3.out⟩

theorem n0L (w:World) (n:Int) (hn:n < 9223372036854775808) {a b c d:Int} {m:Nat} (h:UIs a b c d m) :
  Calls Tryz.prog 84 #[.int .i64 n,.agg #[.int .u64 a,.int .u64 b,.int .u64 c,.int .u64 d]] w (RowB w (tokL n m)):=by
 have HH:=hh h;have HN:=hh hn;have HLN:=hh (show (varN n.toNat).length≤9 from i0K (by omega));clear hn h
 go_enter Tryz.func84,Tryz.ntmps84
 go_wp2_with fail;obtain ⟨w1,hw1⟩:=nm (w.alloc (.cells #[.int .u64 a,.int .u64 b,.int .u64 c,.int .u64 d] 25));obtain ⟨X,hX⟩:=nm (w.heap.size);rw [← hw1,← hX];have HX:=hh (show w1.heap[X]? = some (.cells #[.int .u64 a,.int .u64 b,.int .u64 c,.int .u64 d] 25 (0,0)) by rw [hw1,hX];exact heap_alloc_new _ _);have HB:=hh (show Below w.heap.size w w1 by rw [hw1];exact (Below.refl _ _).alloc (Nat.le_refl _) _);clear hw1 hX;obtain ⟨wz,hwz,hbz⟩:=dr w1;have hS:=a0c hbz HX.out;have HBz:=bT HB hbz;clear hbz HX HB;refine rg (fun w'=>w'.heap[X]? = some (.cells #[.int .u64 a,.int .u64 b,.int .u64 c,.int .u64 d] 25 (0,0))) 5 5 hwz hS ?_;clear hwz;refine tA1 0 5 hS ?_;go_frame;refine tk 2 (some 7) rfl rfl (a0p (by rfl) 25 _ rfl (.pointer (some ⟨X,0,none⟩)) rfl (.agg #[.int .u64 a,.int .u64 b,.int .u64 c,.int .u64 d]) (fun w' hS'=>d0T hS' Tryz.underlying25 rfl Tryz.sizeU)) hS ?_;go_frame;refine t1 1 fun K hK=>?_
 simp only [gA,jB,gC];go_simp;refine (l0A _ _ [] (Rd.nil _ _ _) (by simp) n HN.out).mono ?_;rintro e w2 ⟨v2,rfl,ho,hb⟩;have hS2:=a0c hb hS;have HO:=hh (ho.mono HBz.out.size);have HR2:=hh (HO.out.rd b0D);rw [List.nil_append] at HR2;have HB2:=bT HBz hb;refine hK _ _ (fun _ _=>hS2) ?_;clear hK hS hb ho;have hS:=hS2;clear hS2;refine t1 3 fun K hK=>?_
 simp only [gA,jB,gC];go_simp;refine (r0i _ _ _ HR2.out (by have:=HLN.out;omega) HH.out).mono ?_;rintro e w3 ⟨v3,rfl,ho,hb⟩;have hS3:=a0c hb hS;have HO3:=hh (ho.mono HB2.out.size);have HB3:=bT HB2 hb;refine hK _ _ (fun _ _=>hS3) ?_;clear hK hS hb ho;have hS:=hS3;clear hS3;refine tA1 4 4 hS ?_;go_frame;refine tD ?_;clear hS;go_wp2_with fail
 go_ret
 exact ⟨_,rfl,HO3.out,HB3.out⟩
end
end Go.Proofs.YtakkfabaeolbdaaGreat
