/- Law 33: the world of all tables' roots, and the document's examples (code). No condition. Law 33: ClaimNone. No condition. -/
import Derived.Test.YtakkfabaeolbdaaGreatCn39
import Derived.Test.YtakkfabaeolbdaaGreatCnLeD
import Derived.Test.YtakkfabaeolbdaaGreatCn38
import Derived.Deep.Cut
namespace Go.Proofs.YtakkfabaeolbdaaGreat
section
set_option maxHeartbeats 16000000
set_option maxRecDepth 100000
open Go.RowKit

def w33:Nat→PS
 | 0=>PS.new.reg 9
 | i+1=>((w33 i).mint (1+(i:Int)) 9 100000).psub 9 (1+(i:Int)) 5000
def wT (tabs:List (List LRow)):PS:=tabs.foldl (fun s t=>postS s (rootT t).1 0 3) (w33 3)
theorem s0o {tabs:List (List LRow)} {i:Nat} (hi:i < tabs.length):wT (tabs.take (i+1))=postS (wT (tabs.take i)) (rootT tabs[i]).1 0 3:=by
 unfold wT;rw [List.take_succ_eq_append_getElem hi,List.foldl_append];rfl
theorem wT_0 (tabs:List (List LRow)):wT (tabs.take 0)=w33 3:=by unfold wT;rw [List.take_zero,List.foldl_nil]
theorem wT_1 (t:List LRow):wT [t]=postS (w33 3) (rootT t).1 0 3:=by unfold wT;rw [List.foldl_cons,List.foldl_nil]
theorem s0N:Fit (w33 3):=by show ∀ p∈(w33 3).t,p.2.length≤1000000;decide +kernel
theorem t0m:(w33 3).sz < 200:=by decide +kernel
theorem p0M:∀ i,i≤3→Fit (w33 i)∧Fit ((w33 i).mint (1+(i:Int)) 9 100000)∧(w33 i).sz < 200∧((w33 i).mint (1+(i:Int)) 9 100000).sz < 200:=by
 intro i hi
 rcases (show i=0∨i=1∨i=2∨i=3 by omega) with rfl | rfl | rfl | rfl<;>exact ⟨by show ∀ p∈_,_;decide +kernel,by show ∀ p∈_,_;decide +kernel,by decide +kernel,by decide +kernel⟩
theorem r0H (tabs:List (List LRow)):Fit (wT tabs)∧(wT tabs).sz≤200+6*tabs.length:=by
 unfold wT
 have key:∀ (l:List (List LRow)) (s:PS),Fit s→Fit (l.foldl (fun s t=>postS s (rootT t).1 0 3) s)∧(l.foldl (fun s t=>postS s (rootT t).1 0 3) s).sz≤s.sz+6*l.length:=by
  intro l
  induction l with
  | nil=>intro s h;exact ⟨h,Nat.le_refl _⟩
  | cons x xs ih=>
   intro s h;obtain ⟨h1,h2⟩:=ih (postS s (rootT x).1 0 3) (h.postS (i0b x) 0 3);refine ⟨h1,?_⟩;have h3:=q0Y s (rootT x).1 0 3;simp only [List.foldl_cons,List.length_cons];omega
 obtain ⟨h1,h2⟩:=key tabs (w33 3) s0N
 exact ⟨h1,by have:=t0m;omega⟩
theorem k0q {w:World} {vt:Value} {tabs:List (List LRow)} (h:TbAt w vt tabs) (hok:∀ t∈tabs,∀ r∈t,ROk r) (hl:∀ t∈tabs,t.length < 1000000000) (hn:tabs.length < 1000) :
  Calls Tryz.prog 13 #[vt] w (fun e w'=>∃ g h,e = .returned (.tuple #[.pointer (some ⟨g,0,none⟩),.pointer (some ⟨h,0,none⟩)])∧Two w w' g h (wT tabs) (wT tabs)):=by
 obtain ⟨ad,cap,rfl⟩:=h.shape;obtain ⟨n,hnn⟩:=nm (tabs.length);rw [← hnn] at h hn ⊢;have HT:=hh h;have HOK:=hh hok;have HL:=hh hl;have HN:=hh hn;have HNN:=hh hnn;clear h hok hl hn hnn;have HB:Hid (Below w.heap.size w w):=hh (Below.refl _ _)
 go_enter Tryz.func13,Tryz.ntmps13
 go_wp2_with fail;refine (r0f _).mono ?_;rintro e w3 ⟨g,F,rfl,q1,hb3,q3⟩;have Q1:=hh q1;have HB3:=bT HB hb3;have Q3:Hid (∀ x∈F,w.heap.size≤x):=hh fun x hx=>Nat.le_trans HB.out.size (q3 x hx)
 clear q1 hb3 q3;go_wp2_with fail;obtain ⟨w4,hw4⟩:=nm (w3.alloc (.cells #[.slice none 0 0,.slice none 0 0] 85));obtain ⟨h,hhq⟩:=nm (w3.heap.size);rw [← hw4,← hhq];have TF:Hid (Two w w4 g h PS.new PS.new):=hh (by
  have hb4:Below w3.heap.size w3 w4:=by rw [hw4];exact (Below.refl _ _).alloc (Nat.le_refl _) _
  have hx4:w4.heap[h]? = some (.cells #[.slice none 0 0,.slice none 0 0] 85 (0,0)):=by rw [hw4,hhq];exact heap_alloc_new _ _
  have hrs:RS w4 h PS.new (rfoot h (.slice none 0 0) (.slice none 0 0)):=⟨_,_,⟨hx4,LO.nil _ _ _ _,LO.nil _ _ _ _,List.Pairwise.nil⟩,rfl⟩;refine ⟨F,_,Q1.out.later hb4,hrs,Q3.out,fun x hx=>?_,HB3.out.trans (hb4.mono HB3.out.size)⟩;rw [b0v] at hx
  rcases hx with e | e | e
  ·rw [e,hhq];exact HB3.out.size
  ·cases e
  ·cases e)
 clear hw4 hhq Q1 Q3 HB3;go_wp2_with fail;refine (TF.out.st fun F hs=>r0h hs (by decide) Fit.new (a:=9) (by unfold I64;omega)).mono ?_;rintro e a1 ⟨rfl,o,hoth⟩;replace TF:=hh o;clear o hoth;go_wp2_with fail;refine (TF.out.rs fun F hs=>m0i hs (by decide) Fit.new (a:=9) (by unfold I64;omega)).mono ?_;rintro e a2 ⟨rfl,o,hoth⟩;replace TF:=hh o;clear o hoth;go_wp2_with fail
 go_loopw [6] (fun vi wr=>∃ (i:Nat),vi = .int .i64 (1+(i:Int))∧i≤3∧Hid (Two w wr g h (w33 i) (w33 i))) (fun vi _=>(4 - intOf vi).toNat)
 case atStart=>exact ⟨0,rfl,by omega,TF⟩
 case round=>
  clear TF;obtain ⟨i,rfl,hi,TF⟩:=hrel;obtain ⟨tk,htk⟩:∃ x:Int,x=1+(i:Int):=⟨_,rfl⟩;rw [← htk]
  by_cases hlt:i < 3
  ·have ht1:tk≤3:=by omega
   have ht2:1≤tk:=by omega
   have HTI:Hid (I64 tk):=hh (by unfold I64;omega);have hft:=p0M i (by omega);obtain ⟨s0,hs0⟩:=nm (w33 i);obtain ⟨s1,hs1⟩:=nm (s0.mint tk 9 100000);obtain ⟨s2,hs2⟩:=nm (s1.psub 9 tk 5000);rw [← hs0] at TF;rw [← htk,← hs0,← hs1] at hft;have HSN:Hid (w33 (i+1)=s2):=hh (by rw [hs2,hs1,hs0,htk];rfl);have HFT:=hh hft;have HS1:=hh hs1;have HS2:=hh hs2;have HJ:=hh hlt;have HTK:=hh htk;clear hft hs0 hs1 hs2 hlt hi htk;go_wp2_with fail;refine (TF.out.st fun F hs=>r0x hs (by have:=HFT.out.2.2.1;omega) HFT.out.1 HTI.out (n:=9) (by unfold I64;omega) (m:=100000) (by unfold UIs;omega)).mono ?_;rw [← HS1.out];rintro e d1 ⟨rfl,o,hoth⟩;replace TF:=hh o;clear o hoth;go_wp2_with fail;refine (TF.out.rs fun F hs=>o0D hs (by have:=HFT.out.2.2.1;omega) HFT.out.1 HTI.out (n:=9) (by unfold I64;omega) (m:=100000) (by unfold UIs;omega)).mono ?_;rw [← HS1.out];rintro e d2 ⟨rfl,o,hoth⟩;replace TF:=hh o;clear o hoth;go_wp2_with fail;refine (TF.out.st fun F hs=>j0Z hs (by have:=HFT.out.2.2.2;omega) HFT.out.2.1 (v:=9) (by unfold I64;omega) HTI.out (m:=5000) (by unfold UIs;omega)).mono ?_;rw [← HS2.out];rintro e d3 ⟨rfl,o,hoth⟩;replace TF:=hh o;clear o hoth;go_wp2_with fail
   refine (TF.out.rs fun F hs=>j0n hs (by have:=HFT.out.2.2.2;omega) HFT.out.2.1 (v:=9) (by unfold I64;omega) HTI.out (m:=5000) (by unfold UIs;omega)).mono ?_;rw [← HS2.out];rintro e d4 ⟨rfl,o,hoth⟩;replace TF:=hh o;clear o hoth;go_wp2_with fail
   go_roundw
   case rel=>exact ⟨i+1,by rw [HTK.out];first | rfl | (congr 1;omega),HJ.out,by rw [HSN.out];exact TF⟩
   case measure=>have:=HTK.out;have:=HJ.out;simp [intOf];omega
  ·obtain rfl:i=3:=by omega
   obtain rfl:tk=4:=by omega
   clear hlt hi htk;have TS:Hid (Two w wr g h (wT (tabs.take 0)) (wT (tabs.take 0))):=hh (by rw [wT_0];exact TF.out);clear TF;go_wp2_with fail
   go_loopw [40] (fun vi wr=>∃ (i:Nat),vi = .int .i64 i∧i≤n∧Hid (Two w wr g h (wT (tabs.take i)) (wT (tabs.take i)))) (fun vi _=>n - (intOf vi).toNat)
   case atStart=>exact ⟨0,rfl,Nat.zero_le _,TS⟩
   case round=>
    clear TS;obtain ⟨i,rfl,hin,TF⟩:=hrel
    by_cases hlt:i < n
    ·have hi:i < tabs.length:=by rw [← HNN.out];exact hlt
     obtain ⟨b,off,⟨sa,sn,sc⟩,rfl,hb,hc,hr,hs⟩:=HT.out.at hi;have cT:wr.cell? ⟨b,off+i,none⟩=some (.slice sa sn sc):=(TF.out.below.cell (p:=⟨b,off+i,none⟩) hb).trans hc;have HR:Hid (Rd wr rowE 6 (.slice sa sn sc) tabs[i]):=hh (hr.later TF.out.below);have HRK:=hh (HOK.out _ (List.getElem_mem hi));have HRL:=hh (HL.out _ (List.getElem_mem hi));have htk:=s0o hi;obtain ⟨tb,htb⟩:=nm (tabs[i]);rw [← htb] at HR HRK HRL htk;obtain ⟨hft1,hft2⟩:=r0H (tabs.take i);rw [List.length_take] at hft2;obtain ⟨s0,hs0⟩:=nm (wT (tabs.take i));rw [← hs0] at TF htk hft1 hft2;have HFT:=hh hft1;have HSZ:Hid (s0.sz < 1000000):=hh (by have:=HN.out;omega);have HR32:=hh (i0b tb);obtain ⟨s1,hs1⟩:=nm (postS s0 (rootT tb).1 0 3);have HTK:Hid (wT (tabs.take (i+1))=s1):=hh (htk.trans hs1.symm);have HS1:=hh hs1;have HLT:=hh hlt;clear hb hc hr hs htk htb hft1 hft2 hs0 hs1 hlt hi;go_wp2_with fail;clear cT;refine (n0N _ _ _ HR.out HRK.out HRL.out).mono ?_;rintro e b1 ⟨rfl,hb⟩;replace TF:=hh (TF.out.later hb);clear hb;clear HR
     go_wp2_with (refine sA _ Tryz.zeroHash ?_)
     intro H b2 hH
     go_wp2_with (refine a0a (t:=27) (old:=(cB 32 [])) rfl 27 _ _ rfl H (c8 (rootT tb).1) rfl rfl hH.out.cells (Tryz.sizeHc _ HR32.out) (by rw [a0m,HR32.out];rfl) (g0e _) ?_)
     intro b3 hxH kH zH;clear zH;have hbH:Below b1.heap.size b1 b3:=hH.out.below.trans (kH.below (B:=b1.heap.size) (fun x hx e=>by have:=hH.out.eq;omega) hH.out.below.size);have WH:=mGe hH TF.out.below.size;have HH:=hh hxH;clear hH hxH kH;replace TF:=hh (TF.out.later hbH);clear hbH
     go_wp2_with (refine lR HH Tryz.underlying27 (Tryz.sizeHc _ HR32.out) ?_)
     refine (TF.out.st fun F hs=>m0B hs (by have:=HSZ.out;omega) HFT.out HR32.out 0 3).mono ?_;rw [← HS1.out];rintro e b4 ⟨rfl,o,hoth⟩;replace TF:=hh o;replace HH:=oA hoth HH;clear o hoth
     go_wp2_with (refine lR HH Tryz.underlying27 (Tryz.sizeHc _ HR32.out) ?_)
     refine (TF.out.rs fun F hs=>j0R hs (by have:=HSZ.out;omega) HFT.out HR32.out 0 3).mono ?_;rw [← HS1.out];rintro e b5 ⟨rfl,o,hoth⟩;replace TF:=hh o;clear o hoth;have hi9:i < 1000:=by have:=HN.out;have:=HLT.out;omega
     go_wp2_with fail
     go_roundw
     case rel=>exact ⟨i+1,by go_num,HLT.out,by rw [HTK.out];exact TF⟩
     case measure=>have:=HLT.out;simp [intOf];omega
    ·obtain rfl:i=n:=by omega
     have HTA:Hid (tabs.take i=tabs):=hh (List.take_of_length_le (by rw [← HNN.out];omega));clear hlt hin;go_wp2_with fail
     go_ret2
     have h9:=TF.out;rw [HTA.out] at h9
     exact ⟨g,h,rfl,h9⟩

theorem k0h {α:Type} {w w':World} {B:Nat} {e:TypeId} {enc:α→List Value} {sz:Nat} {v:Value} {l:List α} (hk:∀ cur,stoKind (.cells cur e (0,0))=false∧rstKind (.cells cur e (0,0))=false) (h:Own w B e enc sz v l) (ho:Oth w w'):Own w' B e enc sz v l:=by
 obtain ⟨h1,h2⟩:=h;refine ⟨h1,?_⟩
 rcases h2 with h2 | ⟨g,cap,cur,e,hB,hg,h3⟩
 ·exact .inl h2
 ·exact .inr ⟨g,cap,cur,e,hB,ho.2 g _ hg (hk cur).1 (hk cur).2,h3⟩
theorem f0q (cur:Array Value):stoKind (.cells cur 27 (0,0))=false∧rstKind (.cells cur 27 (0,0))=false:=⟨rfl,rfl⟩
theorem i0X (cur:Array Value):stoKind (.cells cur 72 (0,0))=false∧rstKind (.cells cur 72 (0,0))=false:=⟨rfl,rfl⟩
theorem ClO.oth {w w':World} {v:Value} {c:CCl} (h:ClO w v c) (ho:Oth w w'):ClO w' v c:=by
 obtain ⟨p,lv,xs,h1,h2,h3,h4⟩:=h
 exact ⟨p,lv,xs,h1,k0h f0q h2 ho,⟨k0h i0X h3.1 ho,fun x hx=>k0h f0q (h3.2 x hx) ho⟩,h4⟩
theorem f0u {α:Type} {w:World} {B:Nat} {e:TypeId} {enc:α→List Value} {sz:Nat} {v:Value} {l:List α} {S:Nat→Prop} (h:Own w B e enc sz v l) (hS:∀ x cur,S x→w.heap[x]?≠some (.cells cur e (0,0))):∀ x,v.ownBlock=some x→¬ S x:=by
 intro x hx hs
 rcases h.2 with ⟨h0,_⟩ | ⟨g',cap',cur,h0,_,hhq,_⟩
 ·rw [h0] at hx;simp [Value.ownBlock] at hx
 ·rw [h0] at hx
  simp [Value.ownBlock] at hx
  subst hx
  exact hS g' cur hs hhq
theorem ClO.clk {w:World} {v:Value} {c:CCl} {S:Nat→Prop} (h:ClO w v c) (hS:∀ x cur,S x→w.heap[x]?≠some (.cells cur 27 (0,0))∧w.heap[x]?≠some (.cells cur 72 (0,0))):ClK w S v c:=by
 obtain ⟨p,lv,xs,h1,h2,h3,h4⟩:=h
 exact ⟨p,lv,xs,h1,h4,fun w' k=>⟨(h2.keep k (f0u h2 fun x cur hx=>(hS x cur hx).1)).rd b0U,(h3.1.keep k (f0u h3.1 fun x cur hx=>(hS x cur hx).2)).rd f0D,fun x hx=>((h3.2 x hx).keep k (f0u (h3.2 x hx) fun x cur hx=>(hS x cur hx).1)).rd b0U⟩⟩
theorem St.no_claim {w:World} {g:Nat} {s:PS} {F:List Nat} (h:St w g s F):∀ x cur,x∈F→w.heap[x]?≠some (.cells cur 27 (0,0))∧w.heap[x]?≠some (.cells cur 72 (0,0)):=by
 intro x cur hx;obtain ⟨o,ho,hk⟩:=h.kind x hx;refine ⟨fun e=>?_,fun e=>?_⟩<;>rw [ho] at e<;>cases e
 ·rw [(f0q cur).1] at hk;cases hk
 ·rw [(i0X cur).1] at hk;cases hk
theorem r0A {w0 w w':World} {g:Nat} {s':PS} {F:List Nat} (h3:∀ x∈F,w0.heap.size≤x) (h5:Below w0.heap.size w0 w) (h:Liv w F w' g s'):One w0 w' g s':=by
 obtain ⟨F',q1,q2,q3⟩:=h;refine ⟨F',q1,fun x hx=>?_,h5.trans (q2.below (fun x hx e=>by have:=h3 x e;omega) h5.size)⟩
 rcases q3 x hx with h | h
 ·exact h3 x h
 ·exact Nat.le_trans h5.size h
theorem j0j {l:List LRow} {e:Int} {ts:List Int} {c:CCl} (h:claimR l e ts = .ok c):c.root=0∧c.e=e∧c.to=e:=by
 unfold claimR at h
 split at h
 ·cases h
 ·split at h
  ·cases h
  ·split at h
   ·cases h
   ·split at h
    ·cases h
    ·split at h
     ·cases h
     ·cases h;exact ⟨rfl,rfl,rfl⟩
theorem q0Q {w:World} {g m:Nat} (h:w.heap[g]? = some (.cells #[.int .u64 (uw0 m),.int .u64 (uw1 m),.int .u64 (uw2 m),.int .u64 (uw3 m)] 25 (0,0))):Own w 0 25 uE 4 (.slice (some ⟨g,0,none⟩) 1 1) [m]:=by
 refine ⟨by simp [uE],.inr ⟨g,1,_,rfl,Nat.zero_le _,h,Nat.le_refl _,by unfold maxLen;omega,by simp,?_⟩⟩
 simp [uE]
theorem rt1 {rt:Txt} (h32:rt.length=32):rtF (getP (postS (w33 3) rt 0 3).t) 0=⟨rt,1,3,true⟩:=by
 have h1:valF (getP (postS (w33 3) rt 0 3).t) (keyF 37 [0]) = [1,3].flatMap numL:=by kernel_rfl
 have h2:valF (getP (postS (w33 3) rt 0 3).t) (keyF 38 [0])=rt:=by kernel_rfl
 unfold rtF;rw [h1,h2,show rowF ([1,3].flatMap numL) = [1,3] from by kernel_rfl,k0E h32]
theorem use1 {f:Txt→Option Txt} {rt:Txt} (h:rtF f 0=⟨rt,1,3,true⟩):useE f 0 3=0∧useH f 0 3=rt:=by
 have h1:=r0O (b:=3) h rfl rfl (show (3:Int)≤3 from Int.le_refl 3)
 exact ⟨h1.1,h1.2⟩
theorem rt2 {rt:Txt} (h32:rt.length=32):rtF (getP ((postS (w33 3) rt 0 3).lp 7 7 1 10).t) 0=⟨rt,1,3,true⟩:=by
 have h1:valF (getP ((postS (w33 3) rt 0 3).lp 7 7 1 10).t) (keyF 37 [0]) = [1,3].flatMap numL:=by kernel_rfl
 have h2:valF (getP ((postS (w33 3) rt 0 3).lp 7 7 1 10).t) (keyF 38 [0])=rt:=by kernel_rfl
 unfold rtF;rw [h1,h2,show rowF ([1,3].flatMap numL) = [1,3] from by kernel_rfl,k0E h32]
theorem live33 {rt:Txt} (h32:rt.length=32) {c:CCl} {i:Int} (h1:c.root=0) (h2:c.e=7) (h3:c.to=7) (h4:c.lv = [⟨i,1,10,[]⟩]) (ho:openR c rt=0) :
  clE (postS (w33 3) rt 0 3) 7 c 3=0∧(postS (w33 3) rt 0 3).cl 7 c 3=(postS (w33 3) rt 0 3).lp 7 7 1 10∧clV (postS (w33 3) rt 0 3) 7 c 3 = [10]∧clE ((postS (w33 3) rt 0 3).lp 7 7 1 10) 7 c 3=17:=by
 have a1:clmF (getP (postS (w33 3) rt 0 3).t) 7=7:=by kernel_rfl
 have a2:lpE (postS (w33 3) rt 0 3) 7 7 1 10=0:=by kernel_rfl
 have a3:lpV (postS (w33 3) rt 0 3) 7 7 1 10=10:=by kernel_rfl
 have a4:clmF (getP ((postS (w33 3) rt 0 3).lp 7 7 1 10).t) 7=7:=by kernel_rfl
 have a5:lpE ((postS (w33 3) rt 0 3).lp 7 7 1 10) 7 7 1 10=17:=by kernel_rfl
 obtain ⟨u1,u2⟩:=use1 (rt1 h32);obtain ⟨u3,u4⟩:=use1 (rt2 h32);obtain ⟨s,hs⟩:=nm (postS (w33 3) rt 0 3);rw [← hs] at a1 a2 a3 a4 a5 u1 u2 u3 u4 ⊢;have e1:clE s 7 c 3=0:=by
  unfold clE
  rw [h1,h2,h3,h4,a1,u1,u2,ho,if_neg (by decide),if_neg (by decide),if_neg (by decide),if_neg (by decide),if_neg (by decide)]
  show (if lpE s 7 7 1 10=0 then (0:Int) else lpE s 7 7 1 10)=0
  rw [if_pos a2]
 obtain ⟨_,e2,e3⟩:=r0I e1;refine ⟨e1,?_,?_,?_⟩
 ·rw [e2,h2,h3,h4];rfl
 ·rw [e3,h2,h3,h4];show [lpV s 7 7 1 10] = [10];rw [a3]
 ·unfold clE
  rw [h1,h2,h3,h4,a4,u3,u4,ho,if_neg (by decide),if_neg (by decide),if_neg (by decide),if_neg (by decide),if_neg (by decide)]
  show (if lpE (s.lp 7 7 1 10) 7 7 1 10=0 then (0:Int) else lpE (s.lp 7 7 1 10) 7 7 1 10)=17
  rw [a5];rfl
theorem g0p (w:World):Calls Tryz.prog 8 #[] w (Ret w (.bool true)):=by
 obtain ⟨cix,ce,cto,i,ch,crt,hcl,hop⟩:=l0W;have hcok:=p0n hcl rok0 (by decide) (by decide);obtain ⟨hs1,hs2,hs3⟩:=j0j hcl;have hs1:crt=0:=hs1;have hs2:ce=7:=hs2;have hs3:cto=7:=hs3;subst hs1 hs2 hs3;have hlv:=live33 (i0b [row0]) (c:=⟨0,cix,7,ch,[],[⟨i,1,10,[]⟩],7⟩) (i:=i) rfl rfl rfl rfl hop;obtain ⟨c,hc⟩:∃ c:CCl,c=⟨0,cix,7,ch,[],[⟨i,1,10,[]⟩],7⟩:=⟨_,rfl⟩;have hci:CI c:=by rw [hc];exact ⟨show I64 0 by unfold I64;decide,show I64 7 by unfold I64;decide,show I64 7 by unfold I64;decide,fun x hx=>by rw [List.mem_singleton.1 hx];show I64 1;unfold I64;decide⟩
 rw [← hc] at hcl hcok hlv;have h32:c.h.length=32:=hcok.1;obtain ⟨s1,hs1⟩:=nm (postS (w33 3) (rootT [row0]).1 0 3);obtain ⟨s2,hs2⟩:=nm (s1.lp 7 7 1 10);rw [← hs1,← hs2] at hlv;have hf1:Fit s1∧s1.sz≤206:=by have h:=r0H [[row0]];rw [wT_1,← hs1] at h;exact ⟨h.1,h.2⟩
 have hf2:Fit s2∧s2.sz≤220:=by
  have h:=lp_sz s1 7 7 1 10;rw [hs2];exact ⟨r0V hf1.1 _ _ _ _,by have:=hf1.2;omega⟩
 have HW:Hid (wT [[row0]]=s1):=hh (by rw [hs1];exact wT_1 _);have HCL:=hh hcl;have HCOK:=hh hcok;have HCI:=hh hci;have HLV:=hh hlv;have HF1:=hh hf1;have HF2:=hh hf2;have H32:=hh h32;clear hcl hcok hci hlv hf1 hf2 hs1 hs2 hc h32 hop
 go_enter Tryz.func8,Tryz.ntmps8
 go_wp2_with fail;obtain ⟨w1,hw1⟩:=nm (w.alloc (.cells (rowC row0) 63));obtain ⟨w2,hw2⟩:=nm (w1.alloc (.cells #[.slice (some ⟨w.heap.size,0,none⟩) 1 1] 60));have hb1:Below w.heap.size w w1:=by rw [hw1];exact (Below.refl _ _).alloc (Nat.le_refl _) _
 have hb2:Below w1.heap.size w1 w2:=by rw [hw2];exact (Below.refl _ _).alloc (Nat.le_refl _) _
 have hs1:w1.heap.size=w.heap.size+1:=by rw [hw1];exact Array.size_push _
 have hR1:Rd w1 rowE 6 (.slice (some ⟨w.heap.size,0,none⟩) 1 1) [row0]:=by rw [hw1];exact r0Q w row0 _
 have hT2:TbAt w2 (.slice (some ⟨w.heap.size+1,0,none⟩) 1 1) [[row0]]:=by
  refine ⟨[(some ⟨w.heap.size,0,none⟩,1,1)],rfl,?_,fun j h1 h2=>?_⟩
  ·rw [← hs1,hw2];exact c0w w1 stE e0k _ _ _ 1 rfl (by omega) rfl
  ·obtain rfl:j=0:=by simpa using h1
   exact hR1.later hb2
 have HB2:=hh (hb1.trans (hb2.mono hb1.size));have HR2:=hh (hR1.later hb2);have hcall:=k0q hT2 (by intro t ht;rw [List.mem_singleton.1 ht];exact rok0) (by intro t ht;rw [List.mem_singleton.1 ht];decide) (by decide);have hcall2:Calls Tryz.prog 13 #[.slice (some ⟨w.heap.size+1,0,none⟩) 1 1] ((w.alloc (.cells #[.int .i64 7,.int .i64 1,.int .u64 10,.int .u64 0,.int .u64 0,.int .u64 0] 63)).alloc (.cells #[.slice (some ⟨w.heap.size,0,none⟩) 1 1] 60)) (fun e w'=>∃ g h,e = .returned (.tuple #[.pointer (some ⟨g,0,none⟩),.pointer (some ⟨h,0,none⟩)])∧Two w2 w' g h (wT [[row0]]) (wT [[row0]])):=by
  rw [hw2,hw1] at hcall ⊢;exact hcall
 clear hw1 hw2 hb1 hb2 hs1 hR1 hT2 hcall;refine hcall2.mono ?_;clear hcall2;rw [HW.out];rintro e w3 ⟨g,h,rfl,t3⟩;have O:Hid (One w w3 g s1):=hh (by obtain ⟨F,G,q1,q2,q3,q4,q5⟩:=t3;exact ⟨F,q1,fun x hx=>Nat.le_trans HB2.out.size (q3 x hx),HB2.out.trans (q5.mono HB2.out.size)⟩);have HR3:=hh (HR2.out.later t3.below);clear t3 HB2 HR2;go_wp2_with fail;obtain ⟨w4,hw4⟩:=nm (w3.alloc (.cells #[.int .i64 1] 3));obtain ⟨tk,htk⟩:=nm (w3.heap.size);rw [← hw4,← htk];have hb4:Below w3.heap.size w3 w4:=by rw [hw4];exact (Below.refl _ _).alloc (Nat.le_refl _) _
 have HT4:Hid (Rd w4 intE 1 (.slice (some ⟨tk,0,none⟩) 1 1) [1]):=hh (by rw [hw4,htk];exact c0w w3 intE (fun _=>rfl) _ _ _ 1 rfl (by omega) rfl);have O4:=hh (O.out.later hb4);have HR4:=hh (HR3.out.later hb4);clear hw4 htk hb4 O HR3;refine (k0D w4 _ _ [row0] 7 [1] HR4.out rok0 (by simp) HT4.out (by simp)).mono ?_;rw [HCL.out];rintro e w5 ⟨hb5,v5,rfl,hco⟩;have O5:=hh (O4.out.later hb5);have HCO:=hh hco;obtain ⟨⟨pa,pn,pc⟩,⟨la,ln,lc⟩,xs,hv5,_⟩:=hco;clear hb5 O4 HR4 HT4;obtain ⟨⟨crt,cix,ce,ch,cp,clv,cto⟩,hcc⟩:∃ z,z=c:=⟨_,rfl⟩;rw [← hcc] at hv5;have HCH:Hid (ch.length=32):=hh (by have h:=H32.out;rw [← hcc] at h;exact h);have HCC:=hh hcc;clear hcc;simp only [] at hv5;have HV5:=hh hv5;subst hv5
 go_wp2_with (refine sA _ Tryz.zeroCl ?_)
 intro C a1 hC
 go_wp2_with (refine a0a (t:=31) (old:=clZ) rfl 31 _ _ rfl C (clC crt cix ce ch (pa,pn,pc) (la,ln,lc) cto) rfl rfl hC.out.cells (Tryz.sizeCl _ _ _ HCH.out _ _ _) (by rw [c0x _ _ _ HCH.out];rfl) (c0n _ _ _ _ _ _ _) ?_)
 intro a2 hxC kC zC;clear zC;have hbC:Below w5.heap.size w5 a2:=hC.out.below.trans (kC.below (B:=w5.heap.size) (fun x hx e=>by have:=hC.out.eq;omega) hC.out.below.size);have WC:=mGe hC O5.out.below.size;have HC:=hh hxC;clear hC hxC kC;replace O5:=hh (O5.out.later hbC);replace HCO:=hh (HCO.out.later hbC);clear hbC
 go_wp2_with (refine lR HC Tryz.underlying31 (Tryz.sizeCl _ _ _ HCH.out _ _ _) ?_)
 obtain ⟨F9,q1,q3,q5⟩:=O5.out;refine (h0l q1 (by have:=HF1.out.2;omega) HF1.out.1 (HCO.out.clk q1.no_claim) HCOK.out HCI.out (fr:=7) (b:=3)).mono ?_;rintro e a3 ⟨vx,rfl,hown,L⟩;have hoth:=Oth.of_st q1 L.keep;have O6:=hh (r0A q3 q5 L);have HC6:=oA hoth HC;have HCO6:=hh (HCO.out.oth hoth);rw [HLV.out.1];rw [HLV.out.2.1] at O6;rw [HLV.out.2.2.1] at hown;have HX:=hh hown;clear q1 q3 q5 L hoth O5 HC HCO hown;have O5:=O6;have HC:=HC6;have HCO:=HCO6;clear O6 HC6 HCO6
 go_wp2_with (refine lR HC Tryz.underlying31 (Tryz.sizeCl _ _ _ HCH.out _ _ _) ?_)
 obtain ⟨F9,q1,q3,q5⟩:=O5.out;refine (h0l q1 (by have:=HF2.out.2;omega) HF2.out.1 (HCO.out.clk q1.no_claim) HCOK.out HCI.out (fr:=7) (b:=3)).mono ?_;rintro e a4 ⟨vy,rfl,hown,L⟩;have hoth:=Oth.of_st q1 L.keep;have O6:=hh (r0A q3 q5 L);have HC6:=oA hoth HC;have HCO6:=hh (HCO.out.oth hoth);rw [HLV.out.2.2.2];have HX6:=hh (f0A HX.out hoth);clear q1 q3 q5 L hoth O5 HC HCO hown HC6 HCO6 HX;go_wp2_with fail;obtain ⟨w8,hw8⟩:=nm (a4.alloc (.cells #[.int .u64 10,.int .u64 0,.int .u64 0,.int .u64 0] 25));obtain ⟨tk2,htk2⟩:=nm (a4.heap.size);rw [← hw8,← htk2];have hb8:Below a4.heap.size a4 w8:=by rw [hw8];exact a0d _ _
 have HY8:Hid (Own w8 0 25 uE 4 (.slice (some ⟨tk2,0,none⟩) 1 1) [10]):=hh (q0Q (by rw [hw8,htk2];exact heap_alloc_new _ _));have O8:=hh (O6.out.later hb8);have HX8:=hh (HX6.out.later hb8);clear hw8 htk2 hb8 O6 HX6;refine (t0h (HX8.out.rd k0P) (HY8.out.rd k0P) (by intro n hn;rw [List.mem_singleton.1 hn];decide) (by intro n hn;rw [List.mem_singleton.1 hn];decide) (by simp) (by simp)).mono ?_;rw [decide_eq_true rfl];rintro e w9 ⟨rfl,hb9⟩;have O9:=hh (O8.out.later hb9);clear hb9 O8 HX8 HY8;go_wp2_with fail
 go_ret
 exact ⟨rfl,O9.out.below⟩
end
section
set_option maxHeartbeats 16000000
set_option maxRecDepth 100000
open Go.RowKit

def pf0:Txt→Option Txt:=fun _=>none
theorem h0I:FitF pf0:=FitF.none
theorem l0m (k:Txt):amtV pf0 k=0:=by
 unfold amtV valF pf0
 exact c0z
theorem n0h:intF (rowF (Option.getD none []))=0:=by kernel_rfl
theorem l0a (e:Int):clmF pf0 e=e:=by
 have h:getI pf0 (keyF 39 [e])=0:=by
  unfold getI valF pf0
  exact n0h
 unfold clmF;rw [h,if_pos rfl]
theorem Tryz.idxPt0 (p q:Value) (w:World):(Instr.index 43 (.agg #[p,q]) (.int .i64 0)).run Tryz.prog w = .ok p w:=by kernel_rfl
theorem Tryz.idxPt1 (p q:Value) (w:World):(Instr.index 43 (.agg #[p,q]) (.int .i64 1)).run Tryz.prog w = .ok q w:=by kernel_rfl
theorem Tryz.infoA33:(Tryz.prog.info? 33).map (fun i=>(i.zero,i.size,i.bytes))=some (some (.agg (raE raZ).toArray),50,224):=by kernel_rfl
theorem h0g {w:World} {x:Option Addr} (h:NotMade w x) (fr b:Int) (cs:Array Value):Calls Tryz.prog 9 #[.pointer x,.int .i64 fr,.agg cs,.int .i64 b] w (Ret w (.tuple #[.slice none 0 0,.int .i64 1])):=by
 have H:=hh h;clear h
 go_enter_defers Tryz.func9,Tryz.ntmps9
 go_wp2_with (refine sA _ Tryz.zeroEr ?_)
 obtain ⟨w1,hw1⟩:=nm (w.alloc (.cells cs 31));rw [← hw1];have hb:Below w.heap.size w w1:=by rw [hw1];exact a0d _ _
 have HB:=hh hb;clear hw1 hb;intro E w2 hE;have HB2:=hh (HB.out.trans (hE.out.below.mono HB.out.size));have HN:=hh (H.out.later HB2.out);have HE:=hh hE.out.cells;have WE:=mGe hE HB.out.size;clear hE H HB;go_wp2_with fail;refine (i0G HN.out).mono ?_;rintro e _ ⟨rfl,rfl⟩
 go_wp2_with (refine a0h rfl 45 _ _ rfl E 0 (.int .i64 1) rfl rfl rfl rfl 45 _ HE.out Tryz.sizeEr (by simp) #[.int .i64 1] rfl ?_)
 intro w3 hx k z;clear z;have HB3:=bS HB2 k WE;have HE3:=hh hx;clear hx k;go_wp2_with fail
 exact c0d rfl rfl rfl rfl HE3.out ⟨rfl,HB3.out⟩
theorem none33_any {w:World} (x:Act33) (hga:GA w x):Calls Tryz.prog 3 #[.agg (raE x.a).toArray] w (Ret w (.bool true)):=by
 have HGA:=hh hga;have HH:=hh hga.h;clear hga
 go_enter Tryz.func3,Tryz.ntmps3
 go_upto_region 1 with fail
 obtain ⟨w0,hw0⟩:=nm (w.alloc (.cells (raE x.a).toArray 33));obtain ⟨R,hR⟩:=nm (w.heap.size);rw [← hw0,← hR];have HR:Hid (w0.heap[R]? = some (.cells (raE x.a).toArray 33 (0,0))):=hh (by rw [hw0,hR];exact heap_alloc_new _ _);have HB0:Hid (Below w.heap.size w w0):=hh (by rw [hw0];exact a0d _ _);clear hw0 hR
 go_wp2_with (first
  | (refine lR HR Tryz.underlying33 (Tryz.sizeA33 HH.out) ?_)
  | (refine e0e rfl 35 _ rfl Tryz.underlying35 Tryz.infoA33 rfl (by omega) (by omega) (.agg (raE x.a).toArray) (raE x.a).toArray rfl rfl (by rw [List.size_toArray,e0n HH.out]) ?_))
 obtain ⟨w1,hw1⟩:=nm (w0.alloc (.cells (raE x.a).toArray 33));obtain ⟨B,hB⟩:=nm (w0.heap.size);rw [← hw1,← hB];have hb1:Below w0.heap.size w0 w1:=by rw [hw1];exact a0d _ _
 have hL:Rd w1 act33E 50 (.slice (some ⟨B,0,none⟩) 1 1) [x]:=by
  refine ⟨_,1,rfl,Nat.le_refl _,by unfold maxLen;decide,fun _=>⟨B,0,rfl,by rw [hw1,World.size_alloc,hB];omega,fun i hi j hj=>?_⟩⟩;have hi0:i=0:=by simp at hi;omega
  subst hi0;have hc:w1.heap[B]? = some (.cells (raE x.a).toArray 33 (0,0)):=by rw [hw1,hB];exact heap_alloc_new _ _
  rw [Lib.cell_of_heap hc];simp [act33E]
 have HL:=hh hL;have HB1:=bT HB0 hb1;have HR1:=bA hb1 HR;clear hw1 hB hb1 hL HR HB0;refine (j0M (tabs:=[]) (l:=[x]) ⟨[],rfl,Rd.nil _ _ _,fun i h=>by cases h⟩ HL.out (by intro y hy;rw [List.mem_singleton.1 hy];exact HGA.out.later HB1.out)).mono ?_;rintro e w2 ⟨r,rfl,hb2,_⟩;have HB2:=bT HB1 hb2;have HR2:=bA hb2 HR1;clear hb2 HB1 HR1 HL
 cases r with
 | false=>
  go_wp2_with fail;refine (g0p _).mono ?_;rintro e w9 ⟨rfl,hb⟩;have HBF:=bT HB2 hb;clear hb;go_wp2_with fail
  go_ret
  exact ⟨rfl,HBF.out⟩
 | true=>
  go_wp2_with fail;obtain ⟨w3,hw3⟩:=nm (w2.alloc (.cells #[.bool false,.map none,.slice none 0 0,.slice none 0 0] 41));obtain ⟨gz,hgz⟩:=nm (w2.heap.size);rw [← hw3,← hgz];have hz3:w3.heap[gz]? = some (.cells #[.bool false,.map none,.slice none 0 0,.slice none 0 0] 41 (0,0)):=by rw [hw3,hgz];exact heap_alloc_new _ _
  have hb3:Below w2.heap.size w2 w3:=by rw [hw3];exact a0d _ _
  have HB3:=bT HB2 hb3;have HX3:=bA hb3 HR2;have HN0:Hid (NotMade w3 none):=hh (.inl rfl);have HN1:Hid (NotMade w3 (some ⟨gz,0,none⟩)):=hh (.inr ⟨gz,_,_,rfl,hz3,rfl⟩);clear hw3 hgz hz3 hb3 HB2 HR2
  go_loopw [14] (fun vi wr=>(vi = .int .i64 0∨vi = .int .i64 1∨vi = .int .i64 2)∧Hid (Below w3.heap.size w3 wr)) (fun vi _=>2 - (intOf vi).toNat)
  case atStart=>exact ⟨.inl rfl,hh (Below.refl _ _)⟩
  case round=>
   obtain ⟨hv,BW⟩:=hrel;have hi0:=fun w=>Tryz.idxPt0 (.pointer none) (.pointer (some ⟨gz,0,none⟩)) w
   have hi1:=fun w=>Tryz.idxPt1 (.pointer none) (.pointer (some ⟨gz,0,none⟩)) w
   rcases hv with rfl | rfl | rfl
   ·have HA:=hh (a0e BW.out HX3.out);have q1:wr.cell? ⟨R,1,none⟩=some (.int .i64 x.a.who):=(Lib.cell_of_heap HA.out 1).trans (by rw [List.getElem?_toArray,raE_k _ 1 (by decide)];rfl);have q6:wr.cell? ⟨R,6,none⟩=some (.int .i64 x.a.bk):=(Lib.cell_of_heap HA.out 6).trans (by rw [List.getElem?_toArray,raE_k _ 6 (by decide)];rfl)
    go_wp2_with (refine wpList_load_mid rfl 31 _ rfl R 12 rfl (clC x.a.rt x.a.ix x.a.ce x.a.h.1 x.a.pv x.a.lv x.a.ct).toList _ (a0C HA.out 12 _ (n0f HH.out)) Tryz.underlying31 rfl (by rw [Array.length_toList];exact Tryz.sizeCl _ _ _ HH.out _ _ _) ?_)
    clear q1 q6;refine (h0g (HN0.out.later BW.out) _ _ _).mono ?_;rintro e d1 ⟨rfl,hb⟩;replace BW:=bT BW hb;replace HA:=bA hb HA;clear hb
    go_upto_region 8 with fail
    have e9:(x.a.e != x.a.e)=false:=by simp
    obtain ⟨d2,hwz,hbz⟩:=dr d1;replace BW:=bT BW hbz;replace HA:=bA hbz HA;clear hbz;refine rg1 35 35 hwz HA fun hS=>?_
    clear hwz;refine tA1 0 28 hS ?_;go_frame;refine tA1 1 29 hS ?_;go_frame;refine tA1 2 30 hS ?_;go_frame;refine tA1 3 31 hS ?_;go_frame;refine tA1 4 32 hS ?_;go_frame;refine tA1 5 33 hS ?_;go_frame;refine tA1 6 34 hS ?_;go_frame;refine tA1 7 35 hS ?_;go_frame;refine tA1 8 36 hS ?_;go_frame;refine tA1 9 37 hS ?_;go_frame;refine tk 10 (some 38) rfl rfl (.inl ⟨by rfl,fun w' hS'=>(by have hc:w'.cell? ⟨R,2,none⟩=some (.int .i64 x.a.e):=(Lib.cell_of_heap hS' 2).trans (by rw [List.getElem?_toArray,raE_k _ 2 (by decide)];rfl);go_simp;rfl)⟩) hS ?_;go_frame;refine tA1 11 39 hS ?_;go_frame;refine tk 12 (some 40) rfl rfl (.inl ⟨by rfl,fun w' hS'=>(by have hc:w'.cell? ⟨R,1,none⟩=some (.int .i64 x.a.who):=(Lib.cell_of_heap hS' 1).trans (by rw [List.getElem?_toArray,raE_k _ 1 (by decide)];rfl);go_simp;rfl)⟩) hS ?_;go_frame;refine t1 13 fun K hK=>?_
    simp only [gA,jB,gC];go_simp;refine (k0Z (HN0.out.later BW.out) _ _).mono ?_;rintro e d3 ⟨rfl,hb⟩;replace BW:=bT BW hb;replace HA:=bA hb HA;clear hb;replace hS:=HA.out;refine hK _ _ (fun _ _=>hS) ?_;clear hK;refine tA1 14 42 hS ?_;go_frame;refine tA1 15 43 hS ?_;go_frame;refine tA1 16 44 hS ?_;go_frame;refine tA1 17 45 hS ?_;go_frame;refine tA1 18 46 hS ?_;go_frame;refine tk 19 (some 47) rfl rfl (.inl ⟨by rfl,fun w' hS'=>(by have hc:w'.cell? ⟨R,2,none⟩=some (.int .i64 x.a.e):=(Lib.cell_of_heap hS' 2).trans (by rw [List.getElem?_toArray,raE_k _ 2 (by decide)];rfl);go_simp;rfl)⟩) hS ?_;go_frame;refine tA1 21 49 hS ?_;go_frame;refine tk 22 (some 50) rfl rfl (.inl ⟨by rfl,fun w' hS'=>(by have hc:w'.cell? ⟨R,2,none⟩=some (.int .i64 x.a.e):=(Lib.cell_of_heap hS' 2).trans (by rw [List.getElem?_toArray,raE_k _ 2 (by decide)];rfl);go_simp;rfl)⟩) hS ?_;go_frame;refine t1 20 fun K hK=>?_
    simp only [gA,jB,gC];go_simp;refine (k0i (f:=pf0) (Look.of_not (HN0.out.later BW.out)) h0I HGA.out.n3).mono ?_;rw [l0a];rintro e d4 ⟨rfl,hb⟩;replace BW:=bT BW hb;replace HA:=bA hb HA;clear hb;replace hS:=HA.out;refine hK _ _ (fun _ _=>hS) ?_;clear hK;refine tA1 23 51 hS ?_;go_frame;refine tA1 24 52 hS ?_;go_frame;refine tA1 25 53 hS ?_;go_frame;refine tA1 26 54 hS ?_;go_frame;refine tA1 27 55 hS ?_;go_frame;refine tk 28 (some 56) rfl rfl (.inl ⟨by rfl,fun w' hS'=>(by have hc:w'.cell? ⟨R,2,none⟩=some (.int .i64 x.a.e):=(Lib.cell_of_heap hS' 2).trans (by rw [List.getElem?_toArray,raE_k _ 2 (by decide)];rfl);go_simp;rfl)⟩) hS ?_;go_frame;refine tA1 29 57 hS ?_;go_frame;refine tk 30 (some 58) rfl rfl (.inl ⟨by rfl,fun w' hS'=>(by have hc:w'.cell? ⟨R,5,none⟩=some (.int .i64 x.a.tk):=(Lib.cell_of_heap hS' 5).trans (by rw [List.getElem?_toArray,raE_k _ 5 (by decide)];rfl);go_simp;rfl)⟩) hS ?_;go_frame;refine tA1 32 60 hS ?_;go_frame;refine t1 31 fun K hK=>?_
    simp only [gA,jB,gC];go_simp;refine (e0h (f:=pf0) (Look.of_not (HN0.out.later BW.out)) h0I HGA.out.n3 HGA.out.n6).mono ?_;rw [l0m];rintro e d5 ⟨ya,yb,yc,yd,hu,rfl,hb⟩;have e7:=Tryz.eqUn hu UIs.zero;rw [decide_eq_true rfl] at e7;clear hu;replace BW:=bT BW hb;replace HA:=bA hb HA;clear hb;replace hS:=HA.out;refine hK _ _ (fun _ _=>hS) ?_;clear hK;refine tA1 33 61 hS ?_;go_frame;refine tA1 34 62 hS ?_;go_frame;refine tD ?_;clear hS;clear e9;go_wp2_with fail;clear e7
    go_roundw
    case rel=>exact ⟨.inr (.inl rfl),BW⟩
    case measure=>simp [intOf]
   ·have HA:=hh (a0e BW.out HX3.out);have q1:wr.cell? ⟨R,1,none⟩=some (.int .i64 x.a.who):=(Lib.cell_of_heap HA.out 1).trans (by rw [List.getElem?_toArray,raE_k _ 1 (by decide)];rfl);have q6:wr.cell? ⟨R,6,none⟩=some (.int .i64 x.a.bk):=(Lib.cell_of_heap HA.out 6).trans (by rw [List.getElem?_toArray,raE_k _ 6 (by decide)];rfl)
    go_wp2_with (refine wpList_load_mid rfl 31 _ rfl R 12 rfl (clC x.a.rt x.a.ix x.a.ce x.a.h.1 x.a.pv x.a.lv x.a.ct).toList _ (a0C HA.out 12 _ (n0f HH.out)) Tryz.underlying31 rfl (by rw [Array.length_toList];exact Tryz.sizeCl _ _ _ HH.out _ _ _) ?_)
    clear q1 q6;refine (h0g (HN1.out.later BW.out) _ _ _).mono ?_;rintro e d1 ⟨rfl,hb⟩;replace BW:=bT BW hb;replace HA:=bA hb HA;clear hb
    go_upto_region 8 with fail
    have e9:(x.a.e != x.a.e)=false:=by simp
    obtain ⟨d2,hwz,hbz⟩:=dr d1;replace BW:=bT BW hbz;replace HA:=bA hbz HA;clear hbz;refine rg1 35 35 hwz HA fun hS=>?_
    clear hwz;refine tA1 0 28 hS ?_;go_frame;refine tA1 1 29 hS ?_;go_frame;refine tA1 2 30 hS ?_;go_frame;refine tA1 3 31 hS ?_;go_frame;refine tA1 4 32 hS ?_;go_frame;refine tA1 5 33 hS ?_;go_frame;refine tA1 6 34 hS ?_;go_frame;refine tA1 7 35 hS ?_;go_frame;refine tA1 8 36 hS ?_;go_frame;refine tA1 9 37 hS ?_;go_frame;refine tk 10 (some 38) rfl rfl (.inl ⟨by rfl,fun w' hS'=>(by have hc:w'.cell? ⟨R,2,none⟩=some (.int .i64 x.a.e):=(Lib.cell_of_heap hS' 2).trans (by rw [List.getElem?_toArray,raE_k _ 2 (by decide)];rfl);go_simp;rfl)⟩) hS ?_;go_frame;refine tA1 11 39 hS ?_;go_frame;refine tk 12 (some 40) rfl rfl (.inl ⟨by rfl,fun w' hS'=>(by have hc:w'.cell? ⟨R,1,none⟩=some (.int .i64 x.a.who):=(Lib.cell_of_heap hS' 1).trans (by rw [List.getElem?_toArray,raE_k _ 1 (by decide)];rfl);go_simp;rfl)⟩) hS ?_;go_frame;refine t1 13 fun K hK=>?_
    simp only [gA,jB,gC];go_simp;refine (k0Z (HN1.out.later BW.out) _ _).mono ?_;rintro e d3 ⟨rfl,hb⟩;replace BW:=bT BW hb;replace HA:=bA hb HA;clear hb;replace hS:=HA.out;refine hK _ _ (fun _ _=>hS) ?_;clear hK;refine tA1 14 42 hS ?_;go_frame;refine tA1 15 43 hS ?_;go_frame;refine tA1 16 44 hS ?_;go_frame;refine tA1 17 45 hS ?_;go_frame;refine tA1 18 46 hS ?_;go_frame;refine tk 19 (some 47) rfl rfl (.inl ⟨by rfl,fun w' hS'=>(by have hc:w'.cell? ⟨R,2,none⟩=some (.int .i64 x.a.e):=(Lib.cell_of_heap hS' 2).trans (by rw [List.getElem?_toArray,raE_k _ 2 (by decide)];rfl);go_simp;rfl)⟩) hS ?_;go_frame;refine tA1 21 49 hS ?_;go_frame;refine tk 22 (some 50) rfl rfl (.inl ⟨by rfl,fun w' hS'=>(by have hc:w'.cell? ⟨R,2,none⟩=some (.int .i64 x.a.e):=(Lib.cell_of_heap hS' 2).trans (by rw [List.getElem?_toArray,raE_k _ 2 (by decide)];rfl);go_simp;rfl)⟩) hS ?_;go_frame;refine t1 20 fun K hK=>?_
    simp only [gA,jB,gC];go_simp;refine (k0i (f:=pf0) (Look.of_not (HN1.out.later BW.out)) h0I HGA.out.n3).mono ?_;rw [l0a];rintro e d4 ⟨rfl,hb⟩;replace BW:=bT BW hb;replace HA:=bA hb HA;clear hb;replace hS:=HA.out;refine hK _ _ (fun _ _=>hS) ?_;clear hK;refine tA1 23 51 hS ?_;go_frame;refine tA1 24 52 hS ?_;go_frame;refine tA1 25 53 hS ?_;go_frame;refine tA1 26 54 hS ?_;go_frame;refine tA1 27 55 hS ?_;go_frame;refine tk 28 (some 56) rfl rfl (.inl ⟨by rfl,fun w' hS'=>(by have hc:w'.cell? ⟨R,2,none⟩=some (.int .i64 x.a.e):=(Lib.cell_of_heap hS' 2).trans (by rw [List.getElem?_toArray,raE_k _ 2 (by decide)];rfl);go_simp;rfl)⟩) hS ?_;go_frame;refine tA1 29 57 hS ?_;go_frame;refine tk 30 (some 58) rfl rfl (.inl ⟨by rfl,fun w' hS'=>(by have hc:w'.cell? ⟨R,5,none⟩=some (.int .i64 x.a.tk):=(Lib.cell_of_heap hS' 5).trans (by rw [List.getElem?_toArray,raE_k _ 5 (by decide)];rfl);go_simp;rfl)⟩) hS ?_;go_frame;refine tA1 32 60 hS ?_;go_frame;refine t1 31 fun K hK=>?_
    simp only [gA,jB,gC];go_simp;refine (e0h (f:=pf0) (Look.of_not (HN1.out.later BW.out)) h0I HGA.out.n3 HGA.out.n6).mono ?_;rw [l0m];rintro e d5 ⟨ya,yb,yc,yd,hu,rfl,hb⟩;have e7:=Tryz.eqUn hu UIs.zero;rw [decide_eq_true rfl] at e7;clear hu;replace BW:=bT BW hb;replace HA:=bA hb HA;clear hb;replace hS:=HA.out;refine hK _ _ (fun _ _=>hS) ?_;clear hK;refine tA1 33 61 hS ?_;go_frame;refine tA1 34 62 hS ?_;go_frame;refine tD ?_;clear hS;clear e9;go_wp2_with fail;clear e7
    go_roundw
    case rel=>exact ⟨.inr (.inr rfl),BW⟩
    case measure=>simp [intOf]
   ·clear hi0 hi1;go_wp2_with fail;refine (g0p _).mono ?_;rintro e w9 ⟨rfl,hb⟩;have HBF:=hh (HB3.out.trans ((BW.out.trans (hb.mono BW.out.size)).mono HB3.out.size));clear hb;go_wp2_with fail
    go_ret
    exact ⟨rfl,HBF.out⟩
end
end Go.Proofs.YtakkfabaeolbdaaGreat
