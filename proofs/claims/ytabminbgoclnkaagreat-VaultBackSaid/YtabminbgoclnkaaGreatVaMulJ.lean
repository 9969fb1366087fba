/- Plain: products of numbers as words of 2^64. No condition. Products of words (code). No condition. Products of two numbers in two numbers (code). No condition. Division by a number of 32 bits (code). No condition. Numbers compared; divided by a number of 32 bits (code). No condition. Div by a number of 32 bits, Quo (code). No condition. -/
import Derived.Test.YtabminbgoclnkaaGreatVa12
import Derived.Test.YtabminbgoclnkaaGreatVaAriB
import Derived.Test.YtabminbgoclnkaaGreatVa11
import Derived.Deep.Cut
namespace Go.Proofs.YtabminbgoclnkaaGreat
set_option maxHeartbeats 16000000
set_option maxRecDepth 100000
section

def wv:List Nat→Nat
 | []=>0
 | d :: l=>d+18446744073709551616*wv l
def D64 (l:List Nat):Prop:=∀ d∈l,d < 18446744073709551616
theorem D64.cons {d:Nat} {l:List Nat}:D64 (d :: l)↔d < 18446744073709551616∧D64 l:=by
 constructor
 ·intro h;exact ⟨h d (by simp),fun x hx=>h x (by simp [hx])⟩
 ·rintro ⟨h1,h2⟩ x hx
  rcases List.mem_cons.1 hx with rfl | hx
  ·exact h1
  ·exact h2 x hx
theorem D64.take {l:List Nat} (h:D64 l) (k:Nat):D64 (l.take k):=fun d hd=>h d (List.take_subset k l hd)
theorem k0T (l m:List Nat):wv (l ++ m)=wv l+18446744073709551616 ^ l.length*wv m:=by
 induction l with
 | nil=>simp [wv]
 | cons d l ih=>
  show d+18446744073709551616*wv (l ++ m)=d+18446744073709551616*wv l+_
  rw [ih,List.length_cons,Nat.pow_succ,Nat.mul_add,← Nat.mul_assoc,Nat.mul_comm 18446744073709551616 (18446744073709551616 ^ l.length),Nat.add_assoc]
theorem wv_lt {l:List Nat} (h:D64 l):wv l < 18446744073709551616 ^ l.length:=by
 induction l with
 | nil=>simp [wv]
 | cons d l ih=>
  obtain ⟨h1,h2⟩:=D64.cons.1 h;have:=ih h2
  show d+18446744073709551616*wv l < _
  rw [List.length_cons,Nat.pow_succ,Nat.mul_comm (18446744073709551616 ^ l.length)]
  omega
theorem c0y {l:List Nat} {i:Nat} (hi:i < l.length):wv (l.take (i+1))=wv (l.take i)+18446744073709551616 ^ i*l[i]:=by
 rw [List.take_succ_eq_append_getElem hi,k0T,List.length_take,Nat.min_eq_left (by omega)];have:wv [l[i]]=l[i]:=by show l[i]+18446744073709551616*0=_;omega
 rw [this]
theorem f0L {l:List Nat} (h:D64 l) (k:Nat):l.getD k 0 < 18446744073709551616:=by
 by_cases hk:k < l.length
 ·rw [List.getD_eq_getElem?_getD,List.getElem?_eq_getElem hk];exact h _ (List.getElem_mem hk)
 ·rw [List.getD_eq_getElem?_getD,List.getElem?_eq_none (by omega)];decide
theorem f0c {l:List Nat} {k:Nat} (h:l.length≤k):l.getD k 0=0:=by
 rw [List.getD_eq_getElem?_getD,List.getElem?_eq_none h];rfl
theorem d0R {l:List Nat} {k:Nat} (h:k < l.length):l.getD k 0=l[k]:=by
 rw [List.getD_eq_getElem?_getD,List.getElem?_eq_getElem h];rfl
def wig (l:List Nat) (i:Nat):Nat:=l.getD i 0
theorem h0D (l:List Nat) (i:Nat):wv (l.take (i+1))=wv (l.take i)+18446744073709551616 ^ i*wig l i:=by
 by_cases h:i < l.length
 ·rw [c0y h];unfold wig;rw [d0R h]
 ·unfold wig
  rw [f0c (by omega),List.take_of_length_le (by omega),List.take_of_length_le (by omega)];simp
theorem k0C {l:List Nat} {k d:Nat} (h:k < l.length):wv (l.set k d)+18446744073709551616 ^ k*l[k]=wv l+18446744073709551616 ^ k*d:=by
 have e1:l=l.take k ++ l[k] :: l.drop (k+1):=by rw [← List.drop_eq_getElem_cons h,List.take_append_drop]
 have e2:l.set k d=l.take k ++ d :: l.drop (k+1):=List.set_eq_take_append_cons_drop▸(by rw [if_pos h]);have f1:=congrArg wv e1;have f2:=congrArg wv e2;rw [k0T,List.length_take,Nat.min_eq_left (by omega)] at f1 f2;have g1:wv (l[k] :: l.drop (k+1))=l[k]+18446744073709551616*wv (l.drop (k+1)):=rfl;have g2:wv (d :: l.drop (k+1))=d+18446744073709551616*wv (l.drop (k+1)):=rfl;rw [g1,Nat.mul_add] at f1;rw [g2,Nat.mul_add] at f2
 omega
theorem D64.set {l:List Nat} (h:D64 l) (k:Nat) {d:Nat} (hd:d < 18446744073709551616):D64 (l.set k d):=fun x hx=>by
 rcases List.mem_or_eq_of_mem_set hx with h1 | h1
 ·exact h x h1
 ·rw [h1];exact hd
theorem D64.at {l:List Nat} (h:D64 l) {k:Nat} (hk:k < l.length):l[k] < 18446744073709551616:=h _ (List.getElem_mem hk)
theorem D64.zeros (n:Nat):D64 (List.replicate n 0):=fun d hd=>by rw [(List.mem_replicate.1 hd).2];omega
theorem m0q (n:Nat):wv (List.replicate n 0)=0:=by
 induction n with
 | zero=>rfl
 | succ n ih=>rw [List.replicate_succ];show 0+18446744073709551616*wv _=0;rw [ih]
theorem wv_at {l:List Nat} (h:D64 l) {k:Nat} (hk:k < l.length):l[k]=wv l / 18446744073709551616 ^ k % 18446744073709551616:=by
 have e1:l=l.take k ++ l[k] :: l.drop (k+1):=by rw [← List.drop_eq_getElem_cons hk,List.take_append_drop]
 have f1:=congrArg wv e1;rw [k0T,List.length_take,Nat.min_eq_left (by omega)] at f1;have g1:wv (l[k] :: l.drop (k+1))=l[k]+18446744073709551616*wv (l.drop (k+1)):=rfl;have h1:=wv_lt (h.take k);rw [List.length_take,Nat.min_eq_left (by omega)] at h1;have h2:=h.at hk;rw [f1,Nat.add_mul_div_left _ _ (Nat.pow_pos (by omega)),Nat.div_eq_of_lt h1,Nat.zero_add,g1]
 omega
structure WordsI (o0 b:List Nat) (x i j:Nat) (o:List Nat) (c:Nat):Prop where
 len:o.length=o0.length
 d64:D64 o
 c64:c < 18446744073709551616
 eq:wv o+18446744073709551616 ^ (i+j)*c=wv o0+18446744073709551616 ^ i*(x*wv (b.take j))
theorem WordsI.zero {o0 b:List Nat} (x i:Nat) (h:D64 o0):WordsI o0 b x i 0 o0 0:=⟨rfl,h,by omega,by simp [wv]⟩
theorem WordsI.next {o0 b:List Nat} {x i j:Nat} {o:List Nat} {c:Nat} (h:WordsI o0 b x i j o c) (hj:i+j < o.length) {y:Nat} (hy:y=o[i+j]+c+x*wig b j) (hx:x < 18446744073709551616) (hb:D64 b) :
  y < 340282366920938463463374607431768211456∧WordsI o0 b x i (j+1) (o.set (i+j) (y % 18446744073709551616)) (y / 18446744073709551616):=by
 have h1:=h.d64.at hj;have h2:=h.c64;have h3:wig b j < 18446744073709551616:=f0L hb j;have h4:x*wig b j≤18446744073709551615*18446744073709551615:=Nat.mul_le_mul (by omega) (by omega);have hlt:y < 340282366920938463463374607431768211456:=by omega
 refine ⟨hlt,by rw [List.length_set,h.len],h.d64.set _ (Nat.mod_lt _ (by omega)),by omega,?_⟩;have e:=h.eq;have s:=k0C (l:=o) (k:=i+j) (d:=y % 18446744073709551616) hj;have e2:18446744073709551616 ^ (i+(j+1))=18446744073709551616 ^ (i+j)*18446744073709551616:=by rw [← Nat.add_assoc,Nat.pow_succ]
 have e3:18446744073709551616 ^ (i+j)*18446744073709551616*(y / 18446744073709551616)+18446744073709551616 ^ (i+j)*(y % 18446744073709551616)=18446744073709551616 ^ (i+j)*y:=by
  rw [Nat.mul_assoc,← Nat.mul_add];congr 1;omega
 have e4:18446744073709551616 ^ (i+j)*y=18446744073709551616 ^ (i+j)*o[i+j]+18446744073709551616 ^ (i+j)*c+18446744073709551616 ^ (i+j)*(x*wig b j):=by
  rw [hy,Nat.mul_add,Nat.mul_add]
 have e5:18446744073709551616 ^ i*(x*wv (b.take (j+1)))=18446744073709551616 ^ i*(x*wv (b.take j))+18446744073709551616 ^ (i+j)*(x*wig b j):=by
  rw [h0D,Nat.mul_add,Nat.mul_add,Nat.pow_add,Nat.mul_assoc (18446744073709551616 ^ i) (18446744073709551616 ^ j),Nat.mul_left_comm x (18446744073709551616 ^ j)]
 rw [e2,e5]
 omega
structure WordsO (a b:List Nat) (i:Nat) (o:List Nat):Prop where
 len:o.length=a.length+b.length
 d64:D64 o
 eq:wv o=wv (a.take i)*wv b
theorem WordsO.zero (a b:List Nat) {n:Nat} (hn:n=a.length+b.length):WordsO a b 0 (List.replicate n 0):=⟨by rw [List.length_replicate,hn],D64.zeros _,by rw [m0q];simp [wv]⟩
theorem WordsI.done {a b:List Nat} {i j:Nat} {o0 o:List Nat} {x:Nat} (h:WordsI o0 b x i j o 0) (ho:WordsO a b i o0) (hi:i < a.length) (hx:x=a[i]) (hj:b.length≤j):WordsO a b (i+1) o:=by
 refine ⟨by rw [h.len,ho.len],h.d64,?_⟩;have e:=h.eq;rw [List.take_of_length_le hj,ho.eq,Nat.mul_zero,Nat.add_zero] at e;rw [e,c0y hi,Nat.add_mul,hx,Nat.mul_assoc]
theorem WordsO.done {a b:List Nat} {i:Nat} {o:List Nat} (h:WordsO a b i o) (hi:a.length≤i):wv o=wv a*wv b:=by
 rw [h.eq,List.take_of_length_le hi]
theorem WordsO.nought {a b:List Nat} {i:Nat} {o:List Nat} (h:WordsO a b i o) (ha:D64 a) (hb:D64 b) (hi:i≤a.length) {k:Nat} (hk:k < o.length) (hik:i+b.length≤k):o[k]=0:=by
 rw [wv_at h.d64 hk,h.eq];have k1:=wv_lt (ha.take i);rw [List.length_take,Nat.min_eq_left hi] at k1;have k2:=wv_lt hb;have k3:wv (a.take i)*wv b < 18446744073709551616 ^ i*18446744073709551616 ^ b.length:=by
  by_cases h0:wv b=0
  ·rw [h0,Nat.mul_zero];exact Nat.mul_pos (Nat.pow_pos (by omega)) (Nat.pow_pos (by omega))
  ·exact Nat.mul_lt_mul_of_lt_of_le k1 (Nat.le_of_lt k2) (Nat.pow_pos (by omega))
 rw [← Nat.pow_add] at k3;have k4:18446744073709551616 ^ (i+b.length)≤18446744073709551616 ^ k:=Nat.pow_le_pow_right (by omega) hik;rw [Nat.div_eq_of_lt (Nat.lt_of_lt_of_le k3 k4),Nat.zero_mod]
end
section
open Go.RowKit

theorem c0v (a:Nat) (ha:a < 18446744073709551616):bits BinOp.and IntKind.u64 (a:Int) 4294967295=((a % 4294967296:Nat):Int):=by
 have h:=u64_and_nat a 4294967295 ha (by decide);rw [show ((4294967295:Nat):Int)=4294967295 from rfl] at h;rw [h,show (4294967295:Nat)=2 ^ 32 - 1 from rfl,Nat.and_two_pow_sub_one_eq_mod]
theorem b0q (t p:Nat) (ht:t < 4294967296) (hp:p < 4294967296):bits BinOp.or IntKind.u64 ((t*4294967296:Nat):Int) (p:Int)=((t*4294967296+p:Nat):Int):=by
 have h:=u64_or_nat (t*4294967296) p (by omega) (by omega);rw [h]
 congr 1
 rw [show (4294967296:Nat)=2 ^ 32 from rfl,Nat.mul_comm t,← Nat.two_pow_add_eq_or_of_lt (show p < 2 ^ 32 from hp)]
theorem a0N (t:Nat):IntKind.u64.wrap ((t:Int)*4294967296)=((t % 4294967296*4294967296:Nat):Int):=by
 rw [IntKind.wrap_u64];omega
theorem d0S {a b:Nat} (ha:a < 4294967296) (hb:b < 4294967296):a*b≤18446744065119617025:=by
 have h:=Nat.mul_le_mul (show a≤4294967295 by omega) (show b≤4294967295 by omega)
 omega
theorem k0w (ah al bh bl:Nat):(ah*4294967296+al)*(bh*4294967296+bl)=ah*bh*18446744073709551616+(ah*bl+al*bh)*4294967296+al*bl:=by
 have e1:ah*4294967296*(bh*4294967296)=ah*bh*18446744073709551616:=by rw [Nat.mul_mul_mul_comm]
 have e2:ah*4294967296*bl=ah*bl*4294967296:=Nat.mul_right_comm _ _ _;have e3:al*(bh*4294967296)=al*bh*4294967296:=(Nat.mul_assoc _ _ _).symm;rw [Nat.add_mul,Nat.mul_add,Nat.mul_add,e1,e2,e3]
 omega
theorem h0k {A B H L:Nat} (hA:A < 18446744073709551616) (hB:B < 18446744073709551616) (hL:L < 18446744073709551616) (he:A*B=H*18446744073709551616+L) (w:World) :
  Calls Tryz.prog 180 #[.int .u64 A,.int .u64 B] w fun e w'=>e = .returned (.tuple #[.int .u64 H,.int .u64 L])∧w=w':=by
 obtain ⟨ah,hah⟩:=nm (A / 4294967296);obtain ⟨al,hal⟩:=nm (A % 4294967296);obtain ⟨bh,hbh⟩:=nm (B / 4294967296);obtain ⟨bl,hbl⟩:=nm (B % 4294967296);have a1:ah < 4294967296:=by omega
 have a2:al < 4294967296:=by omega
 have b1:bh < 4294967296:=by omega
 have b2:bl < 4294967296:=by omega
 have x1:(A:Int) / 4294967296=(ah:Int):=by omega
 have x2:bits BinOp.and IntKind.u64 (A:Int) 4294967295=(al:Int):=by rw [c0v A hA,hal]
 have y1:(B:Int) / 4294967296=(bh:Int):=by omega
 have y2:bits BinOp.and IntKind.u64 (B:Int) 4294967295=(bl:Int):=by rw [c0v B hB,hbl]
 have hm:=k0w ah al bh bl;rw [show ah*4294967296+al=A by omega,show bh*4294967296+bl=B by omega] at hm;obtain ⟨p,hp⟩:=nm (al*bl);obtain ⟨q1,hq1⟩:=nm (ah*bl);obtain ⟨r1,hr1⟩:=nm (al*bh);obtain ⟨s,hs⟩:=nm (ah*bh);have l1:=d0S a2 b2;have l2:=d0S a1 b2;have l3:=d0S a2 b1;have l4:=d0S a1 b1;rw [← hp] at l1 hm;rw [← hq1] at l2 hm;rw [← hr1] at l3 hm;rw [← hs] at l4 hm;have m1:IntKind.u64.wrap ((al:Int)*(bl:Int))=(p:Int):=by rw [← Int.natCast_mul,← hp,IntKind.wrap_u64];omega
 have m2:IntKind.u64.wrap ((ah:Int)*(bl:Int))=(q1:Int):=by rw [← Int.natCast_mul,← hq1,IntKind.wrap_u64];omega
 have m3:IntKind.u64.wrap ((al:Int)*(bh:Int))=(r1:Int):=by rw [← Int.natCast_mul,← hr1,IntKind.wrap_u64];omega
 have m4:IntKind.u64.wrap ((ah:Int)*(bh:Int))=(s:Int):=by rw [← Int.natCast_mul,← hs,IntKind.wrap_u64];omega
 obtain ⟨ph,hph⟩:=nm (p / 4294967296);obtain ⟨pl,hpl⟩:=nm (p % 4294967296);have p1:(p:Int) / 4294967296=(ph:Int):=by omega
 have p2:bits BinOp.and IntKind.u64 (p:Int) 4294967295=(pl:Int):=by rw [c0v p (by omega),hpl]
 obtain ⟨one,ho⟩:=nm (q1+ph);have n1:IntKind.u64.wrap ((q1:Int)+(ph:Int))=(one:Int):=by rw [IntKind.wrap_u64];omega
 obtain ⟨oh,hoh⟩:=nm (one / 4294967296);obtain ⟨ol,hol⟩:=nm (one % 4294967296);have n2:bits BinOp.and IntKind.u64 (one:Int) 4294967295=(ol:Int):=by rw [c0v one (by omega),hol]
 have n3:(one:Int) / 4294967296=(oh:Int):=by omega
 obtain ⟨two,ht⟩:=nm (r1+ol);have n4:IntKind.u64.wrap ((r1:Int)+(ol:Int))=(two:Int):=by rw [IntKind.wrap_u64];omega
 obtain ⟨th,hth⟩:=nm (two / 4294967296);obtain ⟨tl,htl⟩:=nm (two % 4294967296);have n5:(two:Int) / 4294967296=(th:Int):=by omega
 have n6:IntKind.u64.wrap ((two:Int)*4294967296)=((tl*4294967296:Nat):Int):=by rw [a0N,htl]
 obtain ⟨sh,hsh⟩:=nm (s+oh);have n7:IntKind.u64.wrap ((s:Int)+(oh:Int))=(sh:Int):=by rw [IntKind.wrap_u64];omega
 have n8:IntKind.u64.wrap ((sh:Int)+(th:Int))=(H:Int):=by rw [IntKind.wrap_u64];omega
 have n9:bits BinOp.or IntKind.u64 ((tl*4294967296:Nat):Int) (pl:Int)=(L:Int):=by rw [b0q tl pl (by omega) (by omega)];omega
 obtain ⟨tt,htt⟩:∃ q:Int,q=((tl*4294967296:Nat):Int):=⟨_,rfl⟩;rw [← htt] at n6 n9;clear hm he htt hp hq1 hr1 hs hah hal hbh hbl hph hpl ho hoh hol ht hth htl hsh l1 l2 l3 l4 a1 a2 b1 b2 hL
 go_enter Tryz.func180,Tryz.ntmps180
 go_wp2_with fail
 go_ret2
 exact ⟨rfl,rfl⟩
end
section
open Go.RowKit

def rowW (o:List Nat):Array Value:=(o.map fun (d:Nat)=>Value.int .u64 (d:Int)).toArray
theorem e0t (o:List Nat):(rowW o).size=o.length:=by unfold rowW;simp
theorem k0G {o:List Nat} {k:Nat} (hk:k < o.length):(rowW o)[k]? = some (.int .u64 (o[k]:Int)):=by unfold rowW;simp [hk]
theorem g0b (o:List Nat) (k d:Nat):(rowW o).setIfInBounds k (.int .u64 (d:Int))=rowW (o.set k d):=by
 unfold rowW
 rw [List.setIfInBounds_toArray,List.map_set]
theorem m0O {l:List Nat} {k d i:Nat} (h:k≠i):wig (l.set k d) i=wig l i:=by
 unfold wig
 rw [List.getD_eq_getElem?_getD,List.getD_eq_getElem?_getD,List.getElem?_set_ne h]
theorem Tryz.zeroW8 (w:World):(zeroValue 198).run Tryz.prog w = .ok (.agg #[.int .u64 0,.int .u64 0,.int .u64 0,.int .u64 0,.int .u64 0,.int .u64 0,.int .u64 0,.int .u64 0]) w:=by kernel_rfl
theorem Tryz.zeroWide (w:World):(zeroValue 179).run Tryz.prog w = .ok (.agg #[.int .u64 0,.int .u64 0,.int .u64 0,.int .u64 0,.int .u64 0,.int .u64 0,.int .u64 0,.int .u64 0]) w:=by kernel_rfl
theorem Tryz.sizeWide:(Tryz.prog.info? 179).map (·.size)=some 8:=by kernel_rfl
theorem Tryz.sizeW1:(Tryz.prog.info? 23).map (·.size)=some 1:=by kernel_rfl
theorem Tryz.arrU (q off cap:Nat) (w:World):(Instr.arrayAt 25 (.slice (some ⟨q,off,none⟩) 4 cap)).run Tryz.prog w = .ok (.pointer (some ⟨q,off,none⟩)) w:=by kernel_rfl
theorem n0u (a b c d e f g h:Int):(#[Value.int .u64 a,.int .u64 b,.int .u64 c,.int .u64 d,.int .u64 e,.int .u64 f,.int .u64 g,.int .u64 h].all (·.oneCell'))=true:=by simp [Value.oneCell']
theorem k0r:rowW (List.replicate 8 0)=#[.int .u64 0,.int .u64 0,.int .u64 0,.int .u64 0,.int .u64 0,.int .u64 0,.int .u64 0,.int .u64 0]:=by kernel_rfl
theorem WordsI.lay {a b:List Nat} {i:Nat} {o0 o:List Nat} {x c:Nat} (h:WordsI o0 b x i 4 o c) (ho:WordsO a b i o0) (hi:i < a.length) (hx:x=a[i]) (hb:b.length=4) (hk:i+4 < o.length) (hz:wig o (i+4)=0):WordsO a b (i+1) (o.set (i+4) c):=by
 have e:=h.eq;rw [List.take_of_length_le (Nat.le_of_eq hb),ho.eq] at e;have s:=k0C (l:=o) (k:=i+4) (d:=c) hk;have hz2:o[i+4]=0:=by rw [← hz];unfold wig;rw [d0R hk]
 rw [hz2,Nat.mul_zero,Nat.add_zero] at s;refine ⟨by rw [List.length_set,h.len,ho.len],h.d64.set _ h.c64,?_⟩;rw [s,e,c0y hi,Nat.add_mul,hx,Nat.mul_assoc]
theorem UIs.of_words {a b c d:Nat} (ha:a < 18446744073709551616) (hb:b < 18446744073709551616) (hc:c < 18446744073709551616) (hd:d < 18446744073709551616):UIs (a:Int) b c d (wv [a,b,c,d]):=by
 unfold UIs wv wv wv wv wv
 omega
def MulRet (w:World) (N:Nat) (e:Ending) (w':World):Prop:=∃ h0 h1 h2 h3 l0 l1 l2 l3:Int,UIs h0 h1 h2 h3 (N / uMax)∧UIs l0 l1 l2 l3 (N % uMax)∧e = .returned (.agg #[.int .u64 h0,.int .u64 h1,.int .u64 h2,.int .u64 h3,.int .u64 l0,.int .u64 l1,.int .u64 l2,.int .u64 l3])∧Below w.heap.size w w'

theorem e0p {a b c d a' b' c' d':Int} {n m:Nat} (h:UIs a b c d n) (h':UIs a' b' c' d' m) (w:World) :
  Calls Tryz.prog 161 #[.agg #[.int .u64 a,.int .u64 b,.int .u64 c,.int .u64 d],.agg #[.int .u64 a',.int .u64 b',.int .u64 c',.int .u64 d']] w (MulRet w (n*m)):=by
 obtain ⟨A0,A1,A2,A3,rfl,rfl,rfl,rfl,ha0,ha1,ha2,ha3,hn⟩:=h.nats;obtain ⟨B0,B1,B2,B3,rfl,rfl,rfl,rfl,hb0,hb1,hb2,hb3,hm⟩:=h'.nats;obtain ⟨la,hla⟩:=nm ([A0,A1,A2,A3]);obtain ⟨lb,hlb⟩:=nm ([B0,B1,B2,B3]);have HVA:Hid (wv la=n∧D64 la∧la.length=4):=hh (by
  rw [hla];refine ⟨by unfold wv wv wv wv wv;omega,fun x hx=>?_,rfl⟩;simp only [List.mem_cons,List.not_mem_nil,or_false] at hx
  rcases hx with rfl | rfl | rfl | rfl<;>assumption)
 have HVB:Hid (wv lb=m∧D64 lb∧lb.length=4):=hh (by
  rw [hlb];refine ⟨by unfold wv wv wv wv wv;omega,fun x hx=>?_,rfl⟩;simp only [List.mem_cons,List.not_mem_nil,or_false] at hx
  rcases hx with rfl | rfl | rfl | rfl<;>assumption)
 have HIA:Hid (∀ i,i < 4→(#[Value.int .u64 (A0:Int),.int .u64 (A1:Int),.int .u64 (A2:Int),.int .u64 (A3:Int)])[i]? = some (.int .u64 (wig la i:Nat))):=hh (by
  intro i hi;rw [hla]
  rcases (show i=0∨i=1∨i=2∨i=3 by omega) with rfl | rfl | rfl | rfl<;>rfl)
 have HIB:Hid (∀ i,i < 4→(#[Value.int .u64 (B0:Int),.int .u64 (B1:Int),.int .u64 (B2:Int),.int .u64 (B3:Int)])[i]? = some (.int .u64 (wig lb i:Nat))):=hh (by
  intro i hi;rw [hlb]
  rcases (show i=0∨i=1∨i=2∨i=3 by omega) with rfl | rfl | rfl | rfl<;>rfl)
 clear h h' ha0 ha1 ha2 ha3 hb0 hb1 hb2 hb3 hn hm hla hlb;have HB0:Hid (Below w.heap.size w w):=hh (Below.refl _ _)
 go_enter Tryz.func161,Tryz.ntmps161
 go_wp2_with (refine sA _ Tryz.zeroWide ?_)
 obtain ⟨w1,hw1⟩:=nm ((w.alloc (.cells #[.int .u64 (A0:Int),.int .u64 (A1:Int),.int .u64 (A2:Int),.int .u64 (A3:Int)] 25)).alloc (.cells #[.int .u64 (B0:Int),.int .u64 (B1:Int),.int .u64 (B2:Int),.int .u64 (B3:Int)] 25));obtain ⟨AA,hAA⟩:=nm (w.heap.size);obtain ⟨BB,hBB⟩:=nm (w.heap.size+1);rw [← hw1,← hBB,← hAA];have hbx:=box2 w _ _ _ _ w1 hw1;rw [← hBB,← hAA] at hbx;have HAA:=hh hbx.1;have HBB:=hh hbx.2.1;have HB:Hid (Below w.heap.size w w1):=hh (by rw [← hAA];exact hbx.2.2.1);clear hbx hw1 hAA hBB HB0;intro R w2 hR';have WR:=mGe hR' HB.out.size;have HR:=hh hR'.out.cells;have hb:=hR'.out.below;have NRB:=mNe hR' HBB;clear hR';replace HB:=bT HB hb;replace HAA:=bA hb HAA;replace HBB:=bA hb HBB;clear hb
 go_wp2_with (refine sA _ Tryz.zeroW8 ?_)
 intro O a1 hO;have WO:=mGe hO HB.out.size;have NAAO:=mNe hO HAA;have NBBO:=mNe hO HBB;have NRO:=mNe hO HR;have HO:=hh hO.out.cells;have hbO:=hO.out.below;clear hO;replace HB:=bT HB hbO;replace HAA:=bA hbO HAA;replace HBB:=bA hbO HBB;replace HR:=bA hbO HR;clear hbO
 go_wp2_with (refine lR HAA Tryz.underlying25 Tryz.sizeU ?_)
 clear HAA
 go_loopw [15] (fun vi wr=>∃ (i:Nat) (o:List Nat),vi = .int .i64 i∧i≤4∧Hid (WordsO la lb i o)∧Hid (wr.heap[O]? = some (.cells (rowW o) 198 (0,0)))∧Hid (wr.heap[BB]? = some (.cells #[.int .u64 (B0:Int),.int .u64 (B1:Int),.int .u64 (B2:Int),.int .u64 (B3:Int)] 25 (0,0)))∧Hid (wr.heap[R]? = some (.cells #[.int .u64 0,.int .u64 0,.int .u64 0,.int .u64 0,.int .u64 0,.int .u64 0,.int .u64 0,.int .u64 0] 179 (0,0)))∧Hid (Below w.heap.size w wr)) (fun vi _=>4 - (intOf vi).toNat)
 case atStart=>exact ⟨0,List.replicate 8 0,rfl,by omega,hh (WordsO.zero la lb (by rw [HVA.out.2.2,HVB.out.2.2])),hh (by rw [k0r];exact HO.out),HBB,HR,HB⟩
 case round=>
  clear HO HBB HR HB;obtain ⟨i,o0,rfl,hi4,HW,HO,HBB,HR,HB⟩:=hrel
  by_cases hlt:i < 4
  ·have HLT:=hh hlt;have hix:∀ w,(Instr.index 25 (.agg #[.int .u64 (A0:Int),.int .u64 (A1:Int),.int .u64 (A2:Int),.int .u64 (A3:Int)]) (.int .i64 (i:Int))).run Tryz.prog w = .ok (.int .u64 ((wig la i:Nat):Int)) w:=fun w=>f0a w Tryz.underlying25 Tryz.underlying23 Tryz.sizeW1 _ i hlt _ (HIA.out i hlt)
   have HX:Hid (wig la i < 18446744073709551616∧∃ h:i < la.length,wig la i=la[i]):=hh ⟨f0L HVA.out.2.1 i,by rw [HVA.out.2.2];exact hlt,by unfold wig;rw [d0R]⟩;obtain ⟨x,hx⟩:=nm (wig la i);rw [← hx] at hix HX;clear hx
   go_wp2_with (refine lR HBB Tryz.underlying25 Tryz.sizeU ?_)
   clear hix;have HOL:Hid (o0.length=8):=hh (by rw [HW.out.len,HVA.out.2.2,HVB.out.2.2]);have HN0:Hid (∀ k,i+4≤k→wig o0 k=0):=hh (by
    intro k hk
    unfold wig
    by_cases h8:k < o0.length
    ·rw [d0R h8];exact HW.out.nought HVA.out.2.1 HVB.out.2.1 (by rw [HVA.out.2.2];omega) h8 (by rw [HVB.out.2.2];omega)
    ·exact f0c (by omega))
   go_loopw [20,8] (fun vj vc wq=>∃ (j c:Nat) (o:List Nat),vj = .int .i64 j∧vc = .int .u64 c∧j≤4∧Hid (WordsI o0 lb x i j o c)∧Hid (∀ k,i+4≤k→wig o k=0)∧Hid (wq.heap[O]? = some (.cells (rowW o) 198 (0,0)))∧Hid (wq.heap[BB]? = some (.cells #[.int .u64 (B0:Int),.int .u64 (B1:Int),.int .u64 (B2:Int),.int .u64 (B3:Int)] 25 (0,0)))∧Hid (wq.heap[R]? = some (.cells #[.int .u64 0,.int .u64 0,.int .u64 0,.int .u64 0,.int .u64 0,.int .u64 0,.int .u64 0,.int .u64 0] 179 (0,0)))∧Hid (Below w.heap.size w wq)) (fun vj _ _=>4 - (intOf vj).toNat)
   case atStart=>exact ⟨0,0,o0,rfl,rfl,by omega,hh (WordsI.zero x i HW.out.d64),HN0,HO,HBB,HR,HB⟩
   case round=>
    clear HN0 HO HBB HR HB;obtain ⟨j,c,o,rfl,rfl,hj4,HI,HN0,HO,HBB,HR,HB⟩:=hrel;have HL8:Hid (o.length=8):=hh (by rw [HI.out.len];exact HOL.out)
    by_cases hjl:j < 4
    ·have HJL:=hh hjl;have hjx:∀ w,(Instr.index 25 (.agg #[.int .u64 (B0:Int),.int .u64 (B1:Int),.int .u64 (B2:Int),.int .u64 (B3:Int)]) (.int .i64 (j:Int))).run Tryz.prog w = .ok (.int .u64 ((wig lb j:Nat):Int)) w:=fun w=>f0a w Tryz.underlying25 Tryz.underlying23 Tryz.sizeW1 _ j hjl _ (HIB.out j hjl)
     have HYB:Hid (wig lb j < 18446744073709551616):=hh (f0L HVB.out.2.1 j);obtain ⟨y,hy⟩:=nm (wig lb j);rw [← hy] at hjx HYB;have HYY:=hh hy;clear hy;go_wp2_with fail;clear hjx;obtain ⟨p,hp⟩:=nm (x*y);obtain ⟨H,hH⟩:=nm (p / 18446744073709551616);obtain ⟨L,hL⟩:=nm (p % 18446744073709551616);have HPL:Hid (x*y=p∧p=H*18446744073709551616+L∧L < 18446744073709551616):=hh ⟨hp.symm,by omega,by omega⟩;refine (h0k (H:=H) (L:=L) HX.out.1 HYB.out HPL.out.2.2 (by rw [HPL.out.1];exact HPL.out.2.1) _).mono ?_;clear hp hH hL;rintro e _ ⟨rfl,rfl⟩;have hk8:i+j < 8:=by omega
     have hkl:i+j < o.length:=by rw [HL8.out];exact hk8
     obtain ⟨z,hz⟩:=nm (o[i+j]);have HZ:Hid (z < 18446744073709551616):=hh (by rw [hz];exact HI.out.d64.at hkl);have c0:wr.cell? ⟨O,i+j,none⟩=some (.int .u64 (z:Int)):=by rw [Lib.cell_of_heap HO.out (i+j),k0G hkl,hz]
     have HZZ:Hid (∃ h:i+j < o.length,o[i+j]=z):=hh ⟨hkl,hz.symm⟩;have HK:=hh hk8;clear hz hkl;go_wp2_with fail;clear c0;obtain ⟨s1,hs1⟩:=nm ((L+z) % 18446744073709551616);obtain ⟨k1,hk1⟩:=nm ((L+z) / 18446744073709551616);have HS1:Hid (s1+18446744073709551616*k1=L+z+0∧s1 < 18446744073709551616):=hh (by omega);clear hs1 hk1;refine (b0Y (c:=0) (s:=s1) (k:=k1) HPL.out.2.2 HZ.out (by omega) HS1.out.2 HS1.out.1 _).mono ?_;rintro e _ ⟨rfl,rfl⟩;obtain ⟨s2,hs2⟩:=nm ((s1+c) % 18446744073709551616);obtain ⟨k2,hk2⟩:=nm ((s1+c) / 18446744073709551616);have HC64:=hh HI.out.c64;have HS2:Hid (s2+18446744073709551616*k2=s1+c+0∧s2 < 18446744073709551616):=hh (by omega);clear hs2 hk2;have hnx:=HI.out.next HZZ.out.1 (y:=z+c+x*y) (by rw [HZZ.out.2,HYY.out]) HX.out.1 HVB.out.2.1;have HMOD:Hid ((z+c+x*y) % 18446744073709551616=s2∧(z+c+x*y) / 18446744073709551616=H+k1+k2∧H+k1+k2 < 18446744073709551616∧H+k1 < 18446744073709551616):=hh (by
      have h1:=HPL.out;have h2:=HS1.out;have h3:=HS2.out;have h4:=hnx.1;rw [h1.1] at h4 ⊢
      omega)
     rw [HMOD.out.1,HMOD.out.2.1] at hnx;obtain ⟨H1,hH1⟩:=nm (H+k1);obtain ⟨c2,hc2⟩:=nm (H+k1+k2);rw [← hc2] at hnx;have w1':IntKind.u64.wrap ((H:Int)+(k1:Int))=(H1:Int):=by have:=HMOD.out;rw [IntKind.wrap_u64];omega
     have w2':IntKind.u64.wrap ((H1:Int)+(k2:Int))=(c2:Int):=by have:=HMOD.out;rw [IntKind.wrap_u64];omega
     have HNX:=hh hnx.2;clear hnx hH1 hc2;go_wp2_with fail;refine (b0Y (c:=0) (s:=s2) (k:=k2) HS1.out.2 HC64.out (by omega) HS2.out.2 HS2.out.1 _).mono ?_;rintro e _ ⟨rfl,rfl⟩
     go_wp2_with (refine a0o rfl 23 _ _ rfl O (i+j) (.int .u64 (s2:Int)) rfl rfl rfl rfl 198 _ HO.out Tryz.sizeW1 (by rw [e0t,HL8.out];exact HK.out) (rowW (o.set (i+j) s2)) (g0b o (i+j) s2) ?_)
     intro wn hxO kO zO;clear zO w1';replace HB:=bS HB kO WO;replace HBB:=ka1 kO HBB NBBO;replace HR:=ka1 kO HR NRO;replace HO:=hh hxO;clear hxO kO;go_wp2_with fail;clear w2'
     go_roundw
     case rel=>exact ⟨j+1,c2,_,by go_num,rfl,HJL.out,HNX,hh (fun q hq=>by rw [m0O (by have:=HK.out;have:=HJL.out;omega)];exact HN0.out q hq),HO,HBB,HR,HB⟩
     case measure=>have:=HJL.out;simp only [intOf];omega
    ·obtain rfl:j=4:=by omega
     obtain ⟨k,hk⟩:=nm (i+4);have hk8:k < 8:=by omega
     have hij:(i:Int)+4=(k:Int):=by omega
     have HNX:Hid (WordsO la lb (i+1) (o.set k c)):=hh (by
      rw [hk]
      exact HI.out.lay HW.out HX.out.2.1 HX.out.2.2 HVB.out.2.2 (by rw [HL8.out];omega) (HN0.out _ (Nat.le_refl _)))
     have HK:Hid (k < 8):=hh hk8;clear hk
     go_wp2_with (refine a0o rfl 23 _ _ rfl O k (.int .u64 (c:Int)) rfl rfl rfl rfl 198 _ HO.out Tryz.sizeW1 (by rw [e0t,HL8.out];exact HK.out) (rowW (o.set k c)) (g0b o k c) ?_)
     intro wn hxO kO zO;clear zO hij;replace HB:=bS HB kO WO;replace HBB:=ka1 kO HBB NBBO;replace HR:=ka1 kO HR NRO;replace HO:=hh hxO;clear hxO kO;go_wp2_with fail
     go_roundw
     case rel=>exact ⟨i+1,_,by go_num,HLT.out,HNX,HO,HBB,HR,HB⟩
     case measure=>have:=HLT.out;simp only [intOf];omega
  ·obtain rfl:i=4:=by omega
   have hv:=HW.out.done (by rw [HVA.out.2.2];omega);rw [HVA.out.1,HVB.out.1] at hv;have hl:=HW.out.len;rw [HVA.out.2.2,HVB.out.2.2] at hl;have hd:=HW.out.d64
   match o0,hl with
   | [p0,p1,p2,p3,p4,p5,p6,p7],_=>
    have HD:Hid (p0 < 18446744073709551616∧p1 < 18446744073709551616∧p2 < 18446744073709551616∧p3 < 18446744073709551616∧p4 < 18446744073709551616∧p5 < 18446744073709551616∧p6 < 18446744073709551616∧p7 < 18446744073709551616):=hh (by
     refine ⟨hd _ (by simp),hd _ (by simp),hd _ (by simp),hd _ (by simp),hd _ (by simp),hd _ (by simp),hd _ (by simp),hd _ (by simp)⟩)
    have HV:Hid (wv [p0,p1,p2,p3]+uMax*wv [p4,p5,p6,p7]=n*m∧wv [p0,p1,p2,p3] < uMax):=hh (by
     have hdd:=HD.out;rw [← hv]
     unfold uMax
     unfold wv wv wv wv wv wv wv wv wv
     omega)
    have HOm:Hid (wr.heap[O]? = some (.cells #[.int .u64 (p0:Int),.int .u64 (p1:Int),.int .u64 (p2:Int),.int .u64 (p3:Int),.int .u64 (p4:Int),.int .u64 (p5:Int),.int .u64 (p6:Int),.int .u64 (p7:Int)] 198 (0,0))):=HO;clear HO hv hd HBB;have HO:=HOm;clear HOm hlt;have ha1:=Tryz.arrU O 4 4;have ha2:=Tryz.arrU O 0 8;have ha3:=Tryz.arrU O 0 4;go_wp2_with fail;obtain ⟨f1,hwz,hbz⟩:=dr wr;replace HB:=bT HB hbz;replace HR:=bA hbz HR;replace HO:=bA hbz HO;clear hbz;refine rg1 7 8 hwz HO fun hS=>?_
    clear hwz;refine tA1 0 62 hS ?_;go_frame;refine tA1 1 63 hS ?_;go_frame;refine tk 2 (some 64) rfl rfl (a0E (by rfl) 25 _ rfl (.pointer (some ⟨O,4,none⟩)) rfl (.agg #[.int .u64 (p4:Int),.int .u64 (p5:Int),.int .u64 (p6:Int),.int .u64 (p7:Int)]) (fun w' hS'=>run_loadAt_mid w' O 4 25 [.int .u64 (p4:Int),.int .u64 (p5:Int),.int .u64 (p6:Int),.int .u64 (p7:Int)] _ (a0m (hS') 4 _ rfl) Tryz.underlying25 rfl Tryz.sizeU)) hS ?_;go_frame;refine tA1 3 65 hS ?_;go_frame;refine tA1 4 66 hS ?_;go_frame;refine tk 5 (some 67) rfl rfl (a0E (by rfl) 25 _ rfl (.pointer (some ⟨O,0,none⟩)) rfl (.agg #[.int .u64 (p0:Int),.int .u64 (p1:Int),.int .u64 (p2:Int),.int .u64 (p3:Int)]) (fun w' hS'=>run_loadAt_mid w' O 0 25 [.int .u64 (p0:Int),.int .u64 (p1:Int),.int .u64 (p2:Int),.int .u64 (p3:Int)] _ (a0m (hS') 0 _ rfl) Tryz.underlying25 rfl Tryz.sizeU)) hS ?_;go_frame;refine tA1 6 68 hS ?_;go_frame;refine t1 7 fun K hK=>?_
    simp only [gA,jB,gC];refine wR1 179 #[.int .u64 (p4:Int),.int .u64 (p5:Int),.int .u64 (p6:Int),.int .u64 (p7:Int),.int .u64 (p0:Int),.int .u64 (p1:Int),.int .u64 (p2:Int),.int .u64 (p3:Int)] HR Tryz.sizeWide ?_;intro f2 hxR kR zR;clear zR;replace HB:=bS HB kR WR;replace HR:=hh hxR;clear hxR kR;refine hK _ _ (fun h=>absurd rfl h) ?_;clear hK;refine tD ?_;clear hS;go_wp2_with fail
    exact bodyPost_ret (results_cell_row rfl _ _ _ _ _ _ _ rfl HR.out Tryz.underlying179 rfl Tryz.sizeWide) rfl ⟨_,_,_,_,_,_,_,_,by
     have h1:=UIs.of_words HD.out.2.2.2.2.1 HD.out.2.2.2.2.2.1 HD.out.2.2.2.2.2.2.1 HD.out.2.2.2.2.2.2.2;rw [← HV.out.1,Nat.add_mul_div_left _ _ (by decide),Nat.div_eq_of_lt HV.out.2,Nat.zero_add];exact h1,by
     have h1:=UIs.of_words HD.out.1 HD.out.2.1 HD.out.2.2.1 HD.out.2.2.2.1;rw [← HV.out.1,Nat.add_mul_mod_self_left,Nat.mod_eq_of_lt HV.out.2];exact h1,rfl,HB.out⟩
end
section
open Go.RowKit

theorem c0J {d r x:Nat} (hr:r < d) (hd:d < 4294967296) (hx:x < 18446744073709551616) :
  r*4294967296+x / 4294967296 < 18446744073709551616∧(r*4294967296+x / 4294967296) % d*4294967296+x % 4294967296 < 18446744073709551616∧(r*4294967296+x / 4294967296) / d < 4294967296∧((r*4294967296+x / 4294967296) % d*4294967296+x % 4294967296) / d < 4294967296 ∧
  r*18446744073709551616+x=d*((r*4294967296+x / 4294967296) / d*4294967296+((r*4294967296+x / 4294967296) % d*4294967296+x % 4294967296) / d)+((r*4294967296+x / 4294967296) % d*4294967296+x % 4294967296) % d:=by
 have hd0:0 < d:=by omega
 have h1:=Nat.div_add_mod (r*4294967296+x / 4294967296) d;have h2:=Nat.mod_lt (r*4294967296+x / 4294967296) hd0;obtain ⟨hi,hhi⟩:=nm (r*4294967296+x / 4294967296);rw [← hhi] at h1 h2 ⊢;have k1:hi / d < 4294967296:=Nat.div_lt_of_lt_mul (by
  have:r*4294967296+4294967296≤d*4294967296:=by rw [← Nat.succ_mul];exact Nat.mul_le_mul_right _ hr
  omega)
 obtain ⟨qh,hqh⟩:=nm (hi / d);obtain ⟨rh,hrh⟩:=nm (hi % d);rw [← hqh,← hrh] at h1;rw [← hrh] at h2;rw [← hqh] at k1 ⊢;rw [← hrh];have h3:=Nat.div_add_mod (rh*4294967296+x % 4294967296) d;have k2:(rh*4294967296+x % 4294967296) / d < 4294967296:=Nat.div_lt_of_lt_mul (by
  have:rh*4294967296+4294967296≤d*4294967296:=by rw [← Nat.succ_mul];exact Nat.mul_le_mul_right _ h2
  omega)
 obtain ⟨ql,hql⟩:=nm ((rh*4294967296+x % 4294967296) / d);obtain ⟨rl,hrl⟩:=nm ((rh*4294967296+x % 4294967296) % d);rw [← hql,← hrl] at h3;rw [← hql] at k2 ⊢;rw [← hrl];refine ⟨by omega,by omega,k1,k2,?_⟩;rw [Nat.mul_add,← Nat.mul_assoc];obtain ⟨u,hu⟩:=nm (d*qh);obtain ⟨v,hv⟩:=nm (d*ql);rw [← hu] at h1 ⊢;rw [← hv] at h3 ⊢
 omega
structure SmI (la:List Nat) (d t:Nat) (o:List Nat) (r:Nat):Prop where
 len:o.length=la.length
 d64:D64 o
 lo:o.take t=la.take t
 eq:wv (la.drop t)=d*wv (o.drop t)+r
 lt:r < d
theorem SmI.start {la:List Nat} {d:Nat} (hl:D64 la) (hd:0 < d):SmI la d la.length la 0:=⟨rfl,hl,rfl,by rw [List.drop_length];simp [wv],hd⟩
theorem SmI.next {la o:List Nat} {d t r x q r':Nat} (h:SmI la d (t+1) o r) (ht:t < la.length) (hx:∃ h:t < o.length,o[t]=x) (hq:q < 18446744073709551616) (he:r*18446744073709551616+x=d*q+r') (hr:r' < d):SmI la d t (o.set t q) r':=by
 obtain ⟨hto,hxo⟩:=hx;have hxl:la[t]=x:=by
  have e:=congrArg (fun l=>l[t]?) h.lo;simp only [List.getElem?_take_of_lt (Nat.lt_succ_self t),List.getElem?_eq_getElem hto,List.getElem?_eq_getElem ht] at e;rw [← hxo];exact (Option.some.inj e).symm
 refine ⟨by rw [List.length_set,h.len],h.d64.set _ hq,?_,?_,hr⟩
 ·rw [List.take_set_of_le (Nat.le_refl t)];have e:=congrArg (fun l=>l.take t) h.lo
  simpa [List.take_take,Nat.min_eq_left (Nat.le_succ t)] using e
 ·have e1:la.drop t=la[t] :: la.drop (t+1):=List.drop_eq_getElem_cons ht;have hs:t < (o.set t q).length:=by rw [List.length_set];exact hto
  have e2:(o.set t q).drop t=q :: o.drop (t+1):=by
   rw [List.drop_eq_getElem_cons hs,List.getElem_set_self,List.drop_set_of_lt (Nat.lt_succ_self t)]
  rw [e1,e2,hxl]
  show x+18446744073709551616*wv (la.drop (t+1))=d*(q+18446744073709551616*wv (o.drop (t+1)))+r'
  rw [h.eq,Nat.mul_add,Nat.mul_add,Nat.mul_left_comm d 18446744073709551616]
  omega
theorem SmI.done {la o:List Nat} {d r:Nat} (h:SmI la d 0 o r):wv o=wv la / d∧r=wv la % d:=by
 have e:=h.eq;rw [List.drop_zero,List.drop_zero] at e;have hd:0 < d:=by have:=h.lt;omega
 rw [e]
 exact ⟨by rw [Nat.mul_add_div hd,Nat.div_eq_of_lt h.lt,Nat.add_zero],by rw [Nat.mul_add_mod,Nat.mod_eq_of_lt h.lt]⟩
def SmRet (w:World) (n d:Nat) (e:Ending) (w':World):Prop:=∃ a b c f:Int,UIs a b c f (n / d)∧e = .returned (.tuple #[.agg #[.int .u64 a,.int .u64 b,.int .u64 c,.int .u64 f],.int .u64 ((n % d:Nat):Int)])∧Below w.heap.size w w'

theorem l0q {a b c f:Int} {n d:Nat} (h:UIs a b c f n) (hd0:0 < d) (hd:d < 4294967296) (w:World) :
  Calls Tryz.prog 188 #[.agg #[.int .u64 a,.int .u64 b,.int .u64 c,.int .u64 f],.int .u64 (d:Int)] w (SmRet w n d):=by
 obtain ⟨A0,A1,A2,A3,rfl,rfl,rfl,rfl,ha0,ha1,ha2,ha3,hn⟩:=h.nats;obtain ⟨la,hla⟩:=nm ([A0,A1,A2,A3]);have HVA:Hid (wv la=n∧D64 la∧la.length=4):=hh (by
  rw [hla];refine ⟨by unfold wv wv wv wv wv;omega,fun x hx=>?_,rfl⟩;simp only [List.mem_cons,List.not_mem_nil,or_false] at hx
  rcases hx with rfl | rfl | rfl | rfl<;>assumption)
 have HLA:=hh hla;have HD:=hh (And.intro hd0 hd);obtain ⟨res,hres⟩:=nm (n % d);have HRES:=hh hres;clear h ha0 ha1 ha2 ha3 hn hla hres hd0 hd
 go_enter Tryz.func188,Tryz.ntmps188
 go_wp2_with (refine sA _ Tryz.zeroUz ?_)
 obtain ⟨w1,hw1⟩:=nm (w.alloc (.cells #[.int .u64 (A0:Int),.int .u64 (A1:Int),.int .u64 (A2:Int),.int .u64 (A3:Int)] 25));obtain ⟨X,hX⟩:=nm (w.heap.size);rw [← hw1,← hX];have HX1:Hid (w1.heap[X]? = some (.cells #[.int .u64 (A0:Int),.int .u64 (A1:Int),.int .u64 (A2:Int),.int .u64 (A3:Int)] 25 (0,0))):=hh (by rw [hw1,hX];exact heap_alloc_new _ _);have HB1:Hid (Below w.heap.size w w1):=hh (by rw [hw1];exact a0c _ _);have WX:Hid (w.heap.size≤X):=hh (by omega);clear hw1 hX;intro R w2 hR';have WR:=mGe hR' HB1.out.size;have NXR:=mNe hR' HX1;have HR:=hh hR'.out.cells;have HX:=hh (a0d hR'.out.below HX1.out);have HB:=hh (HB1.out.trans (hR'.out.below.mono HB1.out.size));clear hR' HX1 HB1;go_wp2_with fail
 go_loopw [6,7] (fun vr vi wr=>∃ (t r:Nat) (o:List Nat),vr = .int .u64 r∧vi = .int .i64 ((t:Int) - 1)∧t≤4∧Hid (SmI la d t o r)∧Hid (wr.heap[X]? = some (.cells (rowW o) 25 (0,0)))∧Hid (wr.heap[R]? = some (.cells u0 25 (0,0)))∧Hid (Below w.heap.size w wr)) (fun _ vi _=>(intOf vi+1).toNat)
 case atStart=>exact ⟨4,0,la,rfl,rfl,by omega,hh (by have h9:=SmI.start HVA.out.2.1 HD.out.1;rw [HVA.out.2.2] at h9;exact h9),hh (by rw [HLA.out];exact HX.out),HR,HB⟩
 case round=>
  clear HX HR HB;obtain ⟨t,r,o,rfl,rfl,ht4,HS,HX,HR,HB⟩:=hrel;have hl:=HS.out.len;rw [HVA.out.2.2] at hl
  match o,hl with
  | [p0,p1,p2,p3],_=>
   rcases (show t=0∨t=1∨t=2∨t=3∨t=4 by omega) with rfl | rfl | rfl | rfl | rfl
   ·have hdn:=HS.out.done;rw [HVA.out.1] at hdn;have HDN:Hid (wv [p0,p1,p2,p3]=n / d∧r=n % d):=hh hdn;have HPP:Hid (p0 < 18446744073709551616∧p1 < 18446744073709551616∧p2 < 18446744073709551616∧p3 < 18446744073709551616):=hh ⟨HS.out.d64 _ (by simp),HS.out.d64 _ (by simp),HS.out.d64 _ (by simp),HS.out.d64 _ (by simp)⟩;have hxx:Hid (wr.heap[X]? = some (.cells #[.int .u64 (p0:Int),.int .u64 (p1:Int),.int .u64 (p2:Int),.int .u64 (p3:Int)] 25 (0,0))):=HX;clear hdn HX HS;have HX:=hxx;clear hxx
    go_wp2_with (first
     | (refine lR HX Tryz.underlying25 Tryz.sizeU ?_)
     | (refine sR 25 #[.int .u64 (p0:Int),.int .u64 (p1:Int),.int .u64 (p2:Int),.int .u64 (p3:Int)] HR Tryz.sizeU ?_))
    intro f1 hxR kR zR;clear zR;replace HB:=bS HB kR WR;replace HR:=hh hxR;clear hxR kR;go_wp2_with fail
    exact bR rfl rfl HR Tryz.underlying25 Tryz.sizeU ⟨_,_,_,_,by rw [← HDN.out.1];exact UIs.of_words HPP.out.1 HPP.out.2.1 HPP.out.2.2.1 HPP.out.2.2.2,by rw [← HDN.out.2];rfl,HB.out⟩
   ·have hp:p0 < 18446744073709551616:=HS.out.d64 _ (by simp);have hst:=c0J HS.out.lt HD.out.2 hp;have hnx:∀ q r',q < 18446744073709551616→r*18446744073709551616+p0=d*q+r'→r' < d→SmI la d 0 ([p0,p1,p2,p3].set 0 q) r':=fun q r' h1 h2 h3=>HS.out.next (by rw [HVA.out.2.2];decide) ⟨by simp,rfl⟩ h1 h2 h3
    have hrd:=HS.out.lt;have hdm:=HD.out.2;have hd0:=HD.out.1;obtain ⟨xh,hxh⟩:=nm (p0 / 4294967296);obtain ⟨xl,hxl⟩:=nm (p0 % 4294967296);rw [← hxh,← hxl] at hst;obtain ⟨hi,hhi⟩:=nm (r*4294967296+xh);rw [← hhi] at hst;obtain ⟨rh,hrh⟩:=nm (hi % d);obtain ⟨qh,hqh⟩:=nm (hi / d);rw [← hrh,← hqh] at hst;obtain ⟨low,hlow⟩:=nm (rh*4294967296+xl);rw [← hlow] at hst;obtain ⟨rl,hrl⟩:=nm (low % d);obtain ⟨ql,hql⟩:=nm (low / d);rw [← hrl,← hql] at hst;obtain ⟨q,hq⟩:=nm (qh*4294967296+ql);rw [← hq] at hst;have hrh2:rh < d:=by rw [hrh];exact Nat.mod_lt _ hd0
    have hrl2:rl < d:=by rw [hrl];exact Nat.mod_lt _ hd0
    have HNX:Hid (SmI la d 0 ([p0,p1,p2,p3].set 0 q) rl):=hh (hnx q rl (by omega) hst.2.2.2.2 hrl2);have f1:IntKind.u64.wrap ((r:Int)*4294967296)=((r*4294967296:Nat):Int):=by rw [a0N,Nat.mod_eq_of_lt (by omega)]
    have f2:(p0:Int) / 4294967296=(xh:Int):=by omega
    have f3:bits BinOp.or IntKind.u64 ((r*4294967296:Nat):Int) (xh:Int)=(hi:Int):=by rw [b0q r xh (by omega) (by omega),hhi]
    have f4:(hi:Int) % (d:Int)=(rh:Int):=by rw [hrh];exact (Int.natCast_emod _ _).symm
    have e4:(hi:Int).tmod (d:Int)=(rh:Int):=by rw [hrh];rfl
    have j3:(low:Int).tmod (d:Int)=(rl:Int):=by rw [hrl];rfl
    have e8:IntKind.u64.wrap (qh:Int)=(qh:Int):=by rw [IntKind.wrap_u64];omega
    have j1:IntKind.u64.wrap (ql:Int)=(ql:Int):=by rw [IntKind.wrap_u64];omega
    have f5:IntKind.u64.wrap ((rh:Int)*4294967296)=((rh*4294967296:Nat):Int):=by rw [a0N,Nat.mod_eq_of_lt (by omega)]
    have f6:bits BinOp.and IntKind.u64 (p0:Int) 4294967295=(xl:Int):=by rw [c0v p0 hp,hxl]
    have f7:bits BinOp.or IntKind.u64 ((rh*4294967296:Nat):Int) (xl:Int)=(low:Int):=by rw [b0q rh xl (by omega) (by omega),hlow]
    have f8:(hi:Int) / (d:Int)=(qh:Int):=by rw [hqh];exact (Int.natCast_ediv _ _).symm
    have f9:IntKind.u64.wrap ((qh:Int)*4294967296)=((qh*4294967296:Nat):Int):=by rw [a0N,Nat.mod_eq_of_lt (by omega)]
    have g1:(low:Int) / (d:Int)=(ql:Int):=by rw [hql];exact (Int.natCast_ediv _ _).symm
    have g2:bits BinOp.or IntKind.u64 ((qh*4294967296:Nat):Int) (ql:Int)=(q:Int):=by rw [b0q qh ql (by omega) (by omega),hq]
    have g3:(low:Int) % (d:Int)=(rl:Int):=by rw [hrl];exact (Int.natCast_emod _ _).symm
    obtain ⟨v1,hv1⟩:∃ v:Int,v=((r*4294967296:Nat):Int):=⟨_,rfl⟩;obtain ⟨v2,hv2⟩:∃ v:Int,v=((rh*4294967296:Nat):Int):=⟨_,rfl⟩;obtain ⟨v3,hv3⟩:∃ v:Int,v=((qh*4294967296:Nat):Int):=⟨_,rfl⟩;rw [← hv1] at f1 f3;rw [← hv2] at f5 f7;rw [← hv3] at f9 g2;have hne:((d:Int) == 0)=false:=beq_eq_false_iff_ne.2 (by omega);have hne2:¬ d=0:=by omega
    have hxx:Hid (wr.heap[X]? = some (.cells #[.int .u64 (p0:Int),.int .u64 (p1:Int),.int .u64 (p2:Int),.int .u64 (p3:Int)] 25 (0,0))):=HX;have c0:wr.cell? ⟨X,0,none⟩=some (.int .u64 (p0:Int)):=Lib.cell_of_heap hxx.out 0;clear hst hnx hxh hxl hhi hrh hqh hlow hrl hql hq hv1 hv2 hv3 HS HX hp hrd hdm hrh2 hrl2;have HX:=hxx;clear hxx;go_wp2_with fail;clear c0;obtain ⟨d1,hwz,hbz⟩:=dr wr;replace HB:=bT HB hbz;replace HX:=bA hbz HX;replace HR:=bA hbz HR;clear hbz;refine rg1 10 10 hwz HX fun hS=>?_
    clear hwz;refine tA1 0 21 hS ?_;go_frame;refine tA1 1 22 hS ?_;go_frame;refine tA1 2 23 hS ?_;go_frame;refine tA1 3 24 hS ?_;go_frame;refine tA1 4 25 hS ?_;go_frame;refine tA1 5 26 hS ?_;go_frame;refine tk 6 (some 27) rfl rfl (.inl ⟨by rfl,fun w' hS'=>(by have hc:w'.cell? ⟨X,0,none⟩=some (.int .u64 (p0:Int)):=Lib.cell_of_heap (hS') 0;go_simp;rfl)⟩) hS ?_;go_frame;refine tA1 7 28 hS ?_;go_frame;refine tA1 8 29 hS ?_;go_frame;refine tA1 9 9 hS ?_;go_frame;refine tD ?_;clear hS;go_wp2_with fail;obtain ⟨d2,hwz⟩:=nm (d1.drew);have hbz:Below d1.heap.size d1 d2:=by rw [hwz];exact (Below.refl _ _).drew
    replace HB:=bT HB hbz;replace HX:=bA hbz HX;replace HR:=bA hbz HR;clear hbz;have hS:True:=trivial;refine a0b (fun w'=>True) 15 15 (by kernel_rfl) rfl ?_;rw [← hwz];clear hwz;refine tA1 0 30 hS ?_;go_frame;refine tA1 1 31 hS ?_;go_frame;refine tA1 2 32 hS ?_;go_frame;refine tA1 3 33 hS ?_;go_frame;refine tA1 4 34 hS ?_;go_frame;refine tA1 5 35 hS ?_;go_frame;refine tA1 6 36 hS ?_;go_frame;refine tA1 7 37 hS ?_;go_frame;refine tA1 8 38 hS ?_;go_frame;refine tA1 9 39 hS ?_;go_frame;refine tA1 10 40 hS ?_;go_frame;refine tA1 11 41 hS ?_;go_frame;refine tA1 12 42 hS ?_;go_frame;refine t1 13 fun K hK=>?_
    simp only [gA,jB,gC];refine a0h 23 _ _ rfl X 0 (.int .u64 (q:Int)) rfl rfl rfl rfl 25 _ HX.out Tryz.sizeW1 (by simp) #[.int .u64 (q:Int),.int .u64 (p1:Int),.int .u64 (p2:Int),.int .u64 (p3:Int)] rfl ?_;intro d3 hxX kX zX;clear zX;replace HB:=bS HB kX WX;replace HR:=kb1 kX HR NXR;replace HX:=hh hxX;clear hxX kX;have hS2:True:=trivial;refine hK _ _ (fun _ _=>hS2) ?_;clear hK hS;have hS:=hS2;clear hS2;refine tA1 14 6 hS ?_;go_frame;refine tD ?_;clear hS;clear f1 f2 f3 f4 e4 j3 e8 j1 f5 f6 f7 f8 f9 g1 g2 g3 hne hne2 hd0;go_wp2_with fail
    go_roundw
    case rel=>exact ⟨0,rl,_,by first | rfl | trivial,by first | rfl | trivial,by omega,HNX,HX,HR,HB⟩
    case measure=>simp [intOf]
   ·have hp:p1 < 18446744073709551616:=HS.out.d64 _ (by simp);have hst:=c0J HS.out.lt HD.out.2 hp;have hnx:∀ q r',q < 18446744073709551616→r*18446744073709551616+p1=d*q+r'→r' < d→SmI la d 1 ([p0,p1,p2,p3].set 1 q) r':=fun q r' h1 h2 h3=>HS.out.next (by rw [HVA.out.2.2];decide) ⟨by simp,rfl⟩ h1 h2 h3
    have hrd:=HS.out.lt;have hdm:=HD.out.2;have hd0:=HD.out.1;obtain ⟨xh,hxh⟩:=nm (p1 / 4294967296);obtain ⟨xl,hxl⟩:=nm (p1 % 4294967296);rw [← hxh,← hxl] at hst;obtain ⟨hi,hhi⟩:=nm (r*4294967296+xh);rw [← hhi] at hst;obtain ⟨rh,hrh⟩:=nm (hi % d);obtain ⟨qh,hqh⟩:=nm (hi / d);rw [← hrh,← hqh] at hst;obtain ⟨low,hlow⟩:=nm (rh*4294967296+xl);rw [← hlow] at hst;obtain ⟨rl,hrl⟩:=nm (low % d);obtain ⟨ql,hql⟩:=nm (low / d);rw [← hrl,← hql] at hst;obtain ⟨q,hq⟩:=nm (qh*4294967296+ql);rw [← hq] at hst;have hrh2:rh < d:=by rw [hrh];exact Nat.mod_lt _ hd0
    have hrl2:rl < d:=by rw [hrl];exact Nat.mod_lt _ hd0
    have HNX:Hid (SmI la d 1 ([p0,p1,p2,p3].set 1 q) rl):=hh (hnx q rl (by omega) hst.2.2.2.2 hrl2);have f1:IntKind.u64.wrap ((r:Int)*4294967296)=((r*4294967296:Nat):Int):=by rw [a0N,Nat.mod_eq_of_lt (by omega)]
    have f2:(p1:Int) / 4294967296=(xh:Int):=by omega
    have f3:bits BinOp.or IntKind.u64 ((r*4294967296:Nat):Int) (xh:Int)=(hi:Int):=by rw [b0q r xh (by omega) (by omega),hhi]
    have f4:(hi:Int) % (d:Int)=(rh:Int):=by rw [hrh];exact (Int.natCast_emod _ _).symm
    have e4:(hi:Int).tmod (d:Int)=(rh:Int):=by rw [hrh];rfl
    have j3:(low:Int).tmod (d:Int)=(rl:Int):=by rw [hrl];rfl
    have e8:IntKind.u64.wrap (qh:Int)=(qh:Int):=by rw [IntKind.wrap_u64];omega
    have j1:IntKind.u64.wrap (ql:Int)=(ql:Int):=by rw [IntKind.wrap_u64];omega
    have f5:IntKind.u64.wrap ((rh:Int)*4294967296)=((rh*4294967296:Nat):Int):=by rw [a0N,Nat.mod_eq_of_lt (by omega)]
    have f6:bits BinOp.and IntKind.u64 (p1:Int) 4294967295=(xl:Int):=by rw [c0v p1 hp,hxl]
    have f7:bits BinOp.or IntKind.u64 ((rh*4294967296:Nat):Int) (xl:Int)=(low:Int):=by rw [b0q rh xl (by omega) (by omega),hlow]
    have f8:(hi:Int) / (d:Int)=(qh:Int):=by rw [hqh];exact (Int.natCast_ediv _ _).symm
    have f9:IntKind.u64.wrap ((qh:Int)*4294967296)=((qh*4294967296:Nat):Int):=by rw [a0N,Nat.mod_eq_of_lt (by omega)]
    have g1:(low:Int) / (d:Int)=(ql:Int):=by rw [hql];exact (Int.natCast_ediv _ _).symm
    have g2:bits BinOp.or IntKind.u64 ((qh*4294967296:Nat):Int) (ql:Int)=(q:Int):=by rw [b0q qh ql (by omega) (by omega),hq]
    have g3:(low:Int) % (d:Int)=(rl:Int):=by rw [hrl];exact (Int.natCast_emod _ _).symm
    obtain ⟨v1,hv1⟩:∃ v:Int,v=((r*4294967296:Nat):Int):=⟨_,rfl⟩;obtain ⟨v2,hv2⟩:∃ v:Int,v=((rh*4294967296:Nat):Int):=⟨_,rfl⟩;obtain ⟨v3,hv3⟩:∃ v:Int,v=((qh*4294967296:Nat):Int):=⟨_,rfl⟩;rw [← hv1] at f1 f3;rw [← hv2] at f5 f7;rw [← hv3] at f9 g2;have hne:((d:Int) == 0)=false:=beq_eq_false_iff_ne.2 (by omega);have hne2:¬ d=0:=by omega
    have hxx:Hid (wr.heap[X]? = some (.cells #[.int .u64 (p0:Int),.int .u64 (p1:Int),.int .u64 (p2:Int),.int .u64 (p3:Int)] 25 (0,0))):=HX;have c0:wr.cell? ⟨X,1,none⟩=some (.int .u64 (p1:Int)):=Lib.cell_of_heap hxx.out 1;clear hst hnx hxh hxl hhi hrh hqh hlow hrl hql hq hv1 hv2 hv3 HS HX hp hrd hdm hrh2 hrl2;have HX:=hxx;clear hxx;go_wp2_with fail;clear c0;obtain ⟨d1,hwz,hbz⟩:=dr wr;replace HB:=bT HB hbz;replace HX:=bA hbz HX;replace HR:=bA hbz HR;clear hbz;refine rg1 10 10 hwz HX fun hS=>?_
    clear hwz;refine tA1 0 21 hS ?_;go_frame;refine tA1 1 22 hS ?_;go_frame;refine tA1 2 23 hS ?_;go_frame;refine tA1 3 24 hS ?_;go_frame;refine tA1 4 25 hS ?_;go_frame;refine tA1 5 26 hS ?_;go_frame;refine tk 6 (some 27) rfl rfl (.inl ⟨by rfl,fun w' hS'=>(by have hc:w'.cell? ⟨X,1,none⟩=some (.int .u64 (p1:Int)):=Lib.cell_of_heap (hS') 1;go_simp;rfl)⟩) hS ?_;go_frame;refine tA1 7 28 hS ?_;go_frame;refine tA1 8 29 hS ?_;go_frame;refine tA1 9 9 hS ?_;go_frame;refine tD ?_;clear hS;go_wp2_with fail;obtain ⟨d2,hwz⟩:=nm (d1.drew);have hbz:Below d1.heap.size d1 d2:=by rw [hwz];exact (Below.refl _ _).drew
    replace HB:=bT HB hbz;replace HX:=bA hbz HX;replace HR:=bA hbz HR;clear hbz;have hS:True:=trivial;refine a0b (fun w'=>True) 15 15 (by kernel_rfl) rfl ?_;rw [← hwz];clear hwz;refine tA1 0 30 hS ?_;go_frame;refine tA1 1 31 hS ?_;go_frame;refine tA1 2 32 hS ?_;go_frame;refine tA1 3 33 hS ?_;go_frame;refine tA1 4 34 hS ?_;go_frame;refine tA1 5 35 hS ?_;go_frame;refine tA1 6 36 hS ?_;go_frame;refine tA1 7 37 hS ?_;go_frame;refine tA1 8 38 hS ?_;go_frame;refine tA1 9 39 hS ?_;go_frame;refine tA1 10 40 hS ?_;go_frame;refine tA1 11 41 hS ?_;go_frame;refine tA1 12 42 hS ?_;go_frame;refine t1 13 fun K hK=>?_
    simp only [gA,jB,gC];refine a0h 23 _ _ rfl X 1 (.int .u64 (q:Int)) rfl rfl rfl rfl 25 _ HX.out Tryz.sizeW1 (by simp) #[.int .u64 (p0:Int),.int .u64 (q:Int),.int .u64 (p2:Int),.int .u64 (p3:Int)] rfl ?_;intro d3 hxX kX zX;clear zX;replace HB:=bS HB kX WX;replace HR:=kb1 kX HR NXR;replace HX:=hh hxX;clear hxX kX;have hS2:True:=trivial;refine hK _ _ (fun _ _=>hS2) ?_;clear hK hS;have hS:=hS2;clear hS2;refine tA1 14 6 hS ?_;go_frame;refine tD ?_;clear hS;clear f1 f2 f3 f4 e4 j3 e8 j1 f5 f6 f7 f8 f9 g1 g2 g3 hne hne2 hd0;go_wp2_with fail
    go_roundw
    case rel=>exact ⟨1,rl,_,by first | rfl | trivial,by first | rfl | trivial,by omega,HNX,HX,HR,HB⟩
    case measure=>simp [intOf]
   ·have hp:p2 < 18446744073709551616:=HS.out.d64 _ (by simp);have hst:=c0J HS.out.lt HD.out.2 hp;have hnx:∀ q r',q < 18446744073709551616→r*18446744073709551616+p2=d*q+r'→r' < d→SmI la d 2 ([p0,p1,p2,p3].set 2 q) r':=fun q r' h1 h2 h3=>HS.out.next (by rw [HVA.out.2.2];decide) ⟨by simp,rfl⟩ h1 h2 h3
    have hrd:=HS.out.lt;have hdm:=HD.out.2;have hd0:=HD.out.1;obtain ⟨xh,hxh⟩:=nm (p2 / 4294967296);obtain ⟨xl,hxl⟩:=nm (p2 % 4294967296);rw [← hxh,← hxl] at hst;obtain ⟨hi,hhi⟩:=nm (r*4294967296+xh);rw [← hhi] at hst;obtain ⟨rh,hrh⟩:=nm (hi % d);obtain ⟨qh,hqh⟩:=nm (hi / d);rw [← hrh,← hqh] at hst;obtain ⟨low,hlow⟩:=nm (rh*4294967296+xl);rw [← hlow] at hst;obtain ⟨rl,hrl⟩:=nm (low % d);obtain ⟨ql,hql⟩:=nm (low / d);rw [← hrl,← hql] at hst;obtain ⟨q,hq⟩:=nm (qh*4294967296+ql);rw [← hq] at hst;have hrh2:rh < d:=by rw [hrh];exact Nat.mod_lt _ hd0
    have hrl2:rl < d:=by rw [hrl];exact Nat.mod_lt _ hd0
    have HNX:Hid (SmI la d 2 ([p0,p1,p2,p3].set 2 q) rl):=hh (hnx q rl (by omega) hst.2.2.2.2 hrl2);have f1:IntKind.u64.wrap ((r:Int)*4294967296)=((r*4294967296:Nat):Int):=by rw [a0N,Nat.mod_eq_of_lt (by omega)]
    have f2:(p2:Int) / 4294967296=(xh:Int):=by omega
    have f3:bits BinOp.or IntKind.u64 ((r*4294967296:Nat):Int) (xh:Int)=(hi:Int):=by rw [b0q r xh (by omega) (by omega),hhi]
    have f4:(hi:Int) % (d:Int)=(rh:Int):=by rw [hrh];exact (Int.natCast_emod _ _).symm
    have e4:(hi:Int).tmod (d:Int)=(rh:Int):=by rw [hrh];rfl
    have j3:(low:Int).tmod (d:Int)=(rl:Int):=by rw [hrl];rfl
    have e8:IntKind.u64.wrap (qh:Int)=(qh:Int):=by rw [IntKind.wrap_u64];omega
    have j1:IntKind.u64.wrap (ql:Int)=(ql:Int):=by rw [IntKind.wrap_u64];omega
    have f5:IntKind.u64.wrap ((rh:Int)*4294967296)=((rh*4294967296:Nat):Int):=by rw [a0N,Nat.mod_eq_of_lt (by omega)]
    have f6:bits BinOp.and IntKind.u64 (p2:Int) 4294967295=(xl:Int):=by rw [c0v p2 hp,hxl]
    have f7:bits BinOp.or IntKind.u64 ((rh*4294967296:Nat):Int) (xl:Int)=(low:Int):=by rw [b0q rh xl (by omega) (by omega),hlow]
    have f8:(hi:Int) / (d:Int)=(qh:Int):=by rw [hqh];exact (Int.natCast_ediv _ _).symm
    have f9:IntKind.u64.wrap ((qh:Int)*4294967296)=((qh*4294967296:Nat):Int):=by rw [a0N,Nat.mod_eq_of_lt (by omega)]
    have g1:(low:Int) / (d:Int)=(ql:Int):=by rw [hql];exact (Int.natCast_ediv _ _).symm
    have g2:bits BinOp.or IntKind.u64 ((qh*4294967296:Nat):Int) (ql:Int)=(q:Int):=by rw [b0q qh ql (by omega) (by omega),hq]
    have g3:(low:Int) % (d:Int)=(rl:Int):=by rw [hrl];exact (Int.natCast_emod _ _).symm
    obtain ⟨v1,hv1⟩:∃ v:Int,v=((r*4294967296:Nat):Int):=⟨_,rfl⟩;obtain ⟨v2,hv2⟩:∃ v:Int,v=((rh*4294967296:Nat):Int):=⟨_,rfl⟩;obtain ⟨v3,hv3⟩:∃ v:Int,v=((qh*4294967296:Nat):Int):=⟨_,rfl⟩;rw [← hv1] at f1 f3;rw [← hv2] at f5 f7;rw [← hv3] at f9 g2;have hne:((d:Int) == 0)=false:=beq_eq_false_iff_ne.2 (by omega);have hne2:¬ d=0:=by omega
    have hxx:Hid (wr.heap[X]? = some (.cells #[.int .u64 (p0:Int),.int .u64 (p1:Int),.int .u64 (p2:Int),.int .u64 (p3:Int)] 25 (0,0))):=HX;have c0:wr.cell? ⟨X,2,none⟩=some (.int .u64 (p2:Int)):=Lib.cell_of_heap hxx.out 2;clear hst hnx hxh hxl hhi hrh hqh hlow hrl hql hq hv1 hv2 hv3 HS HX hp hrd hdm hrh2 hrl2;have HX:=hxx;clear hxx;go_wp2_with fail;clear c0;obtain ⟨d1,hwz,hbz⟩:=dr wr;replace HB:=bT HB hbz;replace HX:=bA hbz HX;replace HR:=bA hbz HR;clear hbz;refine rg1 10 10 hwz HX fun hS=>?_
    clear hwz;refine tA1 0 21 hS ?_;go_frame;refine tA1 1 22 hS ?_;go_frame;refine tA1 2 23 hS ?_;go_frame;refine tA1 3 24 hS ?_;go_frame;refine tA1 4 25 hS ?_;go_frame;refine tA1 5 26 hS ?_;go_frame;refine tk 6 (some 27) rfl rfl (.inl ⟨by rfl,fun w' hS'=>(by have hc:w'.cell? ⟨X,2,none⟩=some (.int .u64 (p2:Int)):=Lib.cell_of_heap (hS') 2;go_simp;rfl)⟩) hS ?_;go_frame;refine tA1 7 28 hS ?_;go_frame;refine tA1 8 29 hS ?_;go_frame;refine tA1 9 9 hS ?_;go_frame;refine tD ?_;clear hS;go_wp2_with fail;obtain ⟨d2,hwz⟩:=nm (d1.drew);have hbz:Below d1.heap.size d1 d2:=by rw [hwz];exact (Below.refl _ _).drew
    replace HB:=bT HB hbz;replace HX:=bA hbz HX;replace HR:=bA hbz HR;clear hbz;have hS:True:=trivial;refine a0b (fun w'=>True) 15 15 (by kernel_rfl) rfl ?_;rw [← hwz];clear hwz;refine tA1 0 30 hS ?_;go_frame;refine tA1 1 31 hS ?_;go_frame;refine tA1 2 32 hS ?_;go_frame;refine tA1 3 33 hS ?_;go_frame;refine tA1 4 34 hS ?_;go_frame;refine tA1 5 35 hS ?_;go_frame;refine tA1 6 36 hS ?_;go_frame;refine tA1 7 37 hS ?_;go_frame;refine tA1 8 38 hS ?_;go_frame;refine tA1 9 39 hS ?_;go_frame;refine tA1 10 40 hS ?_;go_frame;refine tA1 11 41 hS ?_;go_frame;refine tA1 12 42 hS ?_;go_frame;refine t1 13 fun K hK=>?_
    simp only [gA,jB,gC];refine a0h 23 _ _ rfl X 2 (.int .u64 (q:Int)) rfl rfl rfl rfl 25 _ HX.out Tryz.sizeW1 (by simp) #[.int .u64 (p0:Int),.int .u64 (p1:Int),.int .u64 (q:Int),.int .u64 (p3:Int)] rfl ?_;intro d3 hxX kX zX;clear zX;replace HB:=bS HB kX WX;replace HR:=kb1 kX HR NXR;replace HX:=hh hxX;clear hxX kX;have hS2:True:=trivial;refine hK _ _ (fun _ _=>hS2) ?_;clear hK hS;have hS:=hS2;clear hS2;refine tA1 14 6 hS ?_;go_frame;refine tD ?_;clear hS;clear f1 f2 f3 f4 e4 j3 e8 j1 f5 f6 f7 f8 f9 g1 g2 g3 hne hne2 hd0;go_wp2_with fail
    go_roundw
    case rel=>exact ⟨2,rl,_,by first | rfl | trivial,by first | rfl | trivial,by omega,HNX,HX,HR,HB⟩
    case measure=>simp [intOf]
   ·have hp:p3 < 18446744073709551616:=HS.out.d64 _ (by simp);have hst:=c0J HS.out.lt HD.out.2 hp;have hnx:∀ q r',q < 18446744073709551616→r*18446744073709551616+p3=d*q+r'→r' < d→SmI la d 3 ([p0,p1,p2,p3].set 3 q) r':=fun q r' h1 h2 h3=>HS.out.next (by rw [HVA.out.2.2];decide) ⟨by simp,rfl⟩ h1 h2 h3
    have hrd:=HS.out.lt;have hdm:=HD.out.2;have hd0:=HD.out.1;obtain ⟨xh,hxh⟩:=nm (p3 / 4294967296);obtain ⟨xl,hxl⟩:=nm (p3 % 4294967296);rw [← hxh,← hxl] at hst;obtain ⟨hi,hhi⟩:=nm (r*4294967296+xh);rw [← hhi] at hst;obtain ⟨rh,hrh⟩:=nm (hi % d);obtain ⟨qh,hqh⟩:=nm (hi / d);rw [← hrh,← hqh] at hst;obtain ⟨low,hlow⟩:=nm (rh*4294967296+xl);rw [← hlow] at hst;obtain ⟨rl,hrl⟩:=nm (low % d);obtain ⟨ql,hql⟩:=nm (low / d);rw [← hrl,← hql] at hst;obtain ⟨q,hq⟩:=nm (qh*4294967296+ql);rw [← hq] at hst;have hrh2:rh < d:=by rw [hrh];exact Nat.mod_lt _ hd0
    have hrl2:rl < d:=by rw [hrl];exact Nat.mod_lt _ hd0
    have HNX:Hid (SmI la d 3 ([p0,p1,p2,p3].set 3 q) rl):=hh (hnx q rl (by omega) hst.2.2.2.2 hrl2);have f1:IntKind.u64.wrap ((r:Int)*4294967296)=((r*4294967296:Nat):Int):=by rw [a0N,Nat.mod_eq_of_lt (by omega)]
    have f2:(p3:Int) / 4294967296=(xh:Int):=by omega
    have f3:bits BinOp.or IntKind.u64 ((r*4294967296:Nat):Int) (xh:Int)=(hi:Int):=by rw [b0q r xh (by omega) (by omega),hhi]
    have f4:(hi:Int) % (d:Int)=(rh:Int):=by rw [hrh];exact (Int.natCast_emod _ _).symm
    have e4:(hi:Int).tmod (d:Int)=(rh:Int):=by rw [hrh];rfl
    have j3:(low:Int).tmod (d:Int)=(rl:Int):=by rw [hrl];rfl
    have e8:IntKind.u64.wrap (qh:Int)=(qh:Int):=by rw [IntKind.wrap_u64];omega
    have j1:IntKind.u64.wrap (ql:Int)=(ql:Int):=by rw [IntKind.wrap_u64];omega
    have f5:IntKind.u64.wrap ((rh:Int)*4294967296)=((rh*4294967296:Nat):Int):=by rw [a0N,Nat.mod_eq_of_lt (by omega)]
    have f6:bits BinOp.and IntKind.u64 (p3:Int) 4294967295=(xl:Int):=by rw [c0v p3 hp,hxl]
    have f7:bits BinOp.or IntKind.u64 ((rh*4294967296:Nat):Int) (xl:Int)=(low:Int):=by rw [b0q rh xl (by omega) (by omega),hlow]
    have f8:(hi:Int) / (d:Int)=(qh:Int):=by rw [hqh];exact (Int.natCast_ediv _ _).symm
    have f9:IntKind.u64.wrap ((qh:Int)*4294967296)=((qh*4294967296:Nat):Int):=by rw [a0N,Nat.mod_eq_of_lt (by omega)]
    have g1:(low:Int) / (d:Int)=(ql:Int):=by rw [hql];exact (Int.natCast_ediv _ _).symm
    have g2:bits BinOp.or IntKind.u64 ((qh*4294967296:Nat):Int) (ql:Int)=(q:Int):=by rw [b0q qh ql (by omega) (by omega),hq]
    have g3:(low:Int) % (d:Int)=(rl:Int):=by rw [hrl];exact (Int.natCast_emod _ _).symm
    obtain ⟨v1,hv1⟩:∃ v:Int,v=((r*4294967296:Nat):Int):=⟨_,rfl⟩;obtain ⟨v2,hv2⟩:∃ v:Int,v=((rh*4294967296:Nat):Int):=⟨_,rfl⟩;obtain ⟨v3,hv3⟩:∃ v:Int,v=((qh*4294967296:Nat):Int):=⟨_,rfl⟩;rw [← hv1] at f1 f3;rw [← hv2] at f5 f7;rw [← hv3] at f9 g2;have hne:((d:Int) == 0)=false:=beq_eq_false_iff_ne.2 (by omega);have hne2:¬ d=0:=by omega
    have hxx:Hid (wr.heap[X]? = some (.cells #[.int .u64 (p0:Int),.int .u64 (p1:Int),.int .u64 (p2:Int),.int .u64 (p3:Int)] 25 (0,0))):=HX;have c0:wr.cell? ⟨X,3,none⟩=some (.int .u64 (p3:Int)):=Lib.cell_of_heap hxx.out 3;clear hst hnx hxh hxl hhi hrh hqh hlow hrl hql hq hv1 hv2 hv3 HS HX hp hrd hdm hrh2 hrl2;have HX:=hxx;clear hxx;go_wp2_with fail;clear c0;obtain ⟨d1,hwz,hbz⟩:=dr wr;replace HB:=bT HB hbz;replace HX:=bA hbz HX;replace HR:=bA hbz HR;clear hbz;refine rg1 10 10 hwz HX fun hS=>?_
    clear hwz;refine tA1 0 21 hS ?_;go_frame;refine tA1 1 22 hS ?_;go_frame;refine tA1 2 23 hS ?_;go_frame;refine tA1 3 24 hS ?_;go_frame;refine tA1 4 25 hS ?_;go_frame;refine tA1 5 26 hS ?_;go_frame;refine tk 6 (some 27) rfl rfl (.inl ⟨by rfl,fun w' hS'=>(by have hc:w'.cell? ⟨X,3,none⟩=some (.int .u64 (p3:Int)):=Lib.cell_of_heap (hS') 3;go_simp;rfl)⟩) hS ?_;go_frame;refine tA1 7 28 hS ?_;go_frame;refine tA1 8 29 hS ?_;go_frame;refine tA1 9 9 hS ?_;go_frame;refine tD ?_;clear hS;go_wp2_with fail;obtain ⟨d2,hwz⟩:=nm (d1.drew);have hbz:Below d1.heap.size d1 d2:=by rw [hwz];exact (Below.refl _ _).drew
    replace HB:=bT HB hbz;replace HX:=bA hbz HX;replace HR:=bA hbz HR;clear hbz;have hS:True:=trivial;refine a0b (fun w'=>True) 15 15 (by kernel_rfl) rfl ?_;rw [← hwz];clear hwz;refine tA1 0 30 hS ?_;go_frame;refine tA1 1 31 hS ?_;go_frame;refine tA1 2 32 hS ?_;go_frame;refine tA1 3 33 hS ?_;go_frame;refine tA1 4 34 hS ?_;go_frame;refine tA1 5 35 hS ?_;go_frame;refine tA1 6 36 hS ?_;go_frame;refine tA1 7 37 hS ?_;go_frame;refine tA1 8 38 hS ?_;go_frame;refine tA1 9 39 hS ?_;go_frame;refine tA1 10 40 hS ?_;go_frame;refine tA1 11 41 hS ?_;go_frame;refine tA1 12 42 hS ?_;go_frame;refine t1 13 fun K hK=>?_
    simp only [gA,jB,gC];refine a0h 23 _ _ rfl X 3 (.int .u64 (q:Int)) rfl rfl rfl rfl 25 _ HX.out Tryz.sizeW1 (by simp) #[.int .u64 (p0:Int),.int .u64 (p1:Int),.int .u64 (p2:Int),.int .u64 (q:Int)] rfl ?_;intro d3 hxX kX zX;clear zX;replace HB:=bS HB kX WX;replace HR:=kb1 kX HR NXR;replace HX:=hh hxX;clear hxX kX;have hS2:True:=trivial;refine hK _ _ (fun _ _=>hS2) ?_;clear hK hS;have hS:=hS2;clear hS2;refine tA1 14 6 hS ?_;go_frame;refine tD ?_;clear hS;clear f1 f2 f3 f4 e4 j3 e8 j1 f5 f6 f7 f8 f9 g1 g2 g3 hne hne2 hd0;go_wp2_with fail
    go_roundw
    case rel=>exact ⟨3,rl,_,by first | rfl | trivial,by first | rfl | trivial,by omega,HNX,HX,HR,HB⟩
    case measure=>simp [intOf]
end
section
open Go.RowKit

def cmpW (n m:Nat):Int:=if n < m then -1 else if m < n then 1 else 0
theorem c0g (n m:Nat):cmpW n m < 0↔n < m:=by unfold cmpW;split;simp [*];split<;>simp_all<;>omega

theorem c0w {a b c f a' b' c' f':Int} {n m:Nat} (h:UIs a b c f n) (h':UIs a' b' c' f' m) (w:World) :
  Calls Tryz.prog 108 #[.agg #[.int .u64 a,.int .u64 b,.int .u64 c,.int .u64 f],.agg #[.int .u64 a',.int .u64 b',.int .u64 c',.int .u64 f']] w (Ret w (.int .i64 (cmpW n m))):=by
 obtain ⟨A0,A1,A2,A3,rfl,rfl,rfl,rfl,ha0,ha1,ha2,ha3,hn⟩:=h.nats;obtain ⟨B0,B1,B2,B3,rfl,rfl,rfl,rfl,hb0,hb1,hb2,hb3,hm⟩:=h'.nats;obtain ⟨cv,hcv⟩:=nm (cmpW n m);rw [← hcv];have HN:Hid ((n < m→cv = -1)∧(m < n→cv=1)∧(n=m→cv=0)):=hh (by
  rw [hcv];unfold cmpW;refine ⟨fun h=>if_pos h,fun h=>by rw [if_neg (by omega),if_pos h],fun h=>by rw [if_neg (by omega),if_neg (by omega)]⟩)
 have HA:Hid ((A0 < 18446744073709551616∧A1 < 18446744073709551616∧A2 < 18446744073709551616)∧(B0 < 18446744073709551616∧B1 < 18446744073709551616∧B2 < 18446744073709551616)∧n=A0+A1*18446744073709551616+A2*340282366920938463463374607431768211456+A3*6277101735386680763835789423207666416102355444464034512896∧m=B0+B1*18446744073709551616+B2*340282366920938463463374607431768211456+B3*6277101735386680763835789423207666416102355444464034512896):=hh ⟨⟨ha0,ha1,ha2⟩,⟨hb0,hb1,hb2⟩,hn,hm⟩;clear h h' ha0 ha1 ha2 ha3 hn hb0 hb1 hb2 hb3 hm hcv
 go_enter Tryz.func108,Tryz.ntmps108
 go_upto_region 1 with fail
 obtain ⟨w1,hw1⟩:=nm ((w.alloc (.cells #[.int .u64 (A0:Int),.int .u64 (A1:Int),.int .u64 (A2:Int),.int .u64 (A3:Int)] 25)).alloc (.cells #[.int .u64 (B0:Int),.int .u64 (B1:Int),.int .u64 (B2:Int),.int .u64 (B3:Int)] 25));obtain ⟨X,hX⟩:=nm (w.heap.size);obtain ⟨Y,hY⟩:=nm (w.heap.size+1);rw [← hw1,← hY,← hX];have hbx:=box2 w _ _ _ _ w1 hw1;rw [← hY,← hX] at hbx;have HX:=hh hbx.1;have HY:=hh hbx.2.1;have HB:Hid (Below w.heap.size w w1):=hh (by rw [← hX];exact hbx.2.2.1);clear hbx hw1 hX hY;go_wp2_with fail
 go_loopw [5] (fun vi wr=>∃ t:Nat,vi = .int .i64 ((t:Int) - 1)∧t≤4∧Hid ((t≤3→A3=B3)∧(t≤2→A2=B2)∧(t≤1→A1=B1)∧(t≤0→A0=B0))∧Hid (wr.heap[X]? = some (.cells #[.int .u64 (A0:Int),.int .u64 (A1:Int),.int .u64 (A2:Int),.int .u64 (A3:Int)] 25 (0,0)))∧Hid (wr.heap[Y]? = some (.cells #[.int .u64 (B0:Int),.int .u64 (B1:Int),.int .u64 (B2:Int),.int .u64 (B3:Int)] 25 (0,0)))∧Hid (Below w.heap.size w wr)) (fun vi _=>(intOf vi+1).toNat)
 case atStart=>exact ⟨4,rfl,by omega,hh ⟨fun h=>by omega,fun h=>by omega,fun h=>by omega,fun h=>by omega⟩,HX,HY,HB⟩
 case round=>
  clear HX HY HB;obtain ⟨t,rfl,ht4,HE,HX,HY,HB⟩:=hrel
  rcases (show t=0∨t=1∨t=2∨t=3∨t=4 by omega) with rfl | rfl | rfl | rfl | rfl
  ·have HV:Hid (cv=0):=hh (HN.out.2.2 (by have:=HE.out;have:=HA.out;have e3:=HE.out.1 (by omega);have e2:=HE.out.2.1 (by omega);have e1:=HE.out.2.2.1 (by omega);have e0:=HE.out.2.2.2 (by omega);omega));go_wp2_with fail
   go_ret
   rw [HV.out];exact ⟨rfl,HB.out⟩
  ·have c0:¬ ((1:Int) - 1 < 0):=by decide
   by_cases h1:A0 < B0
   ·have q1:decide (A0 < B0)=true:=decide_eq_true h1;have HV:Hid (cv = -1):=hh (HN.out.1 (by have:=HA.out;have e3:=HE.out.1 (by omega);have e2:=HE.out.2.1 (by omega);have e1:=HE.out.2.2.1 (by omega);omega));go_wp2_with fail;obtain ⟨d1,hwz,hbz⟩:=dr wr;replace HB:=bT HB hbz;replace HX:=bA hbz HX;replace HY:=bA hbz HY;clear hbz;refine rg2 8 8 hwz HX HY fun hS=>?_
    clear hwz;refine tA1 0 11 hS ?_;go_frame;refine tA1 1 12 hS ?_;go_frame;refine tk 2 (some 13) rfl rfl (.inl ⟨by rfl,fun w' hS'=>(by have hc:w'.cell? ⟨X,0,none⟩=some (.int .u64 (A0:Int)):=Lib.cell_of_heap (hS'.1) 0;go_simp;rfl)⟩) hS ?_;go_frame;refine tA1 3 14 hS ?_;go_frame;refine tA1 4 15 hS ?_;go_frame;refine tk 5 (some 16) rfl rfl (.inl ⟨by rfl,fun w' hS'=>(by have hc:w'.cell? ⟨Y,0,none⟩=some (.int .u64 (B0:Int)):=Lib.cell_of_heap (hS'.2) 0;go_simp;rfl)⟩) hS ?_;go_frame;refine tA1 6 17 hS ?_;go_frame;refine tA1 7 10 hS ?_;go_frame;refine tD ?_;clear hS;go_wp2_with fail
    go_ret
    rw [HV.out];exact ⟨rfl,HB.out⟩
   ·have q1:decide (A0 < B0)=false:=decide_eq_false h1;go_wp2_with fail;obtain ⟨d1,hwz,hbz⟩:=dr wr;replace HB:=bT HB hbz;replace HX:=bA hbz HX;replace HY:=bA hbz HY;clear hbz;refine rg2 8 8 hwz HX HY fun hS=>?_
    clear hwz;refine tA1 0 11 hS ?_;go_frame;refine tA1 1 12 hS ?_;go_frame;refine tk 2 (some 13) rfl rfl (.inl ⟨by rfl,fun w' hS'=>(by have hc:w'.cell? ⟨X,0,none⟩=some (.int .u64 (A0:Int)):=Lib.cell_of_heap (hS'.1) 0;go_simp;rfl)⟩) hS ?_;go_frame;refine tA1 3 14 hS ?_;go_frame;refine tA1 4 15 hS ?_;go_frame;refine tk 5 (some 16) rfl rfl (.inl ⟨by rfl,fun w' hS'=>(by have hc:w'.cell? ⟨Y,0,none⟩=some (.int .u64 (B0:Int)):=Lib.cell_of_heap (hS'.2) 0;go_simp;rfl)⟩) hS ?_;go_frame;refine tA1 6 17 hS ?_;go_frame;refine tA1 7 10 hS ?_;go_frame;refine tD ?_;clear hS;go_wp2_with fail
    by_cases h2:B0 < A0
    ·have q2:decide (B0 < A0)=true:=decide_eq_true h2;have HV:Hid (cv=1):=hh (HN.out.2.1 (by have:=HA.out;have e3:=HE.out.1 (by omega);have e2:=HE.out.2.1 (by omega);have e1:=HE.out.2.2.1 (by omega);omega));obtain ⟨d2,hwz,hbz⟩:=dr d1;replace HB:=bT HB hbz;replace HX:=bA hbz HX;replace HY:=bA hbz HY;clear hbz;refine rg2 8 8 hwz HX HY fun hS=>?_
     clear hwz;refine tA1 0 19 hS ?_;go_frame;refine tA1 1 20 hS ?_;go_frame;refine tk 2 (some 21) rfl rfl (.inl ⟨by rfl,fun w' hS'=>(by have hc:w'.cell? ⟨X,0,none⟩=some (.int .u64 (A0:Int)):=Lib.cell_of_heap (hS'.1) 0;go_simp;rfl)⟩) hS ?_;go_frame;refine tA1 3 22 hS ?_;go_frame;refine tA1 4 23 hS ?_;go_frame;refine tk 5 (some 24) rfl rfl (.inl ⟨by rfl,fun w' hS'=>(by have hc:w'.cell? ⟨Y,0,none⟩=some (.int .u64 (B0:Int)):=Lib.cell_of_heap (hS'.2) 0;go_simp;rfl)⟩) hS ?_;go_frame;refine tA1 6 25 hS ?_;go_frame;refine tA1 7 18 hS ?_;go_frame;refine tD ?_;clear hS;go_wp2_with fail
     go_ret
     rw [HV.out];exact ⟨rfl,HB.out⟩
    ·have q2:decide (B0 < A0)=false:=decide_eq_false h2;have HE2:Hid ((0≤3→A3=B3)∧(0≤2→A2=B2)∧(0≤1→A1=B1)∧(0≤0→A0=B0)):=hh ⟨fun h=>by first | exact HE.out.1 (by omega) | omega,fun h=>by first | exact HE.out.2.1 (by omega) | omega,fun h=>by first | exact HE.out.2.2.1 (by omega) | omega,fun h=>by first | exact HE.out.2.2.2 (by omega) | omega⟩;obtain ⟨d2,hwz,hbz⟩:=dr d1;replace HB:=bT HB hbz;replace HX:=bA hbz HX;replace HY:=bA hbz HY;clear hbz;refine rg2 8 8 hwz HX HY fun hS=>?_
     clear hwz;refine tA1 0 19 hS ?_;go_frame;refine tA1 1 20 hS ?_;go_frame;refine tk 2 (some 21) rfl rfl (.inl ⟨by rfl,fun w' hS'=>(by have hc:w'.cell? ⟨X,0,none⟩=some (.int .u64 (A0:Int)):=Lib.cell_of_heap (hS'.1) 0;go_simp;rfl)⟩) hS ?_;go_frame;refine tA1 3 22 hS ?_;go_frame;refine tA1 4 23 hS ?_;go_frame;refine tk 5 (some 24) rfl rfl (.inl ⟨by rfl,fun w' hS'=>(by have hc:w'.cell? ⟨Y,0,none⟩=some (.int .u64 (B0:Int)):=Lib.cell_of_heap (hS'.2) 0;go_simp;rfl)⟩) hS ?_;go_frame;refine tA1 6 25 hS ?_;go_frame;refine tA1 7 18 hS ?_;go_frame;refine tD ?_;clear hS;go_wp2_with fail
     go_roundw
     case rel=>exact ⟨0,by first | rfl | trivial,by omega,HE2,HX,HY,HB⟩
     case measure=>simp [intOf]
  ·have c0:¬ ((2:Int) - 1 < 0):=by decide
   by_cases h1:A1 < B1
   ·have q1:decide (A1 < B1)=true:=decide_eq_true h1;have HV:Hid (cv = -1):=hh (HN.out.1 (by have:=HA.out;have e3:=HE.out.1 (by omega);have e2:=HE.out.2.1 (by omega);omega));go_wp2_with fail;obtain ⟨d1,hwz,hbz⟩:=dr wr;replace HB:=bT HB hbz;replace HX:=bA hbz HX;replace HY:=bA hbz HY;clear hbz;refine rg2 8 8 hwz HX HY fun hS=>?_
    clear hwz;refine tA1 0 11 hS ?_;go_frame;refine tA1 1 12 hS ?_;go_frame;refine tk 2 (some 13) rfl rfl (.inl ⟨by rfl,fun w' hS'=>(by have hc:w'.cell? ⟨X,1,none⟩=some (.int .u64 (A1:Int)):=Lib.cell_of_heap (hS'.1) 1;go_simp;rfl)⟩) hS ?_;go_frame;refine tA1 3 14 hS ?_;go_frame;refine tA1 4 15 hS ?_;go_frame;refine tk 5 (some 16) rfl rfl (.inl ⟨by rfl,fun w' hS'=>(by have hc:w'.cell? ⟨Y,1,none⟩=some (.int .u64 (B1:Int)):=Lib.cell_of_heap (hS'.2) 1;go_simp;rfl)⟩) hS ?_;go_frame;refine tA1 6 17 hS ?_;go_frame;refine tA1 7 10 hS ?_;go_frame;refine tD ?_;clear hS;go_wp2_with fail
    go_ret
    rw [HV.out];exact ⟨rfl,HB.out⟩
   ·have q1:decide (A1 < B1)=false:=decide_eq_false h1;go_wp2_with fail;obtain ⟨d1,hwz,hbz⟩:=dr wr;replace HB:=bT HB hbz;replace HX:=bA hbz HX;replace HY:=bA hbz HY;clear hbz;refine rg2 8 8 hwz HX HY fun hS=>?_
    clear hwz;refine tA1 0 11 hS ?_;go_frame;refine tA1 1 12 hS ?_;go_frame;refine tk 2 (some 13) rfl rfl (.inl ⟨by rfl,fun w' hS'=>(by have hc:w'.cell? ⟨X,1,none⟩=some (.int .u64 (A1:Int)):=Lib.cell_of_heap (hS'.1) 1;go_simp;rfl)⟩) hS ?_;go_frame;refine tA1 3 14 hS ?_;go_frame;refine tA1 4 15 hS ?_;go_frame;refine tk 5 (some 16) rfl rfl (.inl ⟨by rfl,fun w' hS'=>(by have hc:w'.cell? ⟨Y,1,none⟩=some (.int .u64 (B1:Int)):=Lib.cell_of_heap (hS'.2) 1;go_simp;rfl)⟩) hS ?_;go_frame;refine tA1 6 17 hS ?_;go_frame;refine tA1 7 10 hS ?_;go_frame;refine tD ?_;clear hS;go_wp2_with fail
    by_cases h2:B1 < A1
    ·have q2:decide (B1 < A1)=true:=decide_eq_true h2;have HV:Hid (cv=1):=hh (HN.out.2.1 (by have:=HA.out;have e3:=HE.out.1 (by omega);have e2:=HE.out.2.1 (by omega);omega));obtain ⟨d2,hwz,hbz⟩:=dr d1;replace HB:=bT HB hbz;replace HX:=bA hbz HX;replace HY:=bA hbz HY;clear hbz;refine rg2 8 8 hwz HX HY fun hS=>?_
     clear hwz;refine tA1 0 19 hS ?_;go_frame;refine tA1 1 20 hS ?_;go_frame;refine tk 2 (some 21) rfl rfl (.inl ⟨by rfl,fun w' hS'=>(by have hc:w'.cell? ⟨X,1,none⟩=some (.int .u64 (A1:Int)):=Lib.cell_of_heap (hS'.1) 1;go_simp;rfl)⟩) hS ?_;go_frame;refine tA1 3 22 hS ?_;go_frame;refine tA1 4 23 hS ?_;go_frame;refine tk 5 (some 24) rfl rfl (.inl ⟨by rfl,fun w' hS'=>(by have hc:w'.cell? ⟨Y,1,none⟩=some (.int .u64 (B1:Int)):=Lib.cell_of_heap (hS'.2) 1;go_simp;rfl)⟩) hS ?_;go_frame;refine tA1 6 25 hS ?_;go_frame;refine tA1 7 18 hS ?_;go_frame;refine tD ?_;clear hS;go_wp2_with fail
     go_ret
     rw [HV.out];exact ⟨rfl,HB.out⟩
    ·have q2:decide (B1 < A1)=false:=decide_eq_false h2;have HE2:Hid ((1≤3→A3=B3)∧(1≤2→A2=B2)∧(1≤1→A1=B1)∧(1≤0→A0=B0)):=hh ⟨fun h=>by first | exact HE.out.1 (by omega) | omega,fun h=>by first | exact HE.out.2.1 (by omega) | omega,fun h=>by first | exact HE.out.2.2.1 (by omega) | omega,fun h=>by first | exact HE.out.2.2.2 (by omega) | omega⟩;obtain ⟨d2,hwz,hbz⟩:=dr d1;replace HB:=bT HB hbz;replace HX:=bA hbz HX;replace HY:=bA hbz HY;clear hbz;refine rg2 8 8 hwz HX HY fun hS=>?_
     clear hwz;refine tA1 0 19 hS ?_;go_frame;refine tA1 1 20 hS ?_;go_frame;refine tk 2 (some 21) rfl rfl (.inl ⟨by rfl,fun w' hS'=>(by have hc:w'.cell? ⟨X,1,none⟩=some (.int .u64 (A1:Int)):=Lib.cell_of_heap (hS'.1) 1;go_simp;rfl)⟩) hS ?_;go_frame;refine tA1 3 22 hS ?_;go_frame;refine tA1 4 23 hS ?_;go_frame;refine tk 5 (some 24) rfl rfl (.inl ⟨by rfl,fun w' hS'=>(by have hc:w'.cell? ⟨Y,1,none⟩=some (.int .u64 (B1:Int)):=Lib.cell_of_heap (hS'.2) 1;go_simp;rfl)⟩) hS ?_;go_frame;refine tA1 6 25 hS ?_;go_frame;refine tA1 7 18 hS ?_;go_frame;refine tD ?_;clear hS;go_wp2_with fail
     go_roundw
     case rel=>exact ⟨1,by first | rfl | trivial,by omega,HE2,HX,HY,HB⟩
     case measure=>simp [intOf]
  ·have c0:¬ ((3:Int) - 1 < 0):=by decide
   by_cases h1:A2 < B2
   ·have q1:decide (A2 < B2)=true:=decide_eq_true h1;have HV:Hid (cv = -1):=hh (HN.out.1 (by have:=HA.out;have e3:=HE.out.1 (by omega);omega));go_wp2_with fail;obtain ⟨d1,hwz,hbz⟩:=dr wr;replace HB:=bT HB hbz;replace HX:=bA hbz HX;replace HY:=bA hbz HY;clear hbz;refine rg2 8 8 hwz HX HY fun hS=>?_
    clear hwz;refine tA1 0 11 hS ?_;go_frame;refine tA1 1 12 hS ?_;go_frame;refine tk 2 (some 13) rfl rfl (.inl ⟨by rfl,fun w' hS'=>(by have hc:w'.cell? ⟨X,2,none⟩=some (.int .u64 (A2:Int)):=Lib.cell_of_heap (hS'.1) 2;go_simp;rfl)⟩) hS ?_;go_frame;refine tA1 3 14 hS ?_;go_frame;refine tA1 4 15 hS ?_;go_frame;refine tk 5 (some 16) rfl rfl (.inl ⟨by rfl,fun w' hS'=>(by have hc:w'.cell? ⟨Y,2,none⟩=some (.int .u64 (B2:Int)):=Lib.cell_of_heap (hS'.2) 2;go_simp;rfl)⟩) hS ?_;go_frame;refine tA1 6 17 hS ?_;go_frame;refine tA1 7 10 hS ?_;go_frame;refine tD ?_;clear hS;go_wp2_with fail
    go_ret
    rw [HV.out];exact ⟨rfl,HB.out⟩
   ·have q1:decide (A2 < B2)=false:=decide_eq_false h1;go_wp2_with fail;obtain ⟨d1,hwz,hbz⟩:=dr wr;replace HB:=bT HB hbz;replace HX:=bA hbz HX;replace HY:=bA hbz HY;clear hbz;refine rg2 8 8 hwz HX HY fun hS=>?_
    clear hwz;refine tA1 0 11 hS ?_;go_frame;refine tA1 1 12 hS ?_;go_frame;refine tk 2 (some 13) rfl rfl (.inl ⟨by rfl,fun w' hS'=>(by have hc:w'.cell? ⟨X,2,none⟩=some (.int .u64 (A2:Int)):=Lib.cell_of_heap (hS'.1) 2;go_simp;rfl)⟩) hS ?_;go_frame;refine tA1 3 14 hS ?_;go_frame;refine tA1 4 15 hS ?_;go_frame;refine tk 5 (some 16) rfl rfl (.inl ⟨by rfl,fun w' hS'=>(by have hc:w'.cell? ⟨Y,2,none⟩=some (.int .u64 (B2:Int)):=Lib.cell_of_heap (hS'.2) 2;go_simp;rfl)⟩) hS ?_;go_frame;refine tA1 6 17 hS ?_;go_frame;refine tA1 7 10 hS ?_;go_frame;refine tD ?_;clear hS;go_wp2_with fail
    by_cases h2:B2 < A2
    ·have q2:decide (B2 < A2)=true:=decide_eq_true h2;have HV:Hid (cv=1):=hh (HN.out.2.1 (by have:=HA.out;have e3:=HE.out.1 (by omega);omega));obtain ⟨d2,hwz,hbz⟩:=dr d1;replace HB:=bT HB hbz;replace HX:=bA hbz HX;replace HY:=bA hbz HY;clear hbz;refine rg2 8 8 hwz HX HY fun hS=>?_
     clear hwz;refine tA1 0 19 hS ?_;go_frame;refine tA1 1 20 hS ?_;go_frame;refine tk 2 (some 21) rfl rfl (.inl ⟨by rfl,fun w' hS'=>(by have hc:w'.cell? ⟨X,2,none⟩=some (.int .u64 (A2:Int)):=Lib.cell_of_heap (hS'.1) 2;go_simp;rfl)⟩) hS ?_;go_frame;refine tA1 3 22 hS ?_;go_frame;refine tA1 4 23 hS ?_;go_frame;refine tk 5 (some 24) rfl rfl (.inl ⟨by rfl,fun w' hS'=>(by have hc:w'.cell? ⟨Y,2,none⟩=some (.int .u64 (B2:Int)):=Lib.cell_of_heap (hS'.2) 2;go_simp;rfl)⟩) hS ?_;go_frame;refine tA1 6 25 hS ?_;go_frame;refine tA1 7 18 hS ?_;go_frame;refine tD ?_;clear hS;go_wp2_with fail
     go_ret
     rw [HV.out];exact ⟨rfl,HB.out⟩
    ·have q2:decide (B2 < A2)=false:=decide_eq_false h2;have HE2:Hid ((2≤3→A3=B3)∧(2≤2→A2=B2)∧(2≤1→A1=B1)∧(2≤0→A0=B0)):=hh ⟨fun h=>by first | exact HE.out.1 (by omega) | omega,fun h=>by first | exact HE.out.2.1 (by omega) | omega,fun h=>by first | exact HE.out.2.2.1 (by omega) | omega,fun h=>by first | exact HE.out.2.2.2 (by omega) | omega⟩;obtain ⟨d2,hwz,hbz⟩:=dr d1;replace HB:=bT HB hbz;replace HX:=bA hbz HX;replace HY:=bA hbz HY;clear hbz;refine rg2 8 8 hwz HX HY fun hS=>?_
     clear hwz;refine tA1 0 19 hS ?_;go_frame;refine tA1 1 20 hS ?_;go_frame;refine tk 2 (some 21) rfl rfl (.inl ⟨by rfl,fun w' hS'=>(by have hc:w'.cell? ⟨X,2,none⟩=some (.int .u64 (A2:Int)):=Lib.cell_of_heap (hS'.1) 2;go_simp;rfl)⟩) hS ?_;go_frame;refine tA1 3 22 hS ?_;go_frame;refine tA1 4 23 hS ?_;go_frame;refine tk 5 (some 24) rfl rfl (.inl ⟨by rfl,fun w' hS'=>(by have hc:w'.cell? ⟨Y,2,none⟩=some (.int .u64 (B2:Int)):=Lib.cell_of_heap (hS'.2) 2;go_simp;rfl)⟩) hS ?_;go_frame;refine tA1 6 25 hS ?_;go_frame;refine tA1 7 18 hS ?_;go_frame;refine tD ?_;clear hS;go_wp2_with fail
     go_roundw
     case rel=>exact ⟨2,by first | rfl | trivial,by omega,HE2,HX,HY,HB⟩
     case measure=>simp [intOf]
  ·have c0:¬ ((4:Int) - 1 < 0):=by decide
   by_cases h1:A3 < B3
   ·have q1:decide (A3 < B3)=true:=decide_eq_true h1;have HV:Hid (cv = -1):=hh (HN.out.1 (by have:=HA.out;omega));go_wp2_with fail;obtain ⟨d1,hwz,hbz⟩:=dr wr;replace HB:=bT HB hbz;replace HX:=bA hbz HX;replace HY:=bA hbz HY;clear hbz;refine rg2 8 8 hwz HX HY fun hS=>?_
    clear hwz;refine tA1 0 11 hS ?_;go_frame;refine tA1 1 12 hS ?_;go_frame;refine tk 2 (some 13) rfl rfl (.inl ⟨by rfl,fun w' hS'=>(by have hc:w'.cell? ⟨X,3,none⟩=some (.int .u64 (A3:Int)):=Lib.cell_of_heap (hS'.1) 3;go_simp;rfl)⟩) hS ?_;go_frame;refine tA1 3 14 hS ?_;go_frame;refine tA1 4 15 hS ?_;go_frame;refine tk 5 (some 16) rfl rfl (.inl ⟨by rfl,fun w' hS'=>(by have hc:w'.cell? ⟨Y,3,none⟩=some (.int .u64 (B3:Int)):=Lib.cell_of_heap (hS'.2) 3;go_simp;rfl)⟩) hS ?_;go_frame;refine tA1 6 17 hS ?_;go_frame;refine tA1 7 10 hS ?_;go_frame;refine tD ?_;clear hS;go_wp2_with fail
    go_ret
    rw [HV.out];exact ⟨rfl,HB.out⟩
   ·have q1:decide (A3 < B3)=false:=decide_eq_false h1;go_wp2_with fail;obtain ⟨d1,hwz,hbz⟩:=dr wr;replace HB:=bT HB hbz;replace HX:=bA hbz HX;replace HY:=bA hbz HY;clear hbz;refine rg2 8 8 hwz HX HY fun hS=>?_
    clear hwz;refine tA1 0 11 hS ?_;go_frame;refine tA1 1 12 hS ?_;go_frame;refine tk 2 (some 13) rfl rfl (.inl ⟨by rfl,fun w' hS'=>(by have hc:w'.cell? ⟨X,3,none⟩=some (.int .u64 (A3:Int)):=Lib.cell_of_heap (hS'.1) 3;go_simp;rfl)⟩) hS ?_;go_frame;refine tA1 3 14 hS ?_;go_frame;refine tA1 4 15 hS ?_;go_frame;refine tk 5 (some 16) rfl rfl (.inl ⟨by rfl,fun w' hS'=>(by have hc:w'.cell? ⟨Y,3,none⟩=some (.int .u64 (B3:Int)):=Lib.cell_of_heap (hS'.2) 3;go_simp;rfl)⟩) hS ?_;go_frame;refine tA1 6 17 hS ?_;go_frame;refine tA1 7 10 hS ?_;go_frame;refine tD ?_;clear hS;go_wp2_with fail
    by_cases h2:B3 < A3
    ·have q2:decide (B3 < A3)=true:=decide_eq_true h2;have HV:Hid (cv=1):=hh (HN.out.2.1 (by have:=HA.out;omega));obtain ⟨d2,hwz,hbz⟩:=dr d1;replace HB:=bT HB hbz;replace HX:=bA hbz HX;replace HY:=bA hbz HY;clear hbz;refine rg2 8 8 hwz HX HY fun hS=>?_
     clear hwz;refine tA1 0 19 hS ?_;go_frame;refine tA1 1 20 hS ?_;go_frame;refine tk 2 (some 21) rfl rfl (.inl ⟨by rfl,fun w' hS'=>(by have hc:w'.cell? ⟨X,3,none⟩=some (.int .u64 (A3:Int)):=Lib.cell_of_heap (hS'.1) 3;go_simp;rfl)⟩) hS ?_;go_frame;refine tA1 3 22 hS ?_;go_frame;refine tA1 4 23 hS ?_;go_frame;refine tk 5 (some 24) rfl rfl (.inl ⟨by rfl,fun w' hS'=>(by have hc:w'.cell? ⟨Y,3,none⟩=some (.int .u64 (B3:Int)):=Lib.cell_of_heap (hS'.2) 3;go_simp;rfl)⟩) hS ?_;go_frame;refine tA1 6 25 hS ?_;go_frame;refine tA1 7 18 hS ?_;go_frame;refine tD ?_;clear hS;go_wp2_with fail
     go_ret
     rw [HV.out];exact ⟨rfl,HB.out⟩
    ·have q2:decide (B3 < A3)=false:=decide_eq_false h2;have HE2:Hid ((3≤3→A3=B3)∧(3≤2→A2=B2)∧(3≤1→A1=B1)∧(3≤0→A0=B0)):=hh ⟨fun h=>by first | exact HE.out.1 (by omega) | omega,fun h=>by first | exact HE.out.2.1 (by omega) | omega,fun h=>by first | exact HE.out.2.2.1 (by omega) | omega,fun h=>by first | exact HE.out.2.2.2 (by omega) | omega⟩;obtain ⟨d2,hwz,hbz⟩:=dr d1;replace HB:=bT HB hbz;replace HX:=bA hbz HX;replace HY:=bA hbz HY;clear hbz;refine rg2 8 8 hwz HX HY fun hS=>?_
     clear hwz;refine tA1 0 19 hS ?_;go_frame;refine tA1 1 20 hS ?_;go_frame;refine tk 2 (some 21) rfl rfl (.inl ⟨by rfl,fun w' hS'=>(by have hc:w'.cell? ⟨X,3,none⟩=some (.int .u64 (A3:Int)):=Lib.cell_of_heap (hS'.1) 3;go_simp;rfl)⟩) hS ?_;go_frame;refine tA1 3 22 hS ?_;go_frame;refine tA1 4 23 hS ?_;go_frame;refine tk 5 (some 24) rfl rfl (.inl ⟨by rfl,fun w' hS'=>(by have hc:w'.cell? ⟨Y,3,none⟩=some (.int .u64 (B3:Int)):=Lib.cell_of_heap (hS'.2) 3;go_simp;rfl)⟩) hS ?_;go_frame;refine tA1 6 25 hS ?_;go_frame;refine tA1 7 18 hS ?_;go_frame;refine tD ?_;clear hS;go_wp2_with fail
     go_roundw
     case rel=>exact ⟨3,by first | rfl | trivial,by omega,HE2,HX,HY,HB⟩
     case measure=>simp [intOf]
end
section
open Go.RowKit

theorem g0h {fn:Func} {p q u:Tmp} {ty:TypeId} (h:fn.results=#[.cell p ty,.cell q ty,.tmp u]) (tmps:Array Value) (P:Program) (w:World) :
  (results fn tmps).run P w =
   ((asAddr (tmps.getD p undef)).run P w).andThen fun a w₁=>((loadVar ty a).run P w₁).andThen fun v w₂=>((asAddr (tmps.getD q undef)).run P w₂).andThen fun a' w₃=>((loadVar ty a').run P w₃).andThen fun v' w₄=>.ok (.tuple #[v,v',tmps.getD u undef]) w₄:=by
 simp only [results,h]
 simp [Sem.run_bind,Result.andThen]
theorem b0L {P:Program} {fn:Func} {p q u:Tmp} {ty:TypeId} (h:fn.results=#[.cell p ty,.cell q ty,.tmp u]) (tmps:Array Value) (w:World) (g g':Nat) (t t':TypeId) (cs cs':Array Value) (fr fr':Nat × Nat) (d:TypeDesc)
  (hp:tmps.getD p undef = .pointer (some ⟨g,0,none⟩)) (hg:w.heap[g]? = some (.cells cs t fr)) (hp':tmps.getD q undef = .pointer (some ⟨g',0,none⟩)) (hg':w.heap[g']? = some (.cells cs' t' fr'))
  (hu:P.underlying ty=some d) (hd:(match d with | .struct _ | .array _ _=>true | _=>false)=true) (hi:(P.info? ty).map (·.size)=some cs.size) (hi':(P.info? ty).map (·.size)=some cs'.size) (v:Value) (hv:tmps.getD u undef=v) :
  (results fn tmps).run P w = .ok (.tuple #[.agg cs,.agg cs',v]) w:=by
 subst hv;rw [g0h h,hp,hp'];have h1:=run_loadVar_row (P:=P) w g t ty cs fr d hg hu hd hi;have h2:=run_loadVar_row (P:=P) w g' t' ty cs' fr' d hg' hu hd hi'
 simp [asAddr,h1,h2,Result.andThen]

theorem m0P {d:Nat} (hd:d < 4294967296):UIs (d:Int) 0 0 0 d:=by unfold UIs;omega
def DivRet (w:World) (n d:Nat) (e:Ending) (w':World):Prop:=∃ q0 q1 q2 q3 r0 r1 r2 r3:Int,UIs q0 q1 q2 q3 (n / d)∧UIs r0 r1 r2 r3 (n % d)∧e = .returned (.tuple #[.agg #[.int .u64 q0,.int .u64 q1,.int .u64 q2,.int .u64 q3],.agg #[.int .u64 r0,.int .u64 r1,.int .u64 r2,.int .u64 r3],.bool true])∧Below w.heap.size w w'

theorem l0L {a b c f:Int} {n d:Nat} (h:UIs a b c f n) (hd0:0 < d) (hd:d < 4294967296) (w:World) :
  Calls Tryz.prog 176 #[.agg #[.int .u64 a,.int .u64 b,.int .u64 c,.int .u64 f],.agg #[.int .u64 (d:Int),.int .u64 0,.int .u64 0,.int .u64 0]] w (DivRet w n d):=by
 have HU:=hh h;have HD:=hh (And.intro hd0 hd);have HUD:=hh (m0P hd);have e0:=Tryz.eqUn HUD.out UIs.zero;rw [decide_eq_false (by omega)] at e0;have e1:=Tryz.eqUn HUD.out HUD.out;rw [decide_eq_true rfl] at e1;clear h hd0 hd
 go_enter Tryz.func176,Tryz.ntmps176
 go_wp2_with (refine sA _ Tryz.zeroUz ?_)
 obtain ⟨w1,hw1⟩:=nm ((w.alloc (.cells #[.int .u64 a,.int .u64 b,.int .u64 c,.int .u64 f] 25)).alloc (.cells #[.int .u64 (d:Int),.int .u64 0,.int .u64 0,.int .u64 0] 25));obtain ⟨X,hX⟩:=nm (w.heap.size);obtain ⟨Y,hY⟩:=nm (w.heap.size+1);rw [← hw1,← hY,← hX];have hbx:=box2 w _ _ _ _ w1 hw1;rw [← hY,← hX] at hbx;have HX:=hh hbx.1;have HY:=hh hbx.2.1;have HB:Hid (Below w.heap.size w w1):=hh (by rw [← hX];exact hbx.2.2.1);clear hbx hw1 hX hY;intro P w2 hP';have WP:=mGe hP' HB.out.size;have NXP:=mNe hP' HX;have NYP:=mNe hP' HY;have HP:=hh hP'.out.cells;have hb:=hP'.out.below;clear hP';replace HB:=bT HB hb;replace HX:=bA hb HX;replace HY:=bA hb HY;clear hb
 go_wp2_with (refine sA _ Tryz.zeroUz ?_)
 intro R a1 hR;have WR:=mGe hR HB.out.size;have NXR:=mNe hR HX;have NYR:=mNe hR HY;have NPR:=mNe hR HP;have HR:=hh hR.out.cells;have hbR:=hR.out.below;clear hR;replace HB:=bT HB hbR;replace HX:=bA hbR HX;replace HY:=bA hbR HY;replace HP:=bA hbR HP;clear hbR
 go_wp2_with (first
  | (refine lR HY Tryz.underlying25 Tryz.sizeU ?_)
  | (refine lR HX Tryz.underlying25 Tryz.sizeU ?_))
 obtain ⟨cv,hcv⟩:=nm (cmpW n d);have HCV:=hh hcv;refine (c0w HU.out HUD.out _).mono ?_;rw [← hcv];clear hcv;rintro e a2 ⟨rfl,hb⟩;replace HB:=bT HB hb;replace HX:=bA hb HX;replace HY:=bA hb HY;replace HP:=bA hb HP;replace HR:=bA hb HR;clear hb
 by_cases hlt:cv < 0
 ·have HLT:Hid (n < d):=hh ((c0g n d).1 (by rw [← HCV.out];exact hlt));have hl2:decide (cv < 0)=true:=decide_eq_true hlt;go_wp2_with fail;obtain ⟨a3,hwz,hbz⟩:=dr a2;replace HB:=bT HB hbz;replace HX:=bA hbz HX;replace HP:=bA hbz HP;replace HR:=bA hbz HR;clear hbz;refine rg1 5 5 hwz HX fun hS=>?_
  clear hwz;refine tA1 0 26 hS ?_;go_frame;refine tl 1 (some 27) (fun _ h=>h) Tryz.underlying25 Tryz.sizeU hS ?_;go_frame;refine t1 2 fun K hK=>?_
  simp only [gA,jB,gC];refine b0v (t:=25) (old:=u0) 25 _ _ rfl P u0 rfl rfl HP.out Tryz.sizeU rfl (a0j _ _ _ _) ?_;intro a4 hxP kP zP;clear zP;replace HB:=bS HB kP WP;replace HX:=ka1 kP HX NXP;replace HR:=kb1 kP HR NPR;replace HP:=hh hxP;clear hxP kP;replace hS:=HX.out;refine hK _ _ (fun _ _=>hS) ?_;clear hK;refine t1 3 fun K hK=>?_
  simp only [gA,jB,gC];refine wR1 25 #[.int .u64 a,.int .u64 b,.int .u64 c,.int .u64 f] HR Tryz.sizeU ?_;intro a5 hxR kR zR;clear zR;replace HB:=bS HB kR WR;replace HX:=ka1 kR HX NXR;replace HP:=ka1 kR HP NPR;replace HR:=hh hxR;clear hxR kR;replace hS:=HX.out;refine hK _ _ (fun _ _=>hS) ?_;clear hK;refine tA1 4 6 hS ?_;go_frame;refine tD ?_;clear hS;go_wp2_with fail
  exact bodyPost_ret (b0L rfl _ _ P R _ _ u0 _ _ _ _ rfl HP.out rfl HR.out Tryz.underlying25 rfl Tryz.sizeU Tryz.sizeU _ rfl) rfl ⟨0,0,0,0,_,_,_,_,by rw [Nat.div_eq_of_lt HLT.out];exact UIs.zero,by rw [Nat.mod_eq_of_lt HLT.out];exact HU.out,rfl,HB.out⟩
 ·have hl2:decide (cv < 0)=false:=decide_eq_false hlt;have hdl:((d:Int)≤4294967295):=by have:=HD.out;omega
  have hdl2:decide ((d:Int)≤4294967295)=true:=decide_eq_true hdl;have c0:a2.cell? ⟨Y,0,none⟩=some (.int .u64 (d:Int)):=Lib.cell_of_heap HY.out 0
  go_wp2_with (first
   | (refine lR HY Tryz.underlying25 Tryz.sizeU ?_)
   | (refine lR HX Tryz.underlying25 Tryz.sizeU ?_))
  clear c0 e0 e1 hdl hdl2;refine (l0q HU.out HD.out.1 HD.out.2 _).mono ?_;rintro e a3 ⟨qa,qb,qc,qd,hq,rfl,hb⟩;have HQU:=hh hq;clear hq;replace HB:=bT HB hb;replace HX:=bA hb HX;replace HY:=bA hb HY;replace HP:=bA hb HP;replace HR:=bA hb HR;clear hb;obtain ⟨rv,hrv⟩:=nm (n % d);rw [← hrv];have HRV:=hh hrv;clear hrv
  go_wp2_with (refine sA _ Tryz.zeroUz ?_)
  intro Q a4 hQ
  go_wp2_with (refine a0a (t:=25) (old:=u0) rfl 25 _ _ rfl Q #[.int .u64 qa,.int .u64 qb,.int .u64 qc,.int .u64 qd] rfl rfl hQ.out.cells Tryz.sizeU rfl (a0j _ _ _ _) ?_)
  intro a5 hxQ kQ zQ;clear zQ;have hbQ:Below a3.heap.size a3 a5:=hQ.out.below.trans (kQ.below (B:=a3.heap.size) (fun x hx e=>by have:=hQ.out.eq;omega) hQ.out.below.size);have WQ:=mGe hQ HB.out.size;have NXQ:=mNe hQ HX;have NYQ:=mNe hQ HY;have NPQ:=mNe hQ HP;have NRQ:=mNe hQ HR;have HQ:=hh hxQ;clear hQ hxQ kQ;replace HB:=bT HB hbQ;replace HP:=bA hbQ HP;replace HR:=bA hbQ HR;clear hbQ;go_wp2_with fail;obtain ⟨a6,hwz,hbz⟩:=dr a5;replace HB:=bT HB hbz;replace HP:=bA hbz HP;replace HR:=bA hbz HR;replace HQ:=bA hbz HQ;clear hbz;refine rg1 6 6 hwz HQ fun hS=>?_
  clear hwz;refine tl 0 (some 46) (fun _ h=>h) Tryz.underlying25 Tryz.sizeU hS ?_;go_frame;refine tA1 1 47 hS ?_;go_frame;refine t1 2 fun K hK=>?_
  simp only [gA,jB,gC];go_simp;refine (l0a (A:=rv) (by rw [HRV.out];have:=Nat.mod_lt n HD.out.1;have:=HD.out.2;omega) _).mono ?_;rintro e a7 ⟨ra,rb,rc,rd,hr,rfl,hb⟩;have HRU:=hh hr;clear hr;replace HB:=bT HB hb;replace HP:=bA hb HP;replace HR:=bA hb HR;replace HQ:=bA hb HQ;clear hb;replace hS:=HQ.out;refine hK _ _ (fun _ _=>hS) ?_;clear hK;refine t1 3 fun K hK=>?_
  simp only [gA,jB,gC];refine wR1 25 #[.int .u64 qa,.int .u64 qb,.int .u64 qc,.int .u64 qd] HP Tryz.sizeU ?_;intro a8 hxP kP zP;clear zP;replace HB:=bS HB kP WP;replace HR:=kb1 kP HR NPR;replace HQ:=kb1 kP HQ NPQ;replace HP:=hh hxP;clear hxP kP;replace hS:=HQ.out;refine hK _ _ (fun _ _=>hS) ?_;clear hK;refine t1 4 fun K hK=>?_
  simp only [gA,jB,gC];refine wR1 25 #[.int .u64 ra,.int .u64 rb,.int .u64 rc,.int .u64 rd] HR Tryz.sizeU ?_;intro a9 hxR kR zR;clear zR;replace HB:=bS HB kR WR;replace HP:=ka1 kR HP NPR;replace HQ:=kb1 kR HQ NRQ;replace HR:=hh hxR;clear hxR kR;replace hS:=HQ.out;refine hK _ _ (fun _ _=>hS) ?_;clear hK;refine tA1 5 6 hS ?_;go_frame;refine tD ?_;clear hS;go_wp2_with fail
  exact bodyPost_ret (b0L rfl _ _ P R _ _ _ _ _ _ _ rfl HP.out rfl HR.out Tryz.underlying25 rfl Tryz.sizeU Tryz.sizeU _ rfl) rfl ⟨_,_,_,_,_,_,_,_,HQU.out,by rw [← HRV.out];exact HRU.out,rfl,HB.out⟩
end
end Go.Proofs.YtabminbgoclnkaaGreat
