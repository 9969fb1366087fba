/- Plain law of chapter 32: roots in a store. No condition. Roots: one as it stands (code). -/
import Derived.Test.YtakkfabaeolbdaaGreatCnBnkJ
import Derived.Test.YtakkfabaeolbdaaGreatCn27
import Derived.Test.YtakkfabaeolbdaaGreatCn24
import Derived.Test.YtakkfabaeolbdaaGreatCn10
namespace Go.Proofs.YtakkfabaeolbdaaGreat
section
open Go.RowKit

def dgB (n:Int):Bool:=decide (0≤n) && decide (n≤1099511627776)
theorem c0y {n:Int}:dgB n=true↔0≤n∧n≤1099511627776:=by unfold dgB;simp
theorem g0Y {n:Int}:dgB n=false↔n < 0∨1099511627776 < n:=by unfold dgB;simp;omega

structure RV where
 h:Txt
 st:Int
 at_:Int
 ok:Bool
def z32:Txt:=List.replicate 32 0
def RV.none:RV:=⟨z32,0,0,false⟩
def mkR (l:List Int) (v:Txt):RV:=if l.length=2∧v.length=32 then ⟨v,l.getD 0 0,l.getD 1 0,true⟩ else RV.none
def rtF (f:Txt→Option Txt) (i:Int):RV:=mkR (rowF (valF f (keyF 37 [i]))) (valF f (keyF 38 [i]))
theorem rtF_h (f:Txt→Option Txt) (i:Int):(rtF f i).h.length=32:=by
 unfold rtF mkR
 split
 ·rename_i h;exact h.2
 ·rfl
def kC:Txt:=keyF 36 []
def cntF (f:Txt→Option Txt):Int:=getI f kC
def badR (b wt:Int):Bool:=!dgB b || !dgB wt
def postS (s:PS) (h:Txt) (b wt:Int):PS:=
 if badR b wt=true∨1000≤cntF (getP s.t) then s
 else ((s.setInt kC (nextI (cntF (getP s.t)))).setRow (keyF 37 [nextI (cntF (getP s.t)) - 1]) [1,b+wt]).set (keyF 38 [nextI (cntF (getP s.t)) - 1]) h
def postN (f:Txt→Option Txt) (b wt:Int):Int:=if badR b wt=true∨1000≤cntF f then 0 else nextI (cntF f) - 1
def postE (f:Txt→Option Txt) (b wt:Int):Int:=if badR b wt=true then 2 else if 1000≤cntF f then 7 else 0
def useE (f:Txt→Option Txt) (i b:Int):Int:=if (rtF f i).ok=false then 8 else if (rtF f i).st≠1∨b < (rtF f i).at_ then 10 else 0
def useH (f:Txt→Option Txt) (i b:Int):Txt:=if useE f i b=0 then (rtF f i).h else z32
theorem q0V (f:Txt→Option Txt) (i b:Int):(useH f i b).length=32:=by
 unfold useH;split
 ·exact rtF_h _ _
 ·rfl
theorem q0Y (s:PS) (h:Txt) (b wt:Int):(postS s h b wt).sz≤s.sz+6:=by
 unfold postS
 split
 ·omega
 ·refine Nat.le_trans (l0w _ _ _) ?_;refine Nat.le_trans (Nat.add_le_add_right (g0i _ _ _) 2) ?_;have:=g0t s kC (nextI (cntF (getP s.t)))
  omega
theorem Fit.postS {s:PS} (hf:Fit s) {h:Txt} (hhq:h.length=32) (b wt:Int):Fit (postS s h b wt):=by
 unfold Go.Proofs.YtakkfabaeolbdaaGreat.postS
 split
 ·exact hf
 ·exact ((hf.setInt _ _).setRow _ (by simp)).set _ (by omega)
def RInv (s:PS):Prop:=∀ i:Int,i < 9223372036854775808→(rtF (getP s.t) i).ok=true→i < cntF (getP s.t)
theorem kC_eq:kC = [36]:=by kernel_rfl
theorem kC_ne:kC≠[]:=by rw [kC_eq];simp
theorem g0v {s:PS} {h:Txt} {b wt n:Int} (hb:badR b wt=false) (hn:n=cntF (getP s.t)) (hf:n < 1000) (q:Txt) :
  valF (getP (postS s h b wt).t) q=if keyF 38 [n]=q then h else if keyF 37 [n]=q then [1,b+wt].flatMap numL else if kC=q then numL (n+1) else valF (getP s.t) q:=by
 have h0:=(b0d (getP s.t) kC).1;have h0':0≤n:=by rw [hn];exact h0
 have hx:nextI n=n+1:=if_pos (by omega);have hx1:n+1 - 1=n:=by omega
 unfold postS
 rw [if_neg (by rw [hb,← hn];rintro (h | h);cases h;omega),← hn,hx,hx1];have hg:0≤b∧0≤wt:=by
  unfold badR at hb
  simp only [Bool.or_eq_false_iff,Bool.not_eq_false'] at hb
  exact ⟨(c0y.1 hb.1).1,(c0y.1 hb.2).1⟩
 have k7:keyF 37 [n]≠[]:=c0R (by decide) (by decide) (by intro x hx;simp only [List.mem_singleton] at hx;omega);have k8:keyF 38 [n]≠[]:=c0R (by decide) (by decide) (by intro x hx;simp only [List.mem_singleton] at hx;omega);rw [d0S]
 by_cases c8:keyF 38 [n]=q
 ·rw [if_pos ⟨c8,k8⟩,if_pos c8]
 rw [if_neg fun e=>c8 e.1,if_neg c8];rw [f0l (by intro x hx;simp only [List.mem_cons,List.not_mem_nil,or_false] at hx;omega),g0g _ _ _ _ k7]
 by_cases c7:keyF 37 [n]=q
 ·rw [if_pos c7,if_pos c7]
 rw [if_neg c7,if_neg c7,k0y _ _ _ kC_ne (by omega)]
theorem n0F (i n:Int) (hi:0≤i):keyF 37 [i]≠keyF 38 [n]:=c0e (by decide) (by decide) (by decide) (by decide) (by decide) (c0R (by decide) (by decide) (by intro x hx;simp only [List.mem_singleton] at hx;omega))
theorem s0E (i n:Int) (hi:0≤i):keyF 38 [i]≠keyF 37 [n]:=c0e (by decide) (by decide) (by decide) (by decide) (by decide) (c0R (by decide) (by decide) (by intro x hx;simp only [List.mem_singleton] at hx;omega))
theorem j0N (n:Int):kC≠keyF 37 [n]:=c0e (by decide) (by decide) (by decide) (by decide) (by decide) kC_ne
theorem p0y (n:Int):kC≠keyF 38 [n]:=c0e (by decide) (by decide) (by decide) (by decide) (by decide) kC_ne
theorem b0O {s:PS} {h:Txt} {b wt:Int} (hb:badR b wt=true∨1000≤cntF (getP s.t)):postS s h b wt=s:=by unfold postS;rw [if_pos hb]
theorem m0f {s:PS} {h:Txt} {b wt i:Int} (hi:0≤i) (hi2:i < 9223372036854775808) (hne:i≠cntF (getP s.t)):rtF (getP (postS s h b wt).t) i=rtF (getP s.t) i:=by
 by_cases hc:badR b wt=true∨1000≤cntF (getP s.t)
 ·rw [b0O hc]
 ·have hb:badR b wt=false:=by cases hhq:badR b wt with | true=>exact absurd (.inl hhq) hc | false=>rfl
  have hf:cntF (getP s.t) < 1000:=by have:=fun q=>hc (.inr q);omega
  have h0:0≤cntF (getP s.t):=(b0d (getP s.t) kC).1;obtain ⟨n,hn⟩:=nm (cntF (getP s.t));rw [← hn] at hf h0 hne
  unfold rtF
  rw [g0v hb hn hf,g0v hb hn hf];rw [if_neg (s0E n i h0),if_neg (fun e=>hne (e0U (by decide) (by decide) hi (by omega) h0 (by omega) e.symm)),if_neg (j0N i)];rw [if_neg (fun e=>hne (e0U (by decide) (by decide) hi (by omega) h0 (by omega) e.symm)),if_neg (n0F n i h0),if_neg (p0y i)]
theorem q0o {s:PS} {h:Txt} {b wt:Int}:cntF (getP s.t)≤cntF (getP (postS s h b wt).t)∧(¬ (badR b wt=true∨1000≤cntF (getP s.t))→cntF (getP (postS s h b wt).t)=cntF (getP s.t)+1):=by
 by_cases hc:badR b wt=true∨1000≤cntF (getP s.t)
 ·rw [b0O hc];exact ⟨Int.le_refl _,fun h=>absurd hc h⟩
 ·have hb:badR b wt=false:=by cases hhq:badR b wt with | true=>exact absurd (.inl hhq) hc | false=>rfl
  have hf:cntF (getP s.t) < 1000:=by have:=fun q=>hc (.inr q);omega
  have h0:0≤cntF (getP s.t):=(b0d (getP s.t) kC).1;have he:cntF (getP (postS s h b wt).t)=cntF (getP s.t)+1:=by
   obtain ⟨n,hn⟩:=nm (cntF (getP s.t));rw [← hn] at hf h0
   show intF (rowF (valF _ kC))=_
   rw [g0v hb hn hf,if_neg (fun e=>p0y n e.symm),if_neg (fun e=>j0N n e.symm),if_pos rfl,f0K (by omega) (by omega),← hn]
   rfl
  exact ⟨by omega,fun _=>he⟩
theorem RInv.new:RInv PS.new:=by
 intro i _ h;have:(rtF (getP PS.new.t) i).ok=false:=by
  unfold rtF
  have e:∀ k,valF (getP PS.new.t) k = []:=fun k=>rfl
  rw [e,e,q0i];rfl
 rw [this] at h;cases h
theorem RInv.postS {s:PS} (hv:RInv s) (h:Txt) (b wt:Int):RInv (postS s h b wt):=by
 intro i hi ho;have hc:=q0o (s:=s) (h:=h) (b:=b) (wt:=wt);have h0:0≤cntF (getP s.t):=(b0d (getP s.t) kC).1
 by_cases hneg:i < 0
 ·omega
 by_cases hn:i=cntF (getP s.t)
 ·by_cases hx:badR b wt=true∨1000≤cntF (getP s.t)
  ·rw [b0O hx] at ho ⊢;exact hv i hi ho
  ·have:=hc.2 hx;omega
 ·rw [m0f (by omega) hi hn] at ho;have:=hv i hi ho;omega
structure Later (q:Int) (r r':RV):Prop where
 ok:r'.ok=true
 h:r'.h=r.h
 at_:r'.at_=r.at_
 st:r'.st=r.st∨r'.st=2
 on:r.st=1→r.at_≤q→r'.st=1
theorem p0O {f:Txt→Option Txt} {i b:Int} (h1:(rtF f i).ok=true) (h2:(rtF f i).st=1) (h3:(rtF f i).at_≤b):useE f i b=0:=by
 unfold useE;rw [if_neg (by rw [h1];decide),if_neg (by rintro (h | h);exact h h2;omega)]
end
section
set_option maxHeartbeats 4000000
set_option maxRecDepth 100000
open Go.RowKit

theorem RLiv.turn {w0 w w':World} {F0:List Nat} {g R:Nat} {s:PS} {o:Obj} (L:RLiv w0 F0 w g s) (hR:w.heap[R]? = some o) (hk:rstKind o=false) (hn:w0.heap.size≤R) (k:Keep (· = R) w w'):RLiv w0 F0 w' g s:=by
 obtain ⟨F,h1,h2,h3⟩:=L;refine ⟨F,h1.keep k fun x hx e=>?_,h2.trans (k.mono fun x _ e=>.inr (by rw [e];exact hn)),h3⟩;obtain ⟨o',ho',k1⟩:=h1.kind x hx;rw [e,hR] at ho';cases ho';rw [hk] at k1;cases k1
theorem Liv.turn {w0 w w':World} {F0:List Nat} {g R:Nat} {s:PS} {o:Obj} (L:Liv w0 F0 w g s) (hR:w.heap[R]? = some o) (hk:stoKind o=false) (hn:w0.heap.size≤R) (k:Keep (· = R) w w'):Liv w0 F0 w' g s:=by
 obtain ⟨F,h1,h2,h3⟩:=L;refine ⟨F,h1.keep k fun x hx e=>?_,h2.trans (k.mono fun x _ e=>.inr (by rw [e];exact hn)),h3⟩;obtain ⟨o',ho',k1⟩:=h1.kind x hx;rw [e,hR] at ho';cases ho';rw [hk] at k1;cases k1


def rvC (r:RV):Array Value:=c8 r.h ++ #[.int .i64 r.st,.int .i64 r.at_]
theorem b0P {r:RV} (h:r.h.length=32):(rvC r).size=34:=by unfold rvC;simp [a0m,h]
theorem t0u {r:RV} (h:r.h.length=32):(rvC r)[32]? = some (.int .i64 r.st):=by
 unfold rvC;rw [Array.getElem?_append_right (by rw [a0m,h];omega),a0m,h];rfl
theorem t0w {r:RV} (h:r.h.length=32):(rvC r)[33]? = some (.int .i64 r.at_):=by
 unfold rvC;rw [Array.getElem?_append_right (by rw [a0m,h];omega),a0m,h];rfl
theorem rvC_h {r:RV} {w:World} {g:Nat} {T:TypeId} {fr:Nat × Nat} (hg:w.heap[g]? = some (.cells (rvC r) T fr)):w.rangeAt g 0 (r.h.map byteV):=by
 refine a0C hg 0 _ ?_
 unfold rvC c8
 simp
theorem i0l (r:RV):(rvC r).all (·.oneCell')=true:=by
 unfold rvC c8
 rw [Array.all_append,Bool.and_eq_true];refine ⟨Array.all_eq_true_iff_forall_mem.2 fun v hv=>?_,by simp [Value.oneCell']⟩;obtain ⟨c,_,rfl⟩:=List.mem_map.1 (by simpa using hv)
 rfl
theorem l0G (l:List UInt8):(c8 l).all (·.oneCell')=true:=by
 refine Array.all_eq_true_iff_forall_mem.2 fun v hv=>?_
 obtain ⟨c,_,rfl⟩:=List.mem_map.1 (by simpa [c8] using hv)
 rfl
theorem b0t:z32.length=32:=by kernel_rfl
theorem zeroR34:(#[.int .u8 0,.int .u8 0,.int .u8 0,.int .u8 0,.int .u8 0,.int .u8 0,.int .u8 0,.int .u8 0,.int .u8 0,.int .u8 0,.int .u8 0,.int .u8 0,.int .u8 0,.int .u8 0,.int .u8 0,.int .u8 0,.int .u8 0,.int .u8 0,.int .u8 0,.int .u8 0,.int .u8 0,.int .u8 0,.int .u8 0,.int .u8 0,.int .u8 0,.int .u8 0,.int .u8 0,.int .u8 0,.int .u8 0,.int .u8 0,.int .u8 0,.int .u8 0,.int .i64 0,.int .i64 0]:Array Value)=rvC RV.none:=by kernel_rfl
theorem zeroH32:(#[.int .u8 0,.int .u8 0,.int .u8 0,.int .u8 0,.int .u8 0,.int .u8 0,.int .u8 0,.int .u8 0,.int .u8 0,.int .u8 0,.int .u8 0,.int .u8 0,.int .u8 0,.int .u8 0,.int .u8 0,.int .u8 0,.int .u8 0,.int .u8 0,.int .u8 0,.int .u8 0,.int .u8 0,.int .u8 0,.int .u8 0,.int .u8 0,.int .u8 0,.int .u8 0,.int .u8 0,.int .u8 0,.int .u8 0,.int .u8 0,.int .u8 0,.int .u8 0]:Array Value)=c8 z32:=by kernel_rfl
theorem Tryz.zeroRoot (w:World):(zeroValue 154).run Tryz.prog w = .ok (.agg (rvC RV.none)) w:=by kernel_rfl
theorem Tryz.zeroHsh (w:World):(zeroValue 27).run Tryz.prog w = .ok (.agg (c8 z32)) w:=by kernel_rfl
theorem Tryz.sizeRoot':(Tryz.prog.info? 154).map (·.size)=some 34:=by kernel_rfl
theorem Tryz.sizeRoot {r:RV} (h:r.h.length=32):(Tryz.prog.info? 154).map (·.size)=some (rvC r).size:=by rw [b0P h];exact Tryz.sizeRoot'
theorem Tryz.sizeHsh':(Tryz.prog.info? 27).map (·.size)=some 32:=by kernel_rfl
theorem Tryz.sizeHsh {l:Txt} (h:l.length=32):(Tryz.prog.info? 27).map (·.size)=some (c8 l).size:=by rw [a0m,h];exact Tryz.sizeHsh'
theorem Tryz.sizeHshL {l:Txt} (h:l.length=32):(Tryz.prog.info? 27).map (·.size)=some (l.map byteV).length:=by rw [List.length_map,h];exact Tryz.sizeHsh'
theorem Tryz.sizeU8:(Tryz.prog.info? 5).map (·.size)=some 1:=by kernel_rfl

theorem i0D {P:Program} (w:World) (dT sT ty elem:TypeId) (g o dLen dCap:Nat) (l:Txt) (cur:Array Value) (t:TypeId)
  (hu:P.underlying dT=some (.slice elem)) (hs:(P.info? elem).map (·.size)=some 1)
  (hg:w.heap[g]? = some (.cells cur t (0,0))) (hn:l.length=dLen) (hfit:o+l.length≤cur.size) :
  (Builtin.copy_ #[dT,sT] ty #[.slice (some ⟨g,o,none⟩) dLen dCap,.string (bs l)]).run P w =
   .ok (goInt l.length) (w.setRow g (cur.toList.take o ++ l.map byteV ++ cur.toList.drop (o+l.length)).toArray):=by
 have hst:=run_storeCells_at P g o t (l.map byteV) 0 cur w hg (by simpa using hfit) (by intro v hv;obtain ⟨c,_,rfl⟩:=List.mem_map.1 hv;rfl);have he:((bs l).extract 0 l.length).data.map (fun b=>Value.int .u8 b.toNat)=(l.map byteV).toArray:=by
  rw [g0Q]
  simp [bs]
  exact fun _ _=>rfl
 have hfc:(Builtin.firstCells 1 l.length (.string (bs l))).run P w = .ok (l.map byteV).toArray w:=by
  simp only [Builtin.firstCells,he]
  rfl
 cases hq:P.info? elem with
 | none=>simp [hq] at hs
 | some i=>
  have hi:i.size=1:=by simpa [hq] using hs
  rw [← hn]
  simp [Builtin.copy_,run_underlying hu,Builtin.lenOf,sizeOf,typeInfo,hq,hi,b0e,hfc,hst]
theorem g0o {P:Program} {w:World} {ops:Array Oper} {rest:List Oper} {o:Oper} {a:Act} {Q:Exit→Act→World→Prop} (hgd:o.guard=none) (d s:Operand) (dT sT:TypeId)
  (ho:o.op = .call { callee:=.builtin .copy,args:=#[d,s],argTypes:=#[dT,sT] }) (elem:TypeId) (hu:P.underlying dT=some (.slice elem)) (hsz:(P.info? elem).map (·.size)=some 1)
  (g off dLen dCap:Nat) (l:Txt) (hd:a.eval d = .slice (some ⟨g,off,none⟩) dLen dCap) (hs:a.eval s = .string (bs l))
  (cur:Array Value) (t:TypeId) (hg:w.heap[g]? = some (.cells cur t (0,0))) (hn:l.length=dLen) (hfit:off+l.length≤cur.size)
  (new:Array Value) (hnew:(cur.toList.take off ++ l.map byteV ++ cur.toList.drop (off+l.length)).toArray=new)
  (h:∀ w',w'.heap[g]? = some (.cells new t (0,0))→Keep (· = g) w w'→w'.heap.size=w.heap.size→wpList P ops Q rest (a.put o.dst (goInt l.length)) w'):wpList P ops Q (o :: rest) a w:=by
 refine wpList_plain hgd fun K hK=>?_
 have hrun:=i0D (P:=P) w dT sT o.type elem g off dLen dCap l cur t hu hsz hg hn hfit;rw [hnew] at hrun
 unfold Oper.wp
 simp [execOp,ho,resolve,invoke,builtin,hd,hs,hrun,Result.andThen]
 exact hK _ _ (h _ (setRow_heap _ _ _ _ _ _ hg) (Keep.setRow (S:=(· = g)) (Keep.refl _ _) (.inl rfl) _) (setRow_size _ _ _))

theorem s0V {v:Txt} {a:Int} (h:v.length=32):(rvC ⟨v,0,0,false⟩).setIfInBounds 32 (.int .i64 a)=rvC ⟨v,a,0,false⟩:=by
 unfold rvC
 rw [Array.setIfInBounds_append_right (by rw [a0m,h];omega),a0m,h];rfl
theorem s0Z {v:Txt} {a b:Int} (h:v.length=32):(rvC ⟨v,a,0,false⟩).setIfInBounds 33 (.int .i64 b)=rvC ⟨v,a,b,true⟩:=by
 unfold rvC
 rw [Array.setIfInBounds_append_right (by rw [a0m,h];omega),a0m,h];rfl
theorem Tryz.sizeInt:(Tryz.prog.info? 3).map (·.size)=some 1:=by kernel_rfl
theorem q0x {v:Txt} (h:v.length=32):((rvC RV.none).toList.take 0 ++ v.map byteV ++ (rvC RV.none).toList.drop (0+v.length)).toArray=rvC ⟨v,0,0,false⟩:=by
 have e:(rvC RV.none).toList.drop (0+v.length) = [.int .i64 0,.int .i64 0]:=by rw [h];kernel_rfl
 rw [e]
 simp [rvC,c8]
theorem c0l (n:Int) (w:World):Calls Tryz.prog 118 #[.int .i64 n] w fun e w'=>e = .returned (.bool (dgB n))∧w=w':=by
 by_cases h1:0≤n
 ·by_cases h2:n≤1099511627776
  ·have e:dgB n=true:=c0y.2 ⟨h1,h2⟩;rw [e];clear e
   go_enter Tryz.func118,Tryz.ntmps118
   go_wp2
   go_ret
   exact ⟨rfl,rfl⟩
  ·have e:dgB n=false:=g0Y.2 (.inr (by omega));rw [e];clear e
   go_enter Tryz.func118,Tryz.ntmps118
   go_wp2
   go_ret
   exact ⟨rfl,rfl⟩
 ·have e:dgB n=false:=g0Y.2 (.inl (by omega));rw [e];clear e
  go_enter Tryz.func118,Tryz.ntmps118
  go_wp2
  go_ret
  exact ⟨rfl,rfl⟩
theorem t0g {l:List Int} {v:Txt} (h:¬ (l.length=2∧v.length=32)):mkR l v=RV.none:=by unfold mkR;rw [if_neg h]
theorem k0E {a b:Int} {v:Txt} (h:v.length=32):mkR [a,b] v=⟨v,a,b,true⟩:=by unfold mkR;rw [if_pos ⟨rfl,h⟩];rfl
theorem t0n {l:List Int} (h:l.length=2):∃ a b,l = [a,b]:=by
 match l,h with
 | [a,b],_=>exact ⟨a,b,rfl⟩

theorem q0B {w:World} {x:Option Addr} {m:Bool} {f:Txt→Option Txt} (h:Look w x m f) (hf:FitF f) {i:Int} (hi:-9223372036854775808≤i∧i < 9223372036854775808) :
  Calls Tryz.prog 81 #[.pointer x,.int .i64 i] w (Ret w (.tuple #[.agg (rvC (rtF f i)),.bool (rtF f i).ok])):=by
 have H:=hh h;have HF:=hh hf;have HI:=hh hi;clear h hf hi
 go_enter Tryz.func81,Tryz.ntmps81
 go_wp2_with (refine sA _ Tryz.zeroRoot ?_)
 intro R w1 h1;have HR1:=hh h1.out.cells;have HB1:=hh h1.out.below;have HRW:Hid (w.heap.size≤R):=hh (Nat.le_of_eq h1.out.eq.symm);clear h1;go_wp2_with fail;have hb:=a0d w1 (.cells #[.int .i64 i] 3);refine (a0X 37 [i] _ _ (by simp) (I64s.one HI.out) (lit1 w1 i)).mono ?_;rintro e w2 ⟨rfl,hb2⟩;have HB2:=hh (HB1.out.trans ((hb.trans (hb2.mono hb.size)).mono HB1.out.size));have HR2:=hh (a0e (hb.trans (hb2.mono hb.size)) HR1.out);clear hb hb2 HB1 HR1;go_wp2_with fail;refine (p0v (H.out.later HB2.out) HF.out (keyF 37 [i])).mono ?_;rintro e w3 ⟨v,rfl,ho,hb3⟩;have HRT:Hid (rtF f i=mkR (rowF (valF f (keyF 37 [i]))) (valF f (keyF 38 [i]))):=hh rfl;obtain ⟨l,hll⟩:=nm (rowF (valF f (keyF 37 [i])));rw [← hll] at ho HRT;have HO:=hh (RowRet.rd ho);have HB3:=bT HB2 hb3;have HR3:=bA hb3 HR2;clear ho hll hb3 HB2 HR2;obtain ⟨ad,cap,rfl,c1,c2⟩:=HO.out.shape;obtain ⟨n,hn⟩:=nm (l.length);rw [← hn] at c1 ⊢;have HN:=hh hn;rw [← hn] at HO;clear hn;go_wp2_with fail;have hb:=a0d w3 (.cells #[.int .i64 i] 3);refine (a0X 38 [i] _ _ (by simp) (I64s.one HI.out) (lit1 w3 i)).mono ?_;rintro e w4 ⟨rfl,hb2⟩;have hb3:=hb.trans (hb2.mono hb.size);have HB4:=bT HB3 hb3;have HR4:=bA hb3 HR3;have HO4:=hh (HO.out.later hb3);clear hb hb2 hb3 HB3 HR3 HO;go_wp2_with fail;refine (h0K (H.out.later HB4.out) (keyF 38 [i])).mono ?_
 rintro e w5 ⟨rfl,rfl⟩;obtain ⟨b0,hb0⟩:=nm ((f (keyF 38 [i])).isSome);rw [← hb0,show (f (keyF 38 [i])).getD []=valF f (keyF 38 [i]) from rfl];obtain ⟨v,hv⟩:=nm (valF f (keyF 38 [i]));rw [← hv] at HRT ⊢;clear hb0 hv
 go_wp2_with (refine sA _ Tryz.zeroRoot ?_)
 intro X w6 h6;have HX6:=hh h6.out.cells;have HB6:=hh (HB4.out.trans (h6.out.below.mono HB4.out.size));have HXW:Hid (w.heap.size≤X):=hh (by rw [h6.out.eq];exact HB4.out.size);have HR6:=hh (a0e h6.out.below HR4.out);have HB46:=hh h6.out.below;have HX4:Hid (w4.heap.size≤X):=hh (Nat.le_of_eq h6.out.eq.symm);have HXR:Hid (X≠R):=hh (by have:=a0b HR4.out;have:=h6.out.eq;omega);clear h6 HB4 HR4;have NO:¬ (n=2∧v.length=32)→Hid (rtF f i=RV.none):=fun h=>hh (by rw [HRT.out];exact t0g (by rw [← HN.out];exact h))
 by_cases h2:n=2
 ·by_cases h3:v.length=32
  ·subst h2;obtain ⟨a,b,rfl⟩:=t0n HN.out.symm;obtain ⟨q,off,rfl,hq,t0⟩:=HO4.out.at 0 (by simp);obtain ⟨q',off',e',_,t1⟩:=HO4.out.at 1 (by simp)
   cases e'
   replace t0:w6.cell? ⟨q,off,none⟩=some (.int .i64 a):=(HB46.out.cell (p:=⟨q,off,none⟩) hq).trans t0;replace t1:w6.cell? ⟨q,off+1,none⟩=some (.int .i64 b):=(HB46.out.cell (p:=⟨q,off+1,none⟩) hq).trans t1;have HT0:=hh t0;have HT1:=hh t1;have h3':(((bs v).size:Int) != 32)=false:=by rw [b0e,h3];rfl
   have H3:=hh h3;have HQX:Hid (q≠X):=hh (by have:=HX4.out;omega);have HY:Hid (rtF f i=⟨v,a,b,true⟩):=hh (by rw [HRT.out];exact k0E H3.out);clear t0 t1 h3 NO hq HO4
   go_wp2_with (refine g0o rfl _ _ 122 9 rfl 5 Tryz.underlying122 Tryz.sizeU8 X 0 32 32 v rfl rfl _ _ HX6.out H3.out (by rw [b0P b0t,H3.out];decide) (rvC ⟨v,0,0,false⟩) (q0x H3.out) ?_)
   intro w7 hx7 k67 z67;have HX7:=hh hx7;have HB7:=hh (HB6.out.trans (k67.below (B:=w.heap.size) (fun y hy e=>by have:=HXW.out;omega) HB6.out.size));have HR7:=kb1 k67 HR6 HXR;have hS:w7.drew.cell? ⟨q,off,none⟩=some (.int .i64 a)∧w7.drew.cell? ⟨q,off+1,none⟩=some (.int .i64 b):=by
    refine ⟨?_,?_⟩
    ·exact c0c k67 HT0.out (fun e=>HQX.out e)
    ·exact c0c k67 HT1.out (fun e=>HQX.out e)
   have HX7d:Hid (w7.drew.heap[X]? = some (.cells (rvC ⟨v,0,0,false⟩) 154 (0,0))):=HX7;have HB7d:=hh HB7.out.drew;have HR7d:Hid (w7.drew.heap[R]? = _):=HR7;clear hx7 k67 z67 h3' HX6 HB6 HR6 HX7 HB7 HR7;go_wp2_with fail;refine a0f (fun w'=>w'.cell? ⟨q,off,none⟩=some (.int .i64 a)∧w'.cell? ⟨q,off+1,none⟩=some (.int .i64 b)) 10 10 (by kernel_rfl) rfl ?_;refine tA1 0 36 hS ?_;go_frame;refine tA1 1 37 hS ?_;go_frame;refine tk 2 (some 38) rfl rfl (.inl ⟨by rfl,fun w' hS'=>(by obtain ⟨hc1,hc2⟩:=hS';go_simp;rfl)⟩) hS ?_;go_frame;refine tA1 3 39 hS ?_;go_frame;refine tA1 4 40 hS ?_;go_frame;refine tk 5 (some 41) rfl rfl (.inl ⟨by rfl,fun w' hS'=>(by obtain ⟨hc1,hc2⟩:=hS';go_simp;rfl)⟩) hS ?_;go_frame;refine tA1 6 42 hS ?_;go_frame;refine t1 7 fun K hK=>?_
   simp only [gA,jB,gC];refine a0q 3 _ _ rfl X 32 _ rfl rfl rfl rfl 154 _ HX7d.out Tryz.sizeInt (by rw [b0P (r:=⟨v,0,0,false⟩) H3.out];decide) (rvC ⟨v,a,0,false⟩) (s0V H3.out) ?_;intro w8 hx kx zx;have HX8:=hh hx;have HB8:=hh (HB7d.out.trans (kx.below (B:=w.heap.size) (fun y hy e=>by have:=HXW.out;omega) HB7d.out.size));have HR8:=kb1 kx HR7d HXR;have hS1:w8.cell? ⟨q,off,none⟩=some (.int .i64 a)∧w8.cell? ⟨q,off+1,none⟩=some (.int .i64 b):=⟨c0c kx hS.1 (fun e=>HQX.out e),c0c kx hS.2 (fun e=>HQX.out e)⟩;refine hK _ _ (fun _ _=>hS1) ?_;clear hK hS hx kx zx;have hS:=hS1;clear hS1;refine tA1 8 43 hS ?_;go_frame;refine t1 9 fun K hK=>?_
   simp only [gA,jB,gC];refine a0q 3 _ _ rfl X 33 _ rfl rfl rfl rfl 154 _ HX8.out Tryz.sizeInt (by rw [b0P (r:=⟨v,a,0,false⟩) H3.out];decide) (rvC ⟨v,a,b,true⟩) (s0Z H3.out) ?_;intro w9 hx kx zx;have HX9:=hh hx;have HB9:=hh (HB8.out.trans (kx.below (B:=w.heap.size) (fun y hy e=>by have:=HXW.out;omega) HB8.out.size));have HR9:=kb1 kx HR8 HXR;have hS1:w9.cell? ⟨q,off,none⟩=some (.int .i64 a)∧w9.cell? ⟨q,off+1,none⟩=some (.int .i64 b):=⟨c0c kx hS.1 (fun e=>HQX.out e),c0c kx hS.2 (fun e=>HQX.out e)⟩;refine hK _ _ (fun _ _=>hS1) ?_;clear hK hS hx kx zx;have hS:=hS1;clear hS1;refine tD ?_
   go_wp2_with (first | (refine lR HX9 Tryz.underlying154 (Tryz.sizeRoot (r:=⟨v,a,b,true⟩) H3.out) ?_) | (refine a0a (t:=154) (old:=rvC RV.none) rfl 154 _ _ rfl R (rvC ⟨v,a,b,true⟩) rfl rfl HR9.out (Tryz.sizeRoot (r:=⟨v,a,b,true⟩) H3.out) (by rw [b0P (r:=⟨v,a,b,true⟩) H3.out,b0P (r:=RV.none) b0t]) (i0l _) ?_))
   intro wa hxa k9a z9a;have HXA:=hh hxa;have HBA:=hh (HB9.out.trans (k9a.below (B:=w.heap.size) (fun y hy e=>by have:=HRW.out;omega) HB9.out.size));clear hxa k9a z9a;go_wp2_with fail
   exact bodyPost_ret (a0l rfl _ _ R _ _ _ _ rfl HXA.out Tryz.underlying154 rfl (Tryz.sizeRoot (r:=⟨v,a,b,true⟩) H3.out) (.bool true) rfl) rfl ⟨by rw [HY.out],HBA.out⟩
  ·have h3':(((bs v).size:Int) != 32)=true:=by rw [b0e,bne_iff_ne];omega
   have HN0:=NO (fun h=>h3 h.2);subst h2;clear h3 NO
   go_wp2_with (refine a0a (t:=154) (old:=rvC RV.none) rfl 154 _ _ rfl R (rvC RV.none) rfl (congrArg Value.agg zeroR34) HR6.out (Tryz.sizeRoot b0t) rfl (i0l _) ?_)
   intro w7 hx7 k67 z67;have HX7:=hh hx7;have HB7:=hh (HB6.out.trans (k67.below (B:=w.heap.size) (fun y hy e=>by have:=HRW.out;omega) HB6.out.size));clear hx7 k67 z67;go_wp2_with fail
   exact bodyPost_ret (a0l rfl _ _ R _ _ _ _ rfl HX7.out Tryz.underlying154 rfl (Tryz.sizeRoot b0t) (.bool false) rfl) rfl ⟨by rw [HN0.out];rfl,HB7.out⟩
 ·have h3':((n:Int) != 2)=true:=by rw [bne_iff_ne];omega
  have HN0:=NO (fun h=>h2 h.1);clear h2 NO
  go_wp2_with (refine a0a (t:=154) (old:=rvC RV.none) rfl 154 _ _ rfl R (rvC RV.none) rfl (congrArg Value.agg zeroR34) HR6.out (Tryz.sizeRoot b0t) rfl (i0l _) ?_)
  intro w7 hx7 k67 z67;have HX7:=hh hx7;have HB7:=hh (HB6.out.trans (k67.below (B:=w.heap.size) (fun y hy e=>by have:=HRW.out;omega) HB6.out.size));clear hx7 k67 z67;go_wp2_with fail
  exact bodyPost_ret (a0l rfl _ _ R _ _ _ _ rfl HX7.out Tryz.underlying154 rfl (Tryz.sizeRoot b0t) (.bool false) rfl) rfl ⟨by rw [HN0.out];rfl,HB7.out⟩
end
end Go.Proofs.YtakkfabaeolbdaaGreat
