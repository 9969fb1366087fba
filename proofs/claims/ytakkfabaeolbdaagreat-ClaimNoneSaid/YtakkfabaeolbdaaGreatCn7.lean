/- sha.turn, small, great and the reference's turn: their contracts. sha.schedule. -/
import Derived.Test.YtakkfabaeolbdaaGreatCnBase
import Derived.Test.YtakkfabaeolbdaaGreatCn6
import Derived.Deep.QuietTactic
import Derived.BigQuiet
import Derived.WalkSmall
import Derived.StillTailTactics
import Derived.LoopTactic
namespace Go.Proofs.YtakkfabaeolbdaaGreat
section
set_option maxHeartbeats 1000000
open Go.RowKit

theorem t32 (x:UInt32):x.toNat < 4294967296:=x.toNat_lt
theorem b0A (x y:UInt32):bits BinOp.xor IntKind.u32 (x.toNat:Int) (y.toNat:Int)=((x ^^^ y).toNat:Int):=by
 rw [u32_xor_nat _ _ (t32 x) (t32 y),UInt32.toNat_xor]
theorem c0M (x y:UInt32):bits BinOp.and IntKind.u32 (x.toNat:Int) (y.toNat:Int)=((x &&& y).toNat:Int):=by
 rw [u32_and_nat _ _ (t32 x) (t32 y),UInt32.toNat_and]
theorem e0W (x y:UInt32):bits BinOp.or IntKind.u32 (x.toNat:Int) (y.toNat:Int)=((x ||| y).toNat:Int):=by
 rw [u32_or_nat _ _ (t32 x) (t32 y),UInt32.toNat_or]
theorem p0i (x y:UInt32):IntKind.u32.wrap ((x.toNat:Int)+(y.toNat:Int))=((x+y).toNat:Int):=by
 rw [IntKind.wrap_u32',UInt32.toNat_add];omega
theorem shr_t (x:UInt32) (n:Nat) (hn:n < 32):(x.toNat:Int) / 2 ^ n=((shr32 x n).toNat:Int):=by
 unfold shr32
 rw [UInt32.toNat_shiftRight];have:(UInt32.ofNat n).toNat % 32=n:=by rw [UInt32.toNat_ofNat'];omega
 rw [this,Nat.shiftRight_eq_div_pow]
 simp
theorem shl_t (x:UInt32) (n:Nat) (hn:n < 32):IntKind.u32.wrap ((x.toNat:Int)*2 ^ n)=((x <<< UInt32.ofNat n).toNat:Int):=by
 rw [IntKind.wrap_u32',UInt32.toNat_shiftLeft];have:(UInt32.ofNat n).toNat % 32=n:=by rw [UInt32.toNat_ofNat'];omega
 rw [this,Nat.shiftLeft_eq]
 simp

theorem q0s (x:UInt32) (n:Nat) (h1:1≤n) (h2:n≤31):bits BinOp.or IntKind.u32 ((x.toNat:Int) / 2 ^ n) ((x.toNat:Int)*2 ^ (32 - n) % 4294967296)=((rotr x n).toNat:Int):=by
 rw [shr_t x n (by omega),← IntKind.wrap_u32',shl_t x (32 - n) (by omega),e0W];rfl
theorem j0V {k:IntKind} {a b:Int} (h:a=b):Ending.returned (.int k a) = .returned (.int k b):=by rw [h]

theorem p0Q (x:UInt32) (n:Nat) (w:World) (h1:1≤n) (h2:n≤31) :
  Calls Tryz.prog 271 #[.int .u32 x.toNat,.int .i64 n] w fun e w'=>e = .returned (.int .u32 (rotr x n).toNat)∧∃ k,w'=w.drewN k:=by
 have e1:(32 - (n:Int)).toNat=32 - n:=by omega
 have e0:(0:Int)≤32 - (n:Int):=by omega
 go_enter Tryz.func271,Tryz.ntmps271
 go_wp2
 go_quiet (fail)
 go_wp2
 go_ret
 exact ⟨j0V (q0s x n h1 h2),_,rfl⟩

theorem d0N (x:UInt32) (n:Int) (w:World) (h1:1≤n) (h2:n≤31) :
  Calls Tryz.prog 271 #[.int .u32 x.toNat,.int .i64 n] w fun e w'=>e = .returned (.int .u32 (rotr x n.toNat).toNat)∧∃ k,w'=w.drewN k:=by
 obtain ⟨m,rfl⟩:=Int.eq_ofNat_of_zero_le (show 0≤n by omega)
 exact p0Q x m w (by omega) (by omega)
theorem i0W (x:UInt32) (a b c:Int) (w:World) (h1:1≤a) (h2:a≤31) (h3:1≤b) (h4:b≤31) (h5:1≤c) (h6:c≤31) :
  Calls Tryz.prog 265 #[.int .u32 x.toNat,.int .i64 a,.int .i64 b,.int .i64 c] w fun e w'=>e = .returned (.int .u32 (grtF x a.toNat b.toNat c.toNat).toNat)∧∃ k,w'=w.drewN k:=by
 go_enter Tryz.func265,Tryz.ntmps265
 go_wp2_with fail;refine (d0N x a _ h1 h2).mono ?_;rintro e w1 ⟨rfl,k1,rfl⟩;go_wp2_with fail;refine (d0N x b _ h3 h4).mono ?_;rintro e w1 ⟨rfl,k2,rfl⟩;go_wp2_with fail;refine (d0N x c _ h5 h6).mono ?_;rintro e w1 ⟨rfl,k3,rfl⟩
 go_wp2
 go_ret
 exact ⟨j0V (by rw [b0A,b0A];rfl),_,rfl⟩

theorem j0i (x:UInt32) (a b c:Int) (w:World) (h1:1≤a) (h2:a≤31) (h3:1≤b) (h4:b≤31) (h5:1≤c) (h6:c≤31) :
  Calls Tryz.prog 270 #[.int .u32 x.toNat,.int .i64 a,.int .i64 b,.int .i64 c] w fun e w'=>e = .returned (.int .u32 (smlF x a.toNat b.toNat c.toNat).toNat)∧∃ k,w'=w.drewN k:=by
 have hc:(0:Int)≤c:=by omega
 go_enter Tryz.func270,Tryz.ntmps270
 go_wp2_with fail
 go_quiet ((first | (go_at_call 271;(with_reducible exact Calls.quiet_of (d0N x a _ h1 h2))) | (go_at_call 271;(with_reducible exact Calls.quiet_of (d0N x b _ h3 h4)))))
 go_wp2
 go_ret
 exact ⟨j0V (by rw [shr_t x c.toNat (by omega),b0A,b0A];rfl),_,rfl⟩
end
section
open Go.RowKit

def c8 (l:List UInt8):Array Value:=(l.map byteV).toArray
def gB (l:List UInt8) (i:Nat):UInt8:=l.getD i 0
def gW (l:List UInt32) (i:Nat):UInt32:=l.getD i 0
def w32V (x:UInt32):Value:=.int .u32 x.toNat
def cW (n:Nat) (l:List UInt32):Array Value:=(l.map w32V ++ List.replicate (n - l.length) (Value.int .u32 0)).toArray
theorem k0p (n:Nat) (l:List UInt32) (h:l.length≤n):(cW n l).size=n:=by simp [cW];omega
theorem cW_at (n:Nat) (l:List UInt32) (i:Nat) (h:i < l.length):(cW n l)[i]? = some (.int .u32 ((gW l i).toNat:Int)):=by
 simp only [cW,gW,List.getElem?_toArray];rw [List.getElem?_append_left (by simpa using h),List.getElem?_map,List.getElem?_eq_getElem h]
 simp [w32V,List.getD,List.getElem?_eq_getElem h]
theorem p0B (n:Nat) (l:List UInt32) (i:Nat) (h:l.length≤i) (hi:i < n):(cW n l)[i]? = some (.int .u32 0):=by
 simp only [cW,List.getElem?_toArray];rw [List.getElem?_append_right (by simpa using h)];simp only [List.length_map];rw [List.getElem?_replicate,if_pos (by omega)]
theorem r0B (n:Nat) (l:List UInt32) (x:UInt32) (h:l.length < n):(cW n l).setIfInBounds l.length (.int .u32 x.toNat)=cW n (l ++ [x]):=by
 apply Array.ext'
 simp only [cW,Array.toList_setIfInBounds];rw [List.set_append_right _ _ (by simp),show n - l.length=(n - (l ++ [x]).length)+1 by simp;omega,List.replicate_succ]
 simp [w32V]
theorem c8_at (l:List UInt8) (i:Nat) (h:i < l.length):(c8 l)[i]? = some (.int .u8 ((gB l i).toNat:Int)):=by
 simp [c8,gB,List.getD,List.getElem?_eq_getElem h,byteV]
theorem a0m (l:List UInt8):(c8 l).size=l.length:=by simp [c8]
theorem a0n (b:List UInt8) (n:Nat):(schedTo b n).length=n:=by
 induction n with
 | zero=>rfl
 | succ n ih=>simp [schedTo,ih]

theorem Tryz.sizeW:(Tryz.prog.info? 221).map (·.size)=some 64:=by kernel_rfl
theorem one_w (l:List UInt32) (n:Nat):(cW n l).all (·.oneCell')=true:=by
 rw [cW,← Array.all_toList]
 simp [List.all_append,w32V,Value.oneCell']

theorem heap3 (w:World) (a b c:Obj):(((w.alloc a).alloc b).alloc c).heap[w.heap.size]? = some a∧(((w.alloc a).alloc b).alloc c).heap[w.heap.size+1]? = some b∧(((w.alloc a).alloc b).alloc c).heap[w.heap.size+1+1]? = some c:=by
 refine ⟨?_,?_,?_⟩
 ·simp only [World.alloc];rw [Array.getElem?_push,if_neg (by simp;try omega),Array.getElem?_push,if_neg (by simp;try omega),Array.getElem?_push,if_pos rfl]
 ·simp only [World.alloc];rw [Array.getElem?_push,if_neg (by simp),Array.getElem?_push,if_pos (by simp)]
 ·simp only [World.alloc];rw [Array.getElem?_push,if_pos (by simp)]
theorem q0C (a b c d:UInt8):bits BinOp.or IntKind.u32 (bits BinOp.or IntKind.u32 (bits BinOp.or IntKind.u32 (IntKind.u32.wrap (IntKind.u32.wrap (a.toNat:Int)*2 ^ 24)) (IntKind.u32.wrap (IntKind.u32.wrap (b.toNat:Int)*2 ^ 16))) (IntKind.u32.wrap (IntKind.u32.wrap (c.toNat:Int)*2 ^ 8))) (IntKind.u32.wrap (d.toNat:Int))=((word32 a b c d).toNat:Int):=by
 have e:∀ x:UInt8,IntKind.u32.wrap (x.toNat:Int)=(x.toUInt32.toNat:Int):=fun x=>by
  rw [IntKind.wrap_u32',UInt8.toNat_toUInt32];have:=x.toNat_lt;omega
 rw [e,e,e,e,shl_t _ 24 (by omega),shl_t _ 16 (by omega),shl_t _ 8 (by omega),e0W,e0W,e0W]
 rfl
theorem b0S {P:Program} {id:Nat} {Q:Exit→Act→World→Prop} {a:Act} {w:World} {l:List Oper} (n:Nat) (hm:P.follows .mixedOrders=true) (hB:Region.lexTailB .any l.toArray n=true)
  (h:∀ w2,w2=w.drew→wpStill P l.toArray w2 (fun a'=>wpList P l.toArray Q (l.drop n) a' w2) (l.take n) a):(Code.region id l.toArray true).wp P Q a w:=
 wp_region_still_tail n hm hB (h _ rfl)
theorem f0z (b:List UInt8) (n:Nat) (h:n≤64):(cW 64 (schedTo b n)).size=64:=k0p _ _ (by rw [a0n];exact h)
theorem Tryz.sizeS (b:List UInt8) (n:Nat) (h:n≤64):(Tryz.prog.info? 221).map (·.size)=some (cW 64 (schedTo b n)).size:=by rw [f0z b n h];exact Tryz.sizeW
theorem o0X (a b c d:UInt8):bits BinOp.or IntKind.u32 (bits BinOp.or IntKind.u32 (bits BinOp.or IntKind.u32 ((a.toNat:Int) % 4294967296*16777216 % 4294967296) ((b.toNat:Int) % 4294967296*65536 % 4294967296)) ((c.toNat:Int) % 4294967296*256 % 4294967296)) ((d.toNat:Int) % 4294967296)=((word32 a b c d).toNat:Int):=by
 have h:=q0C a b c d;rw [show (2:Int) ^ 24=16777216 from rfl,show (2:Int) ^ 16=65536 from rfl,show (2:Int) ^ 8=256 from rfl] at h
 simpa only [IntKind.wrap_u32'] using h
theorem d0h (x y:UInt32):((x.toNat:Int)+(y.toNat:Int)) % 4294967296=((x+y).toNat:Int):=by
 have h:=p0i x y
 rwa [IntKind.wrap_u32'] at h
theorem m0K (b:List UInt8) (n:Nat) (h:n < 16) :
  (cW 64 (schedTo b n)).setIfInBounds n (.int .u32 (bits BinOp.or IntKind.u32 (bits BinOp.or IntKind.u32 (bits BinOp.or IntKind.u32 (((gB b (4*n)).toNat:Int) % 4294967296*16777216 % 4294967296) (((gB b (4*n+1)).toNat:Int) % 4294967296*65536 % 4294967296)) (((gB b (4*n+2)).toNat:Int) % 4294967296*256 % 4294967296)) (((gB b (4*n+3)).toNat:Int) % 4294967296)))=cW 64 (schedTo b (n+1)):=by
 rw [o0X];have:=r0B 64 (schedTo b n) (nextW b (schedTo b n) n) (by rw [a0n];omega);rw [a0n] at this;rw [schedTo,← this,nextW,if_pos h]
 rfl
theorem m0b (b:List UInt8) (n:Nat) (h:16≤n) (h2:n < 64) :
  (cW 64 (schedTo b n)).setIfInBounds n (.int .u32 (((((((smlF (gW (schedTo b n) (n - 2)) 17 19 10).toNat:Int)+((gW (schedTo b n) (n - 7)).toNat:Int)) % 4294967296)+((smlF (gW (schedTo b n) (n - 15)) 7 18 3).toNat:Int)) % 4294967296+((gW (schedTo b n) (n - 16)).toNat:Int)) % 4294967296))=cW 64 (schedTo b (n+1)):=by
 rw [d0h,d0h,d0h];have:=r0B 64 (schedTo b n) (nextW b (schedTo b n) n) (by rw [a0n];omega);rw [a0n] at this;rw [schedTo,← this,nextW,if_neg (by omega)]
 rfl
def cellAt (w:World) (p:Addr):Value:=(w.cell? p).getD undef
theorem g0B {w:World} {p:Addr} {v:Value} (h:w.cell? p=some v):w.cell? p=some (cellAt w p):=by rw [cellAt,h];rfl
theorem d0Y {w:World} {b n m:Nat} {v u:Value} (h:w.cell? ⟨b,m,none⟩=some u) (hn:n≠m):(w.setCell ⟨b,n,none⟩ v).cell? ⟨b,m,none⟩=some u:=by
 rw [World.cell?_setCell_other]
 ·exact h
 ·intro e;exact hn (congrArg Addr.off e)
theorem near6 {w:World} {B n a b c d:Nat} {va vb vc vd:Value} (k:Nat) (V:Value) (ka:w.cell? ⟨B,a,none⟩=some va) (kb:w.cell? ⟨B,b,none⟩=some vb) (kc:w.cell? ⟨B,c,none⟩=some vc) (kd:w.cell? ⟨B,d,none⟩=some vd)
  (kf:w.frozen? ⟨B,n,none⟩=false) (ks:w.cell? ⟨B,n,none⟩=some (cellAt w ⟨B,n,none⟩)) (da:¬ n=a) (db:¬ n=b) (dc:¬ n=c) (dd:¬ n=d) :
  ((w.drewN k).setCell ⟨B,n,none⟩ V).cell? ⟨B,a,none⟩=some va∧((w.drewN k).setCell ⟨B,n,none⟩ V).cell? ⟨B,b,none⟩=some vb∧((w.drewN k).setCell ⟨B,n,none⟩ V).cell? ⟨B,c,none⟩=some vc∧((w.drewN k).setCell ⟨B,n,none⟩ V).cell? ⟨B,d,none⟩=some vd ∧
  ((w.drewN k).setCell ⟨B,n,none⟩ V).frozen? ⟨B,n,none⟩=false∧((w.drewN k).setCell ⟨B,n,none⟩ V).cell? ⟨B,n,none⟩=some (cellAt ((w.drewN k).setCell ⟨B,n,none⟩ V) ⟨B,n,none⟩):=
 ⟨d0Y (w:=w.drewN k) ka da,d0Y (w:=w.drewN k) kb db,d0Y (w:=w.drewN k) kc dc,d0Y (w:=w.drewN k) kd dd,by rw [World.frozen?_setCell];exact kf,g0B (World.cell?_setCell_same (w.drewN k) ⟨B,n,none⟩ V (u:=cellAt w ⟨B,n,none⟩) ks)⟩
end
end Go.Proofs.YtakkfabaeolbdaaGreat
