/- Products by divisors: the walks. No condition. -/
import Derived.Test.YtgehbhkfehmdkaaGreatKUShV
import Derived.Test.YtgehbhkfehmdkaaGreatKUShMd
import Derived.Shelf.Bits.Mul64
import Derived.Shelf.Small.Bits
import Derived.Shelf.Lay
import Derived.Ground.NamesProg
import Derived.Lib.BitFns
import Derived.Test.YtgehbhkfehmdkaaGreatKUShM
import Derived.Test.YtgehbhkfehmdkaaGreatKUShU
set_option maxRecDepth 100000
set_option maxHeartbeats 40000000
set_option linter.unusedSimpArgs false
set_option linter.unusedVariables false
namespace Go.Proofs.YtgehbhkfehmdkaaGreat.Sh
section
open Go.RowKit
theorem wU {n:Int} (h:0 ≤ n ∧ n < 18446744073709551616):IntKind.u64.wrap n = n:=by simp [IntKind.wrap,IntKind.bits,IntKind.signed];omega
theorem wI {n:Int} (h:-9223372036854775808 ≤ n ∧ n < 9223372036854775808):IntKind.i64.wrap n = n:=by simp [IntKind.wrap,IntKind.bits,IntKind.signed];omega
theorem sR {P:Program} {f:FuncId} (hE:ga P f) {vs:List Value} {X:AV} {v:Value} (hX:∀ ρ,X.R ρ v) (h:∀ w,Calls P f vs.toArray w fun e w' => e = .returned v ∧ w' = w):FC P f (vs.map fun u => .c (.sc u)) [] X [] :=
 ⟨hE,fun ρ w fz cargs hl hH ha => by
  have hc:cargs = vs:=by
   clear h
   induction vs generalizing cargs with
   | nil => cases cargs with
     | nil => rfl
     | cons _ _ => exact ha.elim
   | cons u vs ih => cases cargs with
     | nil => exact ha.elim
     | cons c cs =>
       have h1:c = u:=ha.1.1
       rw [h1,ih cs ha.2]
  subst hc
  refine (h w).mono fun e w' hh => ?_
  obtain ⟨rfl,rfl⟩:=hh
  exact ⟨X,[],v,ρ,⟨rfl,rfl⟩,rfl,hX ρ,hH,hl,Ext.refl _⟩⟩
open Go.Shelf in
shelf_lay Lays.n264 Nm 264 at Tryz as laysMul64
open Go.Shelf in
shelf_lay Lays.n134 Nm 134 at Tryz as laysLz64
theorem bits_Mul64 {x y:Int} (hx:0 ≤ x ∧ x < 18446744073709551616) (hy:0 ≤ y ∧ y < 18446744073709551616):FC Tryz.prog 236 [.c (.sc (.int .u64 x)),.c (.sc (.int .u64 y))] [] (.tup [.c (.sc (.int .u64 (x * y / 18446744073709551616))),.c (.sc (.int .u64 (x * y % 18446744073709551616)))]) []:=by
 obtain ⟨n,rfl⟩:∃ n:Nat,x = n:=⟨x.toNat,by omega⟩
 obtain ⟨m,rfl⟩:∃ m:Nat,y = m:=⟨y.toNat,by omega⟩
 refine sR (vs:=[.int .u64 n,.int .u64 m]) (v:=.tuple #[.int .u64 (n * m / 18446744073709551616),.int .u64 (n * m % 18446744073709551616)]) (oR Tryz.func236 (by kernel_rfl) rfl) (fun ρ => ⟨_,rfl,⟨rfl,rfl⟩,⟨rfl,rfl⟩,trivial⟩) (fun w => ?_)
 have h:=Any.bits_Mul64 laysMul64 n m (by omega) (by omega) w
 rw [Int.natCast_ediv,Int.natCast_emod,Int.natCast_mul] at h
 exact h
def lz (y:Int):Int:=64 - (Lib.bitLen y.toNat:Int)
theorem bits_LeadingZeros64 {y:Int} (hy:0 ≤ y ∧ y < 18446744073709551616):FC Tryz.prog 299 [.c (.sc (.int .u64 y))] [] (I (lz y)) [] :=
 sR (vs:=[.int .u64 y]) (v:=.int .i64 (lz y)) (oR Tryz.func299 (by kernel_rfl) rfl) (fun ρ => ⟨rfl,rfl⟩) (fun w => Any.bits_LeadingZeros64 laysLz64 y w hy.1 (by omega))
theorem wo:∀ x:Nat,x ≠ 0 → x < 2 ^ 64 → 2 ^ (Lib.bitLen x) ≤ 2 * x:=by
 intro x
 induction x using Nat.strongRecOn with
 | _ x ih =>
   intro h0 h1
   rw [Lib.bitLen_half x h0 h1]
   by_cases h:x / 2 = 0
   ·have:x = 1:=by omega
    subst this
    decide
   ·have:=ih (x / 2) (by omega) h (by omega)
    rw [Nat.pow_add,Nat.pow_one]
    omega
theorem wq:∀ x:Nat,x < 2 ^ 64 → x < 2 ^ (Lib.bitLen x):=by
 intro x
 induction x using Nat.strongRecOn with
 | _ x ih =>
   intro h1
   by_cases h0:x = 0
   ·subst h0;decide
   rw [Lib.bitLen_half x h0 h1]
   by_cases h:x / 2 = 0
   ·have:x = 1:=by omega
    subst this
    decide
   ·have:=ih (x / 2) (by omega) (by omega)
    rw [Nat.pow_add,Nat.pow_one]
    omega
theorem CA {y:Int} (h:0 < y ∧ y < 18446744073709551616):(0 ≤ lz y ∧ lz y ≤ 63) ∧ 9223372036854775808 ≤ y * 2 ^ (lz y).toNat ∧ y * 2 ^ (lz y).toNat < 18446744073709551616:=by
 obtain ⟨n,rfl⟩:∃ n:Nat,y = n:=⟨y.toNat,by omega⟩
 have h1:=wo n (by omega) (by omega)
 have h2:=wq n (by omega)
 have h3:=Lib.bitLen_le n 64 (by omega) (by omega)
 have h4:Lib.bitLen n ≠ 0:=fun e => by rw [e] at h2;omega
 unfold lz
 rw [Int.toNat_natCast]
 generalize Lib.bitLen n = k at *
 have e:(64 - (k:Int)).toNat = 64 - k:=by omega
 rw [e]
 have h5:2 ^ k * 2 ^ (64 - k) = 18446744073709551616:=by rw [← Nat.pow_add,show k + (64 - k) = 64 from by omega]
 have h6:2 ^ k * 2 ^ (64 - k) ≤ 2 * n * 2 ^ (64 - k):=Nat.mul_le_mul_right _ h1
 have h7:n * 2 ^ (64 - k) < 2 ^ k * 2 ^ (64 - k):=Nat.mul_lt_mul_of_pos_right h2 (Nat.two_pow_pos _)
 rw [Nat.mul_assoc] at h6
 have e2:(n:Int) * 2 ^ (64 - k) = ((n * 2 ^ (64 - k):Nat):Int):=by push_cast;rfl
 rw [e2]
 omega
theorem v2 (n:Int):IntKind.u64.wrap n = n % 18446744073709551616:=by simp [IntKind.wrap,IntKind.bits,IntKind.signed]
theorem gT {a b:Int} (h:0 ≤ b):a.fdiv b = a / b:=Int.fdiv_eq_ediv_of_nonneg a h
theorem kv {s:Int} (h:s ≤ 64):min s.toNat IntKind.u64.bits = s.toNat:=by
 have:IntKind.u64.bits = 64:=rfl
 rw [this]
 omega
theorem oH {x:Int} (h:0 ≤ x ∧ x < 18446744073709551616):(BitVec.ofInt IntKind.u64.bits x).toNat = x.toNat:=by
 have:IntKind.u64.bits = 64:=rfl
 rw [this,BitVec.toNat_ofInt]
 omega
theorem sf {x:Int} (h:0 ≤ x ∧ x < 18446744073709551616):IntKind.u64.wrap (BitVec.ofInt IntKind.u64.bits x &&& BitVec.ofInt IntKind.u64.bits 4294967295).toNat = x % 4294967296:=by
 rw [BitVec.toNat_and,oH h,oH (by omega),show (4294967295:Int).toNat = 2 ^ 32 - 1 from rfl,Nat.and_two_pow_sub_one_eq_mod,wU (by omega)]
 omega
theorem yA {a b:Int} {k:Nat} (ha:0 ≤ a) (hb:0 ≤ b ∧ b < 2 ^ k) (h:a * 2 ^ k + b < 18446744073709551616):IntKind.u64.wrap (BitVec.ofInt IntKind.u64.bits (a * 2 ^ k) ||| BitVec.ofInt IntKind.u64.bits b).toNat = a * 2 ^ k + b:=by
 obtain ⟨m,rfl⟩:∃ m:Nat,a = m:=⟨a.toNat,by omega⟩
 obtain ⟨n,rfl⟩:∃ n:Nat,b = n:=⟨b.toNat,by omega⟩
 have e:(m:Int) * 2 ^ k = ((2 ^ k * m:Nat):Int):=by push_cast;rw [Int.mul_comm]
 have e2:((2:Int) ^ k) = ((2 ^ k:Nat):Int):=by push_cast;rfl
 rw [e] at h ⊢
 have hn:n < 2 ^ k:=by have:=hb.2;rw [e2] at this;omega
 rw [BitVec.toNat_or,oH (by omega),oH (by omega),Int.toNat_natCast,Int.toNat_natCast,← Nat.two_pow_add_eq_or_of_lt hn,wU (by omega)]
 omega
theorem C3 {lo:Int} {s:Int} (h:0 ≤ lo ∧ lo < 18446744073709551616) (hs:0 ≤ s ∧ s ≤ 63):lo.fdiv (2 ^ (min (64 - s).toNat IntKind.u64.bits)) = lo * 2 ^ s.toNat / 18446744073709551616 ∧ lo * 2 ^ s.toNat / 18446744073709551616 < 2 ^ s.toNat:=by
 rw [kv (by omega)]
 have h5:(2:Int) ^ (64 - s).toNat * 2 ^ s.toNat = 18446744073709551616:=by rw [← Int.pow_add,show (64 - s).toNat + s.toNat = 64 from by omega];rfl
 have hp:(0:Int) < 2 ^ s.toNat:=Int.pow_pos (by omega)
 have hq:(0:Int) < 2 ^ (64 - s).toNat:=Int.pow_pos (by omega)
 have e:lo.fdiv (2 ^ (64 - s).toNat) = lo * 2 ^ s.toNat / 18446744073709551616:=by
  rw [gT (by omega),← h5,Int.mul_ediv_mul_of_pos_left _ _ hp]
 refine ⟨e,?_⟩
 rw [Int.ediv_lt_iff_lt_mul (by omega),Int.mul_comm (2 ^ s.toNat)]
 exact Int.mul_lt_mul_of_pos_right h.2 hp
section
variable {P:Program} {T:TB} {ops:Array Oper} {Q:Exit → St → Prop} {h1:AH} {k:Sk} {ks ks':List Sk} {l:List Oper} {N0 k0 d0:Nat} {e0:List (Nat × AV)} {h0:AH} {ty:TypeId} {pos:String} {af:Array Edge} {g:Option (Nat × Bool)}
theorem znw {x y:Operand} {xT yT:TypeId} {kk:IntKind} {a b r r2:Int} {o:BinOp} (hs0:stK ks = (k,ks')) (hx:ev e0 x = some (.c (.sc (.int kk a)))) (hy:ev e0 y = some (.c (.sc (.int kk b)))) (hr:arB o kk a b = some r) (hb:arG o b) (he:r = r2) (hg:gd ops ⟨some d0,.binOp o xT x y yT,ty,pos,af,g⟩ e0 = some true) (hd:Nat.blt d0 N0 = true)
  (h:ZZ P ops Q h1 ks' l ⟨N0,k0,(d0,.c (.sc (.int kk r2))) :: e0,h0⟩):ZZ P ops Q h1 ks (⟨some d0,.binOp o xT x y yT,ty,pos,af,g⟩ :: l) ⟨N0,k0,e0,h0⟩:=by
 subst he
 exact zaw hs0 hx hy hr hb hg hd h
theorem zsw {x y:Operand} {xT yT:TypeId} {kk k2:IntKind} {a b r r2:Int} {o:BinOp} (hs0:stK ks = (k,ks')) (hx:ev e0 x = some (.c (.sc (.int kk a)))) (hy:ev e0 y = some (.c (.sc (.int k2 b)))) (hr:shB o kk a b = some r) (hb:0 ≤ b) (he:r = r2) (hg:gd ops ⟨some d0,.binOp o xT x y yT,ty,pos,af,g⟩ e0 = some true) (hd:Nat.blt d0 N0 = true)
  (h:ZZ P ops Q h1 ks' l ⟨N0,k0,(d0,.c (.sc (.int kk r2))) :: e0,h0⟩):ZZ P ops Q h1 ks (⟨some d0,.binOp o xT x y yT,ty,pos,af,g⟩ :: l) ⟨N0,k0,e0,h0⟩:=by
 subst he
 exact zsh hs0 hx hy hr hb hg hd h
end
end
section
open Go.RowKit
theorem jE {hi lo y:Int} (hh:0 ≤ hi ∧ hi < y) (hl:0 ≤ lo ∧ lo < 18446744073709551616) (hy:y < 18446744073709551616):FC Tryz.prog 237 [.c (.sc (.int .u64 hi)),.c (.sc (.int .u64 lo)),.c (.sc (.int .u64 y))] ([]) (.tup [.c (.sc (.int .u64 ((hi * 18446744073709551616 + lo) / y))),.c (.sc (.int .u64 ((hi * 18446744073709551616 + lo) % y)))]) ([]):=by
 refine ax tk 135 [.tmp 6,.tmp 7] Tryz.func237 (by kernel_rfl) rfl rfl rfl rfl rfl rfl rfl ?_
 by_cases hz:hi = 0
 ·subst hz
  rw [Int.zero_mul,Int.zero_add]
  have e1:IntKind.u64.wrap (lo.tdiv y) = lo / y:=by
   rw [Int.tdiv_eq_ediv_of_nonneg hl.1,wU]
   refine ⟨Int.ediv_nonneg hl.1 (by omega),?_⟩
   have:=Int.ediv_le_self y hl.1
   omega
  have e2:lo.tmod y = lo % y:=Int.tmod_eq_emod_of_nonneg hl.1
  repeat' (first
| intro h9;exfalso;first | contradiction | omega
| apply znw;rfl;rfl;rfl;rfl;trivial;assumption;rfl;rfl
| apply yd;rfl
| intro _
| refine nv ?_
| apply wct rfl
| apply wcf rfl
| apply ai;rfl
| refine zdq (id:=6) rfl (by kernel_rfl) [(.p,0),(.p,1),(.p,2),(.p,3),(.p,4),(.p,5),(.p,6),(.p,7)] [] (by kernel_rfl) rfl ?_
| fail)
  all_goals exact ak [] rfl rfl rfl rfl rfl rfl
 obtain ⟨⟨hs0,hs1⟩,hY0,hY1⟩:=CA (y:=y) ⟨by omega,hy⟩
 obtain ⟨s,hs⟩:∃ s,s = lz y:=⟨_,rfl⟩
 rw [← hs] at hs0 hs1 hY0 hY1
 have hp0:(0:Int) < 2 ^ s.toNat:=Int.pow_pos (by omega)
 have es:IntKind.u64.wrap (lz y) = s:=by rw [← hs];exact wU (by omega)
 obtain ⟨Y,hYd⟩:∃ Y,Y = y * 2 ^ s.toNat:=⟨_,rfl⟩
 rw [← hYd] at hY0 hY1
 have hY:9223372036854775808 ≤ Y ∧ Y < 18446744073709551616:=⟨hY0,hY1⟩
 have e1:IntKind.u64.wrap (y * 2 ^ (min s.toNat IntKind.u64.bits)) = Y:=by rw [kv (by omega),← hYd,wU (by omega)]
 obtain ⟨yh,hyh⟩:∃ z,z = Y / 4294967296:=⟨_,rfl⟩
 obtain ⟨yl,hyl⟩:∃ z,z = Y % 4294967296:=⟨_,rfl⟩
 have e2:Y.fdiv (2 ^ (min (32:Int).toNat IntKind.u64.bits)) = yh:=by rw [gT (by decide),hyh];rfl
 have e3:IntKind.u64.wrap (BitVec.ofInt IntKind.u64.bits Y &&& BitVec.ofInt IntKind.u64.bits 4294967295).toNat = yl:=by rw [sf (by omega),hyl]
 have hhs:hi * 2 ^ s.toNat < Y:=by rw [hYd];exact Int.mul_lt_mul_of_pos_right hh.2 hp0
 have hhs0:0 ≤ hi * 2 ^ s.toNat:=Int.mul_nonneg hh.1 (by omega)
 have e4:IntKind.u64.wrap (hi * 2 ^ (min s.toNat IntKind.u64.bits)) = hi * 2 ^ s.toNat:=by rw [kv (by omega),wU (by omega)]
 obtain ⟨e6,hL⟩:=C3 hl ⟨hs0,hs1⟩
 have hL0:0 ≤ lo * 2 ^ s.toNat / 18446744073709551616:=Int.ediv_nonneg (Int.mul_nonneg hl.1 (by omega)) (by omega)
 have hA0:hi * 2 ^ s.toNat + lo * 2 ^ s.toNat / 18446744073709551616 < Y:=by
  have h1:(hi + 1) * 2 ^ s.toNat ≤ y * 2 ^ s.toNat:=Int.mul_le_mul_of_nonneg_right (by omega) (by omega)
  rw [Int.add_mul,Int.one_mul] at h1
  omega
 have e7:=yA (a:=hi) (b:=lo * 2 ^ s.toNat / 18446744073709551616) (k:=s.toNat) hh.1 ⟨hL0,hL⟩ (by omega)
 obtain ⟨u10,hu10⟩:∃ z,z = lo * 2 ^ s.toNat % 18446744073709551616:=⟨_,rfl⟩
 have e8:IntKind.u64.wrap (lo * 2 ^ (min s.toNat IntKind.u64.bits)) = u10:=by rw [kv (by omega),v2,hu10]
 obtain ⟨u1,hu1⟩:∃ z,z = u10 / 4294967296:=⟨_,rfl⟩
 obtain ⟨u0,hu0⟩:∃ z,z = u10 % 4294967296:=⟨_,rfl⟩
 have e9:u10.fdiv (2 ^ (min (32:Int).toNat IntKind.u64.bits)) = u1:=by rw [gT (by decide),hu1];rfl
 have e10:IntKind.u64.wrap (BitVec.ofInt IntKind.u64.bits u10 &&& BitVec.ofInt IntKind.u64.bits 4294967295).toNat = u0:=by rw [sf (by omega),hu0]
 obtain ⟨A,hA⟩:∃ z,z = hi * 2 ^ s.toNat + lo * 2 ^ s.toNat / 18446744073709551616:=⟨_,rfl⟩
 rw [← hA] at e7 hA0
 have hA1:0 ≤ A:=by omega
 have hT:(A * 4294967296 + u1) * 4294967296 + u0 = (hi * 18446744073709551616 + lo) * 2 ^ s.toNat:=by
  rw [Int.add_mul (hi * 18446744073709551616),show hi * 18446744073709551616 * 2 ^ s.toNat = hi * 2 ^ s.toNat * 18446744073709551616 from by grind]
  omega
 have hyh1:2147483648 ≤ yh ∧ yh < 4294967296:=by omega
 have e11:IntKind.u64.wrap (A.tdiv yh) = A / yh:=by
  rw [Int.tdiv_eq_ediv_of_nonneg hA1,wU]
  refine ⟨Int.ediv_nonneg hA1 (by omega),?_⟩
  have:=Int.ediv_le_self yh hA1
  omega
 have hd1:=kb A yh (by omega)
 rw [Int.mul_comm] at hd1
 have hU:0 ≤ A * 4294967296 + u1 ∧ A * 4294967296 + u1 < Y * 4294967296:=by omega
 have hUh:(A * 4294967296 + u1) / 4294967296 = A:=by omega
 have hUl:(A * 4294967296 + u1) % 4294967296 = u1:=by omega
 have hK:=vy hY hU
 rw [hUh,← hyh] at hK
 have hK':Kn (A * 4294967296 + u1) Y (A / yh) (A - A / yh * yh):=by rw [show A - A / yh * yh = A % yh from by omega];exact hK
 clear hK
 have hq1:=wH hY hU
 have hyl1:0 ≤ yl ∧ yl < 4294967296:=by omega
 have hu1b:0 ≤ u1 ∧ u1 < 4294967296:=by omega
 have hu0b:0 ≤ u0 ∧ u0 < 4294967296:=by omega
 have hd2:0 ≤ A / yh * yh:=Int.mul_nonneg (Int.ediv_nonneg hA1 (by omega)) (by omega)
 clear hL hL0 hhs hhs0
 repeat' (first
| intro h9;exfalso;first | contradiction | omega
| apply znw;rfl;rfl;rfl;rfl;(first | trivial | (show (_:Int) ≠ _;omega));(first | assumption | exact wU (by omega));rfl;rfl
| apply zsw;rfl;rfl;rfl;rfl;omega;assumption;rfl;rfl
| apply zcv;rfl;exact tk;rfl;rfl;rfl;assumption;rfl;rfl
| apply yd;rfl
| intro _
| refine nv ?_
| apply wcf rfl
| apply ai;rfl
| apply yc;rfl;exact bits_LeadingZeros64 (by omega);rfl;exact fun _ => rfl
| fail)
 obtain ⟨Q1,hQ1⟩:∃ z,z = (A * 4294967296 + u1) / Y:=⟨_,rfl⟩
 obtain ⟨R1,hR1⟩:∃ z,z = (A * 4294967296 + u1) % Y:=⟨_,rfl⟩
 rw [← hQ1] at hq1
 have hd4:=kb (A * 4294967296 + u1) Y (by omega)
 rw [← hQ1,← hR1,Int.mul_comm Y] at hd4
 have e12:IntKind.u64.wrap (IntKind.u64.wrap (IntKind.u64.wrap (A * 4294967296) + u1) - IntKind.u64.wrap (Q1 * Y)) = R1:=by
  simp only [v2]
  omega
 have e13:IntKind.u64.wrap (R1.tdiv yh) = R1 / yh:=by
  rw [Int.tdiv_eq_ediv_of_nonneg hd4.2.1,wU]
  refine ⟨Int.ediv_nonneg hd4.2.1 (by omega),?_⟩
  have:=Int.ediv_le_self yh hd4.2.1
  omega
 have hd5:=kb R1 yh (by omega)
 rw [Int.mul_comm] at hd5
 have hd6:0 ≤ R1 / yh * yh:=Int.mul_nonneg (Int.ediv_nonneg hd4.2.1 (by omega)) (by omega)
 have hU2:0 ≤ R1 * 4294967296 + u0 ∧ R1 * 4294967296 + u0 < Y * 4294967296:=by omega
 have hU2h:(R1 * 4294967296 + u0) / 4294967296 = R1:=by omega
 have hU2l:(R1 * 4294967296 + u0) % 4294967296 = u0:=by omega
 have hL:=vy hY hU2
 rw [hU2h,← hyh] at hL
 have hL':Kn (R1 * 4294967296 + u0) Y (R1 / yh) (R1 - R1 / yh * yh):=by rw [show R1 - R1 / yh * yh = R1 % yh from by omega];exact hL
 clear hL
 have hq2:=wH hY hU2
 obtain ⟨Q0,hQ0⟩:∃ z,z = (R1 * 4294967296 + u0) / Y:=⟨_,rfl⟩
 obtain ⟨R0,hR0⟩:∃ z,z = (R1 * 4294967296 + u0) % Y:=⟨_,rfl⟩
 rw [← hQ0] at hq2
 have hd7:=kb (R1 * 4294967296 + u0) Y (by omega)
 rw [← hQ0,← hR0,Int.mul_comm Y] at hd7
 have e14:IntKind.u64.wrap (IntKind.u64.wrap (IntKind.u64.wrap (R1 * 4294967296) + u0) - IntKind.u64.wrap (Q0 * Y)) = R0:=by
  simp only [v2]
  omega
 have hfin:(hi * 18446744073709551616 + lo) / y = Q1 * 4294967296 + Q0 ∧ R0.fdiv (2 ^ (min s.toNat IntKind.u64.bits)) = (hi * 18446744073709551616 + lo) % y:=by
  have h1:=zT (A:=A) (u1:=u1) (u0:=u0) (y:=Y) (by omega)
  rw [← hQ1,← hR1,← hQ0,← hR0,hT] at h1
  have h2:=AJ h1 hd7.2.1 hd7.2.2
  have h3:=y5 (N:=hi * 18446744073709551616 + lo) (c:=y) (by omega) hp0
  rw [← hYd,h2.1,h2.2] at h3
  rw [kv (by omega),gT (by omega)]
  exact ⟨h3.1.symm,h3.2⟩
 obtain ⟨hf1,e15⟩:=hfin
 rw [hf1]
 clear hf1 hT
 refine wlp (X:=Int × Int) [2,8,9,10,11,13,14] [] (fun x => [(15,.c (.sc (.int .u64 x.1))),(16,.c (.sc (.int .u64 x.2)))]) (fun _ => []) (fun x => Kn (A * 4294967296 + u1) Y x.1 x.2) (fun x => x.1.toNat) (A / yh,A - A / yh * yh) hK' rfl rfl (fun _ => rfl) (fun _ => rfl) ⟨rfl,rfl,rfl,rfl,rfl,rfl,rfl,rfl⟩ (fun x hx => ?_)
 all_goals
  obtain ⟨q,r⟩:=x
  dsimp only at hx ⊢
  have hge:=hx.ge
  have hle:=hx.le
  have hnn:=hx.nn
  have hlt:=hx.lt
  have hcase:((q ≥ 4294967296 ∨ q * yl > 4294967296 * r + u1) ∧ 1 ≤ q ∧ r + yh < 4294967296 ∧ Kn (A * 4294967296 + u1) Y (q - 1) (r + yh)) ∨ ((q ≥ 4294967296 ∨ q * yl > 4294967296 * r + u1) ∧ 1 ≤ q ∧ ¬ r + yh < 4294967296 ∧ IntKind.u64.wrap (q - 1) = Q1) ∨ (¬ (q ≥ 4294967296 ∨ q * yl > 4294967296 * r + u1) ∧ 0 ≤ q ∧ True ∧ q = Q1):=by
   have hgt:=t8 hY hU hx
   have hst:=vz hY hU hx
   have hbr:=t7 hY hU hx
   have hdn:=vx hY hU hx
   rw [← hyl,hUl,← hQ1] at hgt
   rw [← hyl,hUl,← hyh] at hst
   rw [← hyl,hUl,← hyh,← hQ1] at hbr
   rw [← hyl,hUl,← hQ1] at hdn
   by_cases hC:q ≥ 4294967296 ∨ q * yl > 4294967296 * r + u1
   ·have h1:=hgt.1 hC
    by_cases hr:r + yh < 4294967296
    ·exact .inl ⟨hC,by omega,hr,hst hC hr⟩
    ·exact .inr (.inl ⟨hC,by omega,hr,by rw [hbr hC hr];exact wU (by omega)⟩)
   ·have h1:=hdn hC
    exact .inr (.inr ⟨hC,by omega,trivial,h1⟩)
  have hmul:q ≥ 4294967296 ∨ (0 ≤ q * yl ∧ q * yl < 18446744073709551616):=by
   by_cases hq:q < 4294967296
   ·have:=y4 hY hU hx hq
    rw [← hyl] at this
    exact .inr this
   ·exact .inl (by omega)
  clear hge hx
  rcases hcase with ⟨h1,h2,h3,h4⟩ | ⟨h1,h2,h3,h4⟩ | ⟨h1,h2,h3,rfl⟩
 all_goals
  repeat' (first
| intro h9;exfalso;omega
| apply znw;rfl;rfl;rfl;rfl;(first | trivial | (show (_:Int) ≠ _;omega));(first | assumption | exact wU (by omega) | rfl);rfl;rfl
| apply yd;rfl
| intro _
| refine nv ?_
| apply wct rfl
| apply wcf rfl
| apply ah rfl
| apply xr rfl
| apply ai;rfl
| fail)
 all_goals first | exact aB (q - 1,r + yh) [] ⟨rfl,rfl,rfl,rfl,rfl,rfl,rfl,rfl⟩ h4 (by omega) | skip
 all_goals clear h1 h2 h3 hnn hlt hle hmul
 all_goals refine wlp (X:=Int × Int) [2,8,9,10,14,15,17] [] (fun x => [(18,.c (.sc (.int .u64 x.1))),(16,.c (.sc (.int .u64 x.2)))]) (fun _ => []) (fun x => Kn (R1 * 4294967296 + u0) Y x.1 x.2) (fun x => x.1.toNat) (R1 / yh,R1 - R1 / yh * yh) hL' rfl rfl (fun _ => rfl) (fun _ => rfl) ⟨rfl,rfl,rfl,rfl,rfl,rfl,rfl,rfl⟩ (fun x hx => ?_)
 all_goals
  obtain ⟨q',r'⟩:=x
  dsimp only at hx ⊢
  have hge:=hx.ge
  have hle:=hx.le
  have hnn:=hx.nn
  have hlt:=hx.lt
  have hcase:((q' ≥ 4294967296 ∨ q' * yl > 4294967296 * r' + u0) ∧ 1 ≤ q' ∧ r' + yh < 4294967296 ∧ Kn (R1 * 4294967296 + u0) Y (q' - 1) (r' + yh)) ∨ ((q' ≥ 4294967296 ∨ q' * yl > 4294967296 * r' + u0) ∧ 1 ≤ q' ∧ ¬ r' + yh < 4294967296 ∧ IntKind.u64.wrap (q' - 1) = Q0) ∨ (¬ (q' ≥ 4294967296 ∨ q' * yl > 4294967296 * r' + u0) ∧ 0 ≤ q' ∧ True ∧ q' = Q0):=by
   have hgt:=t8 hY hU2 hx
   have hst:=vz hY hU2 hx
   have hbr:=t7 hY hU2 hx
   have hdn:=vx hY hU2 hx
   rw [← hyl,hU2l,← hQ0] at hgt
   rw [← hyl,hU2l,← hyh] at hst
   rw [← hyl,hU2l,← hyh,← hQ0] at hbr
   rw [← hyl,hU2l,← hQ0] at hdn
   by_cases hC:q' ≥ 4294967296 ∨ q' * yl > 4294967296 * r' + u0
   ·have h1:=hgt.1 hC
    by_cases hr:r' + yh < 4294967296
    ·exact .inl ⟨hC,by omega,hr,hst hC hr⟩
    ·exact .inr (.inl ⟨hC,by omega,hr,by rw [hbr hC hr];exact wU (by omega)⟩)
   ·have h1:=hdn hC
    exact .inr (.inr ⟨hC,by omega,trivial,h1⟩)
  have hmul:q' ≥ 4294967296 ∨ (0 ≤ q' * yl ∧ q' * yl < 18446744073709551616):=by
   by_cases hq:q' < 4294967296
   ·have:=y4 hY hU2 hx hq
    rw [← hyl] at this
    exact .inr this
   ·exact .inl (by omega)
  clear hge hx
  rcases hcase with ⟨h1,h2,h3,h4⟩ | ⟨h1,h2,h3,h4⟩ | ⟨h1,h2,h3,rfl⟩
 all_goals
  repeat' (first
| intro h9;exfalso;omega
| apply znw;rfl;rfl;rfl;rfl;trivial;(first | assumption | exact wU (by omega) | rfl);rfl;rfl
| apply zsw;rfl;rfl;rfl;rfl;omega;assumption;rfl;rfl
| apply yd;rfl
| intro _
| refine nv ?_
| apply wct rfl
| apply wcf rfl
| apply ah rfl
| apply xr rfl
| apply ai;rfl
| fail)
 all_goals first | exact aB (q' - 1,r' + yh) [] ⟨rfl,rfl,rfl,rfl,rfl,rfl,rfl,rfl⟩ h4 (by omega) | exact ak [] rfl rfl rfl rfl rfl rfl
end
section
open Go.RowKit
def fw (a b c:Int):Prop:=inP a 0 1000000000000000 ∧ inP b 0 1000000000000000 ∧ inP c 1 1000000000000000 ∧ a * b / c ≤ 1000000000000000
theorem uA {a b c:Int} (h:fw a b c):(0 ≤ a ∧ a ≤ 1000000000000000) ∧ (0 ≤ b ∧ b ≤ 1000000000000000) ∧ 1 ≤ c ∧ c ≤ 1000000000000000:=⟨h.1,h.2.1,h.2.2.1⟩
theorem vC {a b:Int} (h:0 ≤ a ∧ a ≤ 1000000000000000) (k:0 ≤ b ∧ b ≤ 1000000000000000):0 ≤ a * b ∧ a * b ≤ 1000000000000000000000000000000:=⟨Int.mul_nonneg h.1 k.1,by have:=np (a:=a) (b:=b) h.2 k.2 k.1 (by omega);omega⟩
theorem eD {a b c:Int} (h:fw a b c):FC Tryz.prog 129 [I a,I b,I c] ([]) (.tup [I (a * b / c),I (a * b % c),B true]) ([]):=by
 refine ax tk 52 [.tmp 6,.tmp 7,.tmp 8] Tryz.func129 (by kernel_rfl) rfl rfl rfl rfl rfl rfl rfl ?_
 obtain ⟨h1,h2,h3,h4⟩:=h
 have q1:=h1
 have q2:=h2
 have q3:=h3
 unfold inP at q1 q2 q3
 have hab:=vC q1 q2
 have hq0:0 ≤ a * b / c:=Int.ediv_nonneg hab.1 (by omega)
 have hr0:0 ≤ a * b % c ∧ a * b % c < c:=⟨Int.emod_nonneg _ (by omega),Int.emod_lt_of_pos _ (by omega)⟩
 have hlt:a * b / 18446744073709551616 < c:=by
  have hd:=kb (a * b) c (by omega)
  have:c * (a * b / c) ≤ c * 1000000000000000:=Int.mul_le_mul_of_nonneg_left h4 (by omega)
  omega
 have e:a * b / 18446744073709551616 * 18446744073709551616 + a * b % 18446744073709551616 = a * b:=by omega
 have e1:(a * b / 18446744073709551616 * 18446744073709551616 + a * b % 18446744073709551616) / c = a * b / c:=by rw [e]
 have e2:(a * b / 18446744073709551616 * 18446744073709551616 + a * b % 18446744073709551616) % c = a * b % c:=by rw [e]
 repeat' (first
| intro h9;exfalso;first | contradiction | omega
| apply zcv;rfl;exact tk;rfl;rfl;rfl;(first | exact wU (by omega) | exact wI (by omega));rfl;rfl
| apply yd;rfl
| intro _
| refine nv ?_
| apply wcf rfl
| apply ai;rfl
| apply ycp;rfl;exact bm;rfl
| apply yc;rfl;(first | exact bits_Mul64 (by omega) (by omega) | exact jE (by omega) (by omega) (by omega));rfl;exact fun _ => rfl
| fail)
 rw [e1,e2]
 repeat' (first
| fail)
 all_goals exact ak [] rfl rfl rfl rfl rfl rfl
theorem oY {a b c:Int} (h:¬ fw a b c):FC Tryz.prog 129 [I a,I b,I c] ([]) (.tup [I 0,I 0,B false]) ([]):=by
 refine ax tk 52 [.tmp 6,.tmp 7,.tmp 8] Tryz.func129 (by kernel_rfl) rfl rfl rfl rfl rfl rfl rfl ?_
 by_cases hi:inP a 0 1000000000000000 ∧ inP b 0 1000000000000000 ∧ inP c 1 1000000000000000
 rotate_left
 ·
  repeat' (first
| intro h9;exact absurd ⟨by assumption,by assumption,by assumption⟩ hi
| apply yd;rfl
| intro _
| refine nv ?_
| apply wct rfl
| apply ycp;rfl;exact bm;rfl
| fail)
  all_goals exact ak [] rfl rfl rfl rfl rfl rfl
 obtain ⟨h1,h2,h3⟩:=id hi
 have h4:¬ a * b / c ≤ 1000000000000000:=fun k => h ⟨h1,h2,h3,k⟩
 have q1:=h1
 have q2:=h2
 have q3:=h3
 unfold inP at q1 q2 q3
 have hab:=vC q1 q2
 have e:a * b / 18446744073709551616 * 18446744073709551616 + a * b % 18446744073709551616 = a * b:=by omega
 have e1:(a * b / 18446744073709551616 * 18446744073709551616 + a * b % 18446744073709551616) / c = a * b / c:=by rw [e]
 repeat' (first
| intro h9;exfalso;first | contradiction | omega
| apply zcv;rfl;exact tk;rfl;rfl;rfl;(exact wU (by omega));rfl;rfl
| apply yd;rfl
| intro _
| refine nv ?_
| apply wct rfl
| apply wcf rfl
| apply ai;rfl
| apply ycp;rfl;exact bm;rfl
| apply yc;rfl;(first | exact bits_Mul64 (by omega) (by omega) | exact jE (by omega) (by omega) (by omega));rfl;exact fun _ => rfl
| fail)
 all_goals first
  | exact ak [] rfl rfl rfl rfl rfl rfl
  | (rw [e1]
     repeat' (first
| fail)
     all_goals exact ak [] rfl rfl rfl rfl rfl rfl)
theorem wj {x:Int} (h:0 ≤ x ∧ x < 9223372036854775808):IntKind.i64.wrap (BitVec.ofInt IntKind.i64.bits x &&& BitVec.ofInt IntKind.i64.bits 1).toNat = x % 2:=by
 have h64:IntKind.i64.bits = 64:=rfl
 rw [h64,BitVec.toNat_and,BitVec.toNat_ofInt,BitVec.toNat_ofInt,show ((1:Int) % ((2 ^ 64:Nat):Int)).toNat = 2 ^ 1 - 1 from rfl,Nat.and_two_pow_sub_one_eq_mod,wI (by omega)]
 omega
structure MdI (a b c i q r:Int):Prop where
 bnd:-1 ≤ i ∧ i ≤ 50
 qb:0 ≤ q ∧ q ≤ 1000000000000000
 rb:0 ≤ r ∧ r < c
 eq:a / 2 ^ (i + 1).toNat * b = c * q + r
theorem tu {a i:Int} (h:0 ≤ i):a / 2 ^ (i + 1).toNat = a / 2 ^ i.toNat / 2:=by
 rw [show (i + 1).toNat = i.toNat + 1 from by omega,Int.pow_succ,Int.ediv_ediv_of_nonneg (Int.le_of_lt (Int.pow_pos (by omega)))]
section
variable {a b c i q r q' r':Int}
theorem MdI.init (ha:0 ≤ a ∧ a ≤ 1000000000000000) (hc:1 ≤ c):MdI a b c 50 0 0:=by
 refine ⟨by omega,by omega,by omega,?_⟩
 have:a / 2 ^ ((50:Int) + 1).toNat = 0:=Int.ediv_eq_zero_of_lt ha.1 (by rw [show (2:Int) ^ ((50:Int) + 1).toNat = 2251799813685248 from rfl];omega)
 rw [this]
 omega
theorem MdI.next (h:MdI a b c i q r) (h0:0 ≤ i) (hr:0 ≤ r' ∧ r' < c) (hq:0 ≤ q' ∧ q' ≤ 1000000000000000) (he:a / 2 ^ i.toNat * b = c * q' + r'):MdI a b c (i - 1) q' r' :=
 ⟨by have:=h.bnd;omega,hq,hr,by rw [show i - 1 + 1 = i from by omega];exact he⟩
theorem MdI.stop (h:MdI a b c i q r) (hab:0 ≤ a ∧ 0 ≤ b) (hc:1 ≤ c) (hr:0 ≤ r') (hq:1000000000000000 < q') (he:a / 2 ^ i.toNat * b = c * q' + r'):¬ fw a b c:=fun k => by
 have h1:a / 2 ^ i.toNat ≤ a:=Int.ediv_le_self _ hab.1
 have h2:a / 2 ^ i.toNat * b ≤ a * b:=Int.mul_le_mul_of_nonneg_right h1 hab.2
 have h3:q' ≤ a * b / c:=by
  rw [Int.le_ediv_iff_mul_le (by omega),Int.mul_comm]
  omega
 have:=k.2.2.2
 omega
theorem MdI.done (h:MdI a b c i q r) (hi:¬ i ≥ 0):a * b / c = q ∧ a * b % c = r:=by
 have h1:=h.eq
 rw [show (i + 1).toNat = 0 from by have:=h.bnd;omega,Int.pow_zero,Int.ediv_one] at h1
 exact AJ h1 h.rb.1 h.rb.2
end
theorem bC {a b c:Int} (h:fw a b c):FC Tryz.prog 33 [I a,I b,I c] ([]) (.tup [I (a * b / c),I (a * b % c),B true]) ([]):=by
 refine ax tk 68 [.tmp 6,.tmp 7,.tmp 8] Tryz.func33 (by kernel_rfl) rfl rfl rfl rfl rfl rfl rfl ?_
 obtain ⟨h1,h2,h3,h4⟩:=id h
 have q1:=h1
 have q2:=h2
 have q3:=h3
 unfold inP at q1 q2 q3
 have hbc:0 ≤ b / c ∧ b / c ≤ 1000000000000000:=⟨Int.ediv_nonneg q2.1 (by omega),by have:=Int.ediv_le_self c q2.1;omega⟩
 have hbm:0 ≤ b % c ∧ b % c < c:=⟨Int.emod_nonneg _ (by omega),Int.emod_lt_of_pos _ (by omega)⟩
 have hbd:=(kb b c (by omega)).1
 have e1:IntKind.i64.wrap (b.tdiv c) = b / c:=by rw [Int.tdiv_eq_ediv_of_nonneg q2.1,wI (by omega)]
 have e2:b.tmod c = b % c:=Int.tmod_eq_emod_of_nonneg q2.1
 repeat' (first
| intro h9;exfalso;contradiction
| apply yds;rfl
| apply yd;rfl
| intro _
| refine nv ?_
| apply wcf rfl
| apply ycp;rfl;exact aJ;rfl
| fail)
 refine wlp (X:=Int × Int × Int) [0,1,2] [] (fun x => [(11,I x.1),(9,I x.2.1),(10,I x.2.2)]) (fun _ => []) (fun x => MdI a b c x.1 x.2.1 x.2.2) (fun x => (x.1 + 1).toNat) (50,0,0) (MdI.init q1 q3.1) rfl rfl (fun _ => rfl) (fun _ => rfl) ⟨rfl,rfl,rfl,rfl,rfl,rfl,rfl,rfl⟩ (fun x hx => ?_)
 obtain ⟨i,q,r⟩:=x
 dsimp only at hx ⊢
 obtain ⟨i0,i1⟩:=hx.bnd
 have hq:=hx.qb
 have hr:=hx.rb
 by_cases hi:0 ≤ i
 rotate_left
 ·
  repeat' (first
| intro h9;exfalso;contradiction
| apply yds;rfl
| apply yd;rfl
| intro _
| refine nv ?_
| apply wcf rfl
| apply ah rfl
| apply ai;rfl
| fail)
  all_goals (obtain ⟨d1,d2⟩:=hx.done (by omega);rw [d1,d2];exact ak [] rfl rfl rfl rfl rfl rfl)
 obtain ⟨z,hz⟩:∃ z,z = a / 2 ^ i.toNat:=⟨_,rfl⟩
 have hz0:0 ≤ z ∧ z ≤ a:=⟨by rw [hz];exact Int.ediv_nonneg q1.1 (Int.le_of_lt (Int.pow_pos (by omega))),by rw [hz];exact Int.ediv_le_self _ q1.1⟩
 have e3:a.fdiv (2 ^ (min i.toNat IntKind.i64.bits)) = z:=by
  have h64:IntKind.i64.bits = 64:=rfl
  rw [h64,show min i.toNat 64 = i.toNat from by omega,gT (Int.le_of_lt (Int.pow_pos (by omega))),hz]
 have e4:IntKind.i64.wrap (BitVec.ofInt IntKind.i64.bits z &&& BitVec.ofInt IntKind.i64.bits 1).toNat = z % 2:=wj (by omega)
 have heq:=hx.eq
 rw [tu hi,← hz] at heq
 have hzb:z * b = 2 * (z / 2 * b) + z % 2 * b:=by
  have:z = 2 * (z / 2) + z % 2:=by omega
  calc z * b = (2 * (z / 2) + z % 2) * b:=by rw [← this]
   _ = _:=by grind
 have he:∀ q' r':Int,2 * (c * q + r) + z % 2 * b = c * q' + r' → a / 2 ^ i.toNat * b = c * q' + r':=fun q' r' k => by rw [← hz,hzb,heq];exact k
 by_cases hbit:z % 2 = 1
 ·rw [hbit,Int.one_mul] at he
  repeat' (first
| intro h9;exfalso;contradiction
| apply znw;rfl;rfl;rfl;rfl;(first | trivial | (show (_:Int) ≠ _;omega));(first | assumption | exact wI (by omega));rfl;rfl
| apply zsw;rfl;rfl;rfl;rfl;omega;assumption;rfl;rfl
| apply yd;rfl
| intro _
| refine nv ?_
| apply wct rfl
| apply wcf rfl
| apply ai;rfl
| fail)
  all_goals first
   | exact aB (i - 1,2 * q + 1 + b / c + 1,2 * r - c + b % c - c) [] ⟨rfl,rfl,rfl,rfl,rfl,rfl,rfl,rfl⟩ (hx.next (q':=2 * q + 1 + b / c + 1) (r':=2 * r - c + b % c - c) hi (by omega) (by omega) (he _ _ (by grind))) (by first | omega | (dsimp only;omega))
   | exact aB (i - 1,2 * q + 1 + b / c,2 * r - c + b % c) [] ⟨rfl,rfl,rfl,rfl,rfl,rfl,rfl,rfl⟩ (hx.next (q':=2 * q + 1 + b / c) (r':=2 * r - c + b % c) hi (by omega) (by omega) (he _ _ (by grind))) (by first | omega | (dsimp only;omega))
   | exact aB (i - 1,2 * q + b / c + 1,2 * r + b % c - c) [] ⟨rfl,rfl,rfl,rfl,rfl,rfl,rfl,rfl⟩ (hx.next (q':=2 * q + b / c + 1) (r':=2 * r + b % c - c) hi (by omega) (by omega) (he _ _ (by grind))) (by first | omega | (dsimp only;omega))
   | exact aB (i - 1,2 * q + b / c,2 * r + b % c) [] ⟨rfl,rfl,rfl,rfl,rfl,rfl,rfl,rfl⟩ (hx.next (q':=2 * q + b / c) (r':=2 * r + b % c) hi (by omega) (by omega) (he _ _ (by grind))) (by first | omega | (dsimp only;omega))
   | exact absurd h (hx.stop (q':=2 * q + 1 + b / c + 1) (r':=2 * r - c + b % c - c) ⟨q1.1,q2.1⟩ q3.1 (by omega) (by omega) (he _ _ (by grind)))
   | exact absurd h (hx.stop (q':=2 * q + 1 + b / c) (r':=2 * r - c + b % c) ⟨q1.1,q2.1⟩ q3.1 (by omega) (by omega) (he _ _ (by grind)))
   | exact absurd h (hx.stop (q':=2 * q + b / c + 1) (r':=2 * r + b % c - c) ⟨q1.1,q2.1⟩ q3.1 (by omega) (by omega) (he _ _ (by grind)))
   | exact absurd h (hx.stop (q':=2 * q + b / c) (r':=2 * r + b % c) ⟨q1.1,q2.1⟩ q3.1 (by omega) (by omega) (he _ _ (by grind)))
   | trace_state
 ·rw [show z % 2 = 0 from by omega,Int.zero_mul] at he
  repeat' (first
| intro h9;exfalso;contradiction
| apply znw;rfl;rfl;rfl;rfl;trivial;(first | assumption | exact wI (by omega));rfl;rfl
| apply zsw;rfl;rfl;rfl;rfl;omega;assumption;rfl;rfl
| apply yd;rfl
| intro _
| refine nv ?_
| apply wct rfl
| apply wcf rfl
| apply ai;rfl
| fail)
  all_goals first
   | exact aB (i - 1,2 * q + 1,2 * r - c) [] ⟨rfl,rfl,rfl,rfl,rfl,rfl,rfl,rfl⟩ (hx.next (q':=2 * q + 1) (r':=2 * r - c) hi (by omega) (by omega) (he _ _ (by grind))) (by first | omega | (dsimp only;omega))
   | exact aB (i - 1,2 * q,2 * r) [] ⟨rfl,rfl,rfl,rfl,rfl,rfl,rfl,rfl⟩ (hx.next (q':=2 * q) (r':=2 * r) hi (by omega) (by omega) (he _ _ (by grind))) (by first | omega | (dsimp only;omega))
   | exact absurd h (hx.stop (q':=2 * q + 1) (r':=2 * r - c) ⟨q1.1,q2.1⟩ q3.1 (by omega) (by omega) (he _ _ (by grind)))
   | exact absurd h (hx.stop (q':=2 * q) (r':=2 * r) ⟨q1.1,q2.1⟩ q3.1 (by omega) (by omega) (he _ _ (by grind)))
   | trace_state
theorem kE {a b c:Int} (h:¬ fw a b c):FC Tryz.prog 33 [I a,I b,I c] ([]) (.tup [I 0,I 0,B false]) ([]):=by
 refine ax tk 68 [.tmp 6,.tmp 7,.tmp 8] Tryz.func33 (by kernel_rfl) rfl rfl rfl rfl rfl rfl rfl ?_
 by_cases hi0:inP a 0 1000000000000000 ∧ inP b 0 1000000000000000 ∧ inP c 1 1000000000000000
 rotate_left
 ·
  repeat' (first
| intro h9;exact absurd ⟨by assumption,by assumption,by assumption⟩ hi0
| apply yd;rfl
| intro _
| refine nv ?_
| apply wct rfl
| apply ycp;rfl;exact aJ;rfl
| fail)
  all_goals exact ak [] rfl rfl rfl rfl rfl rfl
 obtain ⟨h1,h2,h3⟩:=id hi0
 have q1:=h1
 have q2:=h2
 have q3:=h3
 unfold inP at q1 q2 q3
 have hbc:0 ≤ b / c ∧ b / c ≤ 1000000000000000:=⟨Int.ediv_nonneg q2.1 (by omega),by have:=Int.ediv_le_self c q2.1;omega⟩
 have hbm:0 ≤ b % c ∧ b % c < c:=⟨Int.emod_nonneg _ (by omega),Int.emod_lt_of_pos _ (by omega)⟩
 have hbd:=(kb b c (by omega)).1
 have e1:IntKind.i64.wrap (b.tdiv c) = b / c:=by rw [Int.tdiv_eq_ediv_of_nonneg q2.1,wI (by omega)]
 have e2:b.tmod c = b % c:=Int.tmod_eq_emod_of_nonneg q2.1
 repeat' (first
| intro h9;exfalso;contradiction
| apply yds;rfl
| apply yd;rfl
| intro _
| refine nv ?_
| apply wcf rfl
| apply ycp;rfl;exact aJ;rfl
| fail)
 refine wlp (X:=Int × Int × Int) [0,1,2] [] (fun x => [(11,I x.1),(9,I x.2.1),(10,I x.2.2)]) (fun _ => []) (fun x => MdI a b c x.1 x.2.1 x.2.2) (fun x => (x.1 + 1).toNat) (50,0,0) (MdI.init q1 q3.1) rfl rfl (fun _ => rfl) (fun _ => rfl) ⟨rfl,rfl,rfl,rfl,rfl,rfl,rfl,rfl⟩ (fun x hx => ?_)
 obtain ⟨i,q,r⟩:=x
 dsimp only at hx ⊢
 obtain ⟨i0,i1⟩:=hx.bnd
 have hq:=hx.qb
 have hr:=hx.rb
 by_cases hi:0 ≤ i
 rotate_left
 ·
  repeat' (first
| intro h9;exfalso;contradiction
| apply yds;rfl
| apply yd;rfl
| intro _
| refine nv ?_
| apply wcf rfl
| apply ah rfl
| apply ai;rfl
| fail)
  all_goals (obtain ⟨d1,d2⟩:=hx.done (by omega);exact absurd ⟨h1,h2,h3,by rw [d1];exact hx.qb.2⟩ h)
 obtain ⟨z,hz⟩:∃ z,z = a / 2 ^ i.toNat:=⟨_,rfl⟩
 have hz0:0 ≤ z ∧ z ≤ a:=⟨by rw [hz];exact Int.ediv_nonneg q1.1 (Int.le_of_lt (Int.pow_pos (by omega))),by rw [hz];exact Int.ediv_le_self _ q1.1⟩
 have e3:a.fdiv (2 ^ (min i.toNat IntKind.i64.bits)) = z:=by
  have h64:IntKind.i64.bits = 64:=rfl
  rw [h64,show min i.toNat 64 = i.toNat from by omega,gT (Int.le_of_lt (Int.pow_pos (by omega))),hz]
 have e4:IntKind.i64.wrap (BitVec.ofInt IntKind.i64.bits z &&& BitVec.ofInt IntKind.i64.bits 1).toNat = z % 2:=wj (by omega)
 have heq:=hx.eq
 rw [tu hi,← hz] at heq
 have hzb:z * b = 2 * (z / 2 * b) + z % 2 * b:=by
  have:z = 2 * (z / 2) + z % 2:=by omega
  calc z * b = (2 * (z / 2) + z % 2) * b:=by rw [← this]
   _ = _:=by grind
 have he:∀ q' r':Int,2 * (c * q + r) + z % 2 * b = c * q' + r' → a / 2 ^ i.toNat * b = c * q' + r':=fun q' r' k => by rw [← hz,hzb,heq];exact k
 by_cases hbit:z % 2 = 1
 ·rw [hbit,Int.one_mul] at he
  repeat' (first
| intro h9;exfalso;contradiction
| apply znw;rfl;rfl;rfl;rfl;(first | trivial | (show (_:Int) ≠ _;omega));(first | assumption | exact wI (by omega));rfl;rfl
| apply zsw;rfl;rfl;rfl;rfl;omega;assumption;rfl;rfl
| apply yd;rfl
| intro _
| refine nv ?_
| apply wct rfl
| apply wcf rfl
| apply ai;rfl
| fail)
  all_goals first
   | exact aB (i - 1,2 * q + 1 + b / c + 1,2 * r - c + b % c - c) [] ⟨rfl,rfl,rfl,rfl,rfl,rfl,rfl,rfl⟩ (hx.next (q':=2 * q + 1 + b / c + 1) (r':=2 * r - c + b % c - c) hi (by omega) (by omega) (he _ _ (by grind))) (by first | omega | (dsimp only;omega))
   | exact aB (i - 1,2 * q + 1 + b / c,2 * r - c + b % c) [] ⟨rfl,rfl,rfl,rfl,rfl,rfl,rfl,rfl⟩ (hx.next (q':=2 * q + 1 + b / c) (r':=2 * r - c + b % c) hi (by omega) (by omega) (he _ _ (by grind))) (by first | omega | (dsimp only;omega))
   | exact aB (i - 1,2 * q + b / c + 1,2 * r + b % c - c) [] ⟨rfl,rfl,rfl,rfl,rfl,rfl,rfl,rfl⟩ (hx.next (q':=2 * q + b / c + 1) (r':=2 * r + b % c - c) hi (by omega) (by omega) (he _ _ (by grind))) (by first | omega | (dsimp only;omega))
   | exact aB (i - 1,2 * q + b / c,2 * r + b % c) [] ⟨rfl,rfl,rfl,rfl,rfl,rfl,rfl,rfl⟩ (hx.next (q':=2 * q + b / c) (r':=2 * r + b % c) hi (by omega) (by omega) (he _ _ (by grind))) (by first | omega | (dsimp only;omega))
   | exact ak [] rfl rfl rfl rfl rfl rfl
   | trace_state
 ·rw [show z % 2 = 0 from by omega,Int.zero_mul] at he
  repeat' (first
| intro h9;exfalso;contradiction
| apply znw;rfl;rfl;rfl;rfl;trivial;(first | assumption | exact wI (by omega));rfl;rfl
| apply zsw;rfl;rfl;rfl;rfl;omega;assumption;rfl;rfl
| apply yd;rfl
| intro _
| refine nv ?_
| apply wct rfl
| apply wcf rfl
| apply ai;rfl
| fail)
  all_goals first
   | exact aB (i - 1,2 * q + 1,2 * r - c) [] ⟨rfl,rfl,rfl,rfl,rfl,rfl,rfl,rfl⟩ (hx.next (q':=2 * q + 1) (r':=2 * r - c) hi (by omega) (by omega) (he _ _ (by grind))) (by first | omega | (dsimp only;omega))
   | exact aB (i - 1,2 * q,2 * r) [] ⟨rfl,rfl,rfl,rfl,rfl,rfl,rfl,rfl⟩ (hx.next (q':=2 * q) (r':=2 * r) hi (by omega) (by omega) (he _ _ (by grind))) (by first | omega | (dsimp only;omega))
   | exact ak [] rfl rfl rfl rfl rfl rfl
   | trace_state
theorem sY {a b c:Int}:FC Tryz.prog 129 [I a,I b,I c] [] (sel (fw a b c) (.tup [I (a * b / c),I (a * b % c),B true]) (.tup [I 0,I 0,B false])) (sel (fw a b c) [] []):=by
 by_cases h:fw a b c
 ·rw [au h,au h]
  exact eD h
 ·rw [ab h,ab h]
  exact oY h
theorem nO {a b c:Int}:FC Tryz.prog 33 [I a,I b,I c] [] (sel (fw a b c) (.tup [I (a * b / c),I (a * b % c),B true]) (.tup [I 0,I 0,B false])) (sel (fw a b c) [] []):=by
 by_cases h:fw a b c
 ·rw [au h,au h]
  exact bC h
 ·rw [ab h,ab h]
  exact kE h
end
end Go.Proofs.YtgehbhkfehmdkaaGreat.Sh
