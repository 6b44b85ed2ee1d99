/- Products by divisors, in two halves or bit by bit. No condition. -/
import Derived.Test.YtgehbhkfehmdkaaGreatKUShV
set_option linter.unusedSectionVars false
set_option linter.unusedSimpArgs false
set_option linter.unusedVariables false
namespace Go.Proofs.YtgehbhkfehmdkaaGreat.Sh
open Go.RowKit
theorem AJ {x c q r:Int} (h:x = c * q + r) (h0:0 ≤ r) (h1:r < c):x / c = q ∧ x % c = r:=by
 subst h
 have hc:c ≠ 0:=by omega
 constructor
 ·rw [Int.add_comm,Int.add_mul_ediv_left _ _ hc,Int.ediv_eq_zero_of_lt h0 h1,Int.zero_add]
 ·rw [Int.add_comm,Int.add_mul_emod_self_left,Int.emod_eq_of_lt h0 h1]
theorem kb (x c:Int) (hc:0 < c):x = c * (x / c) + x % c ∧ 0 ≤ x % c ∧ x % c < c:=⟨by have:=Int.mul_ediv_add_emod x c;omega,Int.emod_nonneg _ (by omega),Int.emod_lt_of_pos _ hc⟩
structure Kn (U y q r:Int):Prop where
 ge:U / y ≤ q
 le:q ≤ 4294967297
 rest:q * (y / 4294967296) + r = U / 4294967296
 nn:0 ≤ r
 lt:r < 4294967296
theorem np {a b c d:Int} (h1:a ≤ c) (h2:b ≤ d) (h3:0 ≤ b) (h4:0 ≤ c):a * b ≤ c * d:=Int.le_trans (Int.mul_le_mul_of_nonneg_right h1 h3) (Int.mul_le_mul_of_nonneg_left h2 h4)
section
variable {U y q r:Int} (hy:9223372036854775808 ≤ y ∧ y < 18446744073709551616) (hU:0 ≤ U ∧ U < y * 4294967296)
include hy
theorem ko:2147483648 ≤ y / 4294967296 ∧ y / 4294967296 < 4294967296 ∧ 0 ≤ y % 4294967296 ∧ y % 4294967296 < 4294967296 ∧ y = 4294967296 * (y / 4294967296) + y % 4294967296:=by omega
include hU
theorem wH:0 ≤ U / y ∧ U / y < 4294967296:=by
 refine ⟨Int.ediv_nonneg hU.1 (by omega),?_⟩
 rw [Int.ediv_lt_iff_lt_mul (by omega)]
 omega
theorem t8 (h:Kn U y q r):(q ≥ 4294967296 ∨ q * (y % 4294967296) > 4294967296 * r + U % 4294967296) ↔ U / y < q:=by
 have hq:=wH hy hU
 have hp:=ko hy
 obtain ⟨p1,p2,p3,p4,p5⟩:=hp
 have hr:=h.rest
 have e:q * y = 4294967296 * (q * (y / 4294967296)) + q * (y % 4294967296):=by
  calc q * y = q * (4294967296 * (y / 4294967296) + y % 4294967296):=by rw [← p5]
   _ = _:=by grind
 have k1:q * (y % 4294967296) > 4294967296 * r + U % 4294967296 ↔ U < q * y:=by omega
 have k2:U < q * y ↔ U / y < q:=(Int.ediv_lt_iff_lt_mul (by omega)).symm
 rw [k1,k2]
 constructor
 ·rintro (h1 | h1)
  ·omega
  ·exact h1
 ·exact .inr
theorem vx (h:Kn U y q r) (hn:¬ (q ≥ 4294967296 ∨ q * (y % 4294967296) > 4294967296 * r + U % 4294967296)):q = U / y:=by
 have:=h.ge
 rw [t8 hy hU h] at hn
 omega
theorem vz (h:Kn U y q r) (hn:q ≥ 4294967296 ∨ q * (y % 4294967296) > 4294967296 * r + U % 4294967296) (hr:r + y / 4294967296 < 4294967296):Kn U y (q - 1) (r + y / 4294967296):=by
 have hp:=ko hy
 rw [t8 hy hU h] at hn
 refine ⟨by omega,by have:=h.le;omega,?_,by have:=h.nn;omega,hr⟩
 have:=h.rest
 rw [Int.sub_mul]
 omega
theorem t7 (h:Kn U y q r) (hn:q ≥ 4294967296 ∨ q * (y % 4294967296) > 4294967296 * r + U % 4294967296) (hr:¬ r + y / 4294967296 < 4294967296):q - 1 = U / y:=by
 have hp:=ko hy
 obtain ⟨p1,p2,p3,p4,p5⟩:=hp
 rw [t8 hy hU h] at hn
 have h1:=h.rest
 have h2:=h.le
 have h3:=(wH hy hU).1
 have h4:(q - 1) * (y / 4294967296) = q * (y / 4294967296) - y / 4294967296:=by rw [Int.sub_mul];omega
 have h5:(q - 1) * (y % 4294967296) ≤ 4294967296 * 4294967296:=np (by omega) (by omega) p3 (by omega)
 have e:(q - 1) * y = 4294967296 * ((q - 1) * (y / 4294967296)) + (q - 1) * (y % 4294967296):=by
  calc (q - 1) * y = (q - 1) * (4294967296 * (y / 4294967296) + y % 4294967296):=by rw [← p5]
   _ = _:=by grind
 have h6:(q - 1) * y ≤ U:=by omega
 have h7:q - 1 ≤ U / y:=by rw [Int.le_ediv_iff_mul_le (by omega)];exact h6
 omega
theorem vy:Kn U y (U / 4294967296 / (y / 4294967296)) (U / 4294967296 % (y / 4294967296)):=by
 have hp:=ko hy
 obtain ⟨p1,p2,p3,p4,p5⟩:=hp
 have hd:=kb (U / 4294967296) (y / 4294967296) (by omega)
 obtain ⟨d1,d2,d3⟩:=hd
 refine ⟨?_,?_,by rw [Int.mul_comm];omega,d2,by omega⟩
 ·rw [Int.le_ediv_iff_mul_le (by omega),Int.le_ediv_iff_mul_le (by omega)]
  have h1:U / y * y ≤ U:=Int.ediv_mul_le U (by omega)
  have h0:=(wH hy hU).1
  have e:U / y * y = 4294967296 * (U / y * (y / 4294967296)) + U / y * (y % 4294967296):=by
   calc U / y * y = U / y * (4294967296 * (y / 4294967296) + y % 4294967296):=by rw [← p5]
    _ = _:=by grind
  have h2:0 ≤ U / y * (y % 4294967296):=Int.mul_nonneg h0 p3
  omega
 ·have h1:U / 4294967296 < y:=by omega
  have h2:U / 4294967296 < (y / 4294967296) * 4294967298:=by omega
  have h3:U / 4294967296 / (y / 4294967296) < 4294967298:=by
   rw [Int.ediv_lt_iff_lt_mul (by omega),Int.mul_comm]
   exact h2
  omega
theorem y4 (h:Kn U y q r) (hq:q < 4294967296):0 ≤ q * (y % 4294967296) ∧ q * (y % 4294967296) < 18446744073709551616:=by
 have hp:=ko hy
 have h0:=(wH hy hU).1
 have h1:=h.ge
 refine ⟨Int.mul_nonneg (by omega) (by omega),?_⟩
 have:q * (y % 4294967296) ≤ 4294967295 * 4294967295:=np (by omega) (by omega) (by omega) (by omega)
 omega
end
theorem zT {A y u1 u0:Int} (hy:0 < y):(A * 4294967296 + u1) * 4294967296 + u0 = y * ((A * 4294967296 + u1) / y * 4294967296 + ((A * 4294967296 + u1) % y * 4294967296 + u0) / y) + ((A * 4294967296 + u1) % y * 4294967296 + u0) % y:=by
 have h1:=(kb (A * 4294967296 + u1) y hy).1
 have h2:=(kb ((A * 4294967296 + u1) % y * 4294967296 + u0) y hy).1
 generalize (A * 4294967296 + u1) % y = r1 at *
 generalize (r1 * 4294967296 + u0) % y = r2 at *
 generalize (r1 * 4294967296 + u0) / y = q0 at *
 generalize (A * 4294967296 + u1) / y = q1 at *
 rw [h1,Int.add_mul]
 have:y * (q1 * 4294967296 + q0) = y * q1 * 4294967296 + y * q0:=by grind
 omega
theorem y5 {N c p:Int} (hc:0 < c) (hp:0 < p):(N * p) / (c * p) = N / c ∧ (N * p) % (c * p) / p = N % c:=by
 refine ⟨Int.mul_ediv_mul_of_pos_left _ _ hp,?_⟩
 rw [Int.mul_comm N p,Int.mul_comm c p,Int.mul_emod_mul_of_pos _ _ hp,Int.mul_comm]
 exact Int.mul_ediv_cancel _ (by omega)
end Go.Proofs.YtgehbhkfehmdkaaGreat.Sh
