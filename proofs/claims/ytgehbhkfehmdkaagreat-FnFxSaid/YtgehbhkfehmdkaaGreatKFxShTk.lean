/- What is taken of lots: the program's side. No condition. -/
import Derived.Test.YtgehbhkfehmdkaaGreatKFxShV
import Derived.Test.YtgehbhkfehmdkaaGreatKFxShPo
import Derived.Test.YtgehbhkfehmdkaaGreatKFxShMu
import Derived.Test.YtgehbhkfehmdkaaGreatKFxShSo
import Derived.Test.YtgehbhkfehmdkaaGreatKFxShDp
set_option maxRecDepth 100000
set_option maxHeartbeats 40000000
set_option linter.unusedSimpArgs false
set_option linter.unusedVariables false
namespace Go.Proofs.YtgehbhkfehmdkaaGreat.Sh
section
open Go.RowKit
theorem fC {c p n:Int} (hc:0 ≤ c ∧ c ≤ 1000000000000000) (hp:0 ≤ p ∧ p ≤ n) (hn:1 ≤ n ∧ n ≤ 1000000000000000):cO c p n:=⟨hc,⟨hp.1,by omega⟩,hn,by have:=d6 hc.1 hp.1 hp.2 hn.1;omega⟩
structure WL (l own:List Lot) (a c:Int) (own':List Lot):Prop where
 pw:l.Pairwise lb2
 pw2:own'.Pairwise lb2
 perm:own.Perm own'
 of_:∀ x ∈ own',x.Account = a ∧ x.Instr = c
end
section
open Go.RowKit
noncomputable def cz (l:List Lot) (a c q way:Int):List Lot × Int × Int :=
 sel (¬ (LotsOk l ∧ inP q 1 1000000000000000 ∧ inP way 1 3)) ([],0,1) (sel (sQ (ab l a c) < q) (l,0,2) (mrg (bZ l a c) (tkL (ab l a c) q way),tkC (ab l a c) q way,0))
section
variable {l:List Lot} {a c q way:Int}
theorem yU (h:¬ (LotsOk l ∧ inP q 1 1000000000000000 ∧ inP way 1 3)):cz l a c q way = ([],0,1):=by rw [cz,al h]
theorem yV (h:LotsOk l ∧ inP q 1 1000000000000000 ∧ inP way 1 3) (h2:sQ (ab l a c) < q):cz l a c q way = (l,0,2):=by rw [cz,a8 (fun k => k h),al h2]
theorem yS (h:LotsOk l ∧ inP q 1 1000000000000000 ∧ inP way 1 3) (h2:¬ sQ (ab l a c) < q):cz l a c q way = (mrg (bZ l a c) (tkL (ab l a c) q way),tkC (ab l a c) q way,0):=by rw [cz,a8 (fun k => k h),a8 h2]
theorem tkL_1 {own:List Lot} {q:Int}:tkL own q 1 = (tkq own q).1 ∧ tkC own q 1 = (tkq own q).2:=⟨by rw [tkL,a8 (by decide),a8 (by decide)],by rw [tkC,aD (by decide),aD (by decide)]⟩
theorem tkL_2 {own:List Lot} {q:Int}:tkL own q 2 = (tkq own.reverse q).1.reverse ∧ tkC own q 2 = (tkq own.reverse q).2:=⟨by rw [tkL,a8 (by decide),al rfl],by rw [tkC,aD (by decide),aJ rfl]⟩
end
end
section
open Go.RowKit
theorem da {a b:Int}:FC Tryz.prog 314 [I a,I b] ([]) (I (pick (a < b) a b)) ([]):=by
 refine ay tk 10 [.tmp 4] Tryz.func314 (by kernel_rfl) rfl rfl rfl rfl rfl rfl rfl ?_
 repeat' (first
| apply yds;rfl
| apply yd;rfl
| intro _
| refine nv ?_
| apply wct rfl
| apply wcf rfl
| apply aj;rfl
| fail)
 all_goals first | exact cW [] rfl rfl rfl rfl rfl rfl (aJ (by assumption)) | exact cW [] rfl rfl rfl rfl rfl rfl (aD (by assumption))
theorem yX {a b:List Lot} {i k:Int} (hi:0 ≤ i ∧ i < a.length) (hk:¬ k < b.length ∨ (0 ≤ k ∧ lb2 (rd a i) (rd b k))):mrg (a.drop i.toNat) (b.drop k.toNat) = rd a i :: mrg (a.drop (i + 1).toNat) (b.drop k.toNat):=by
 rw [d4 hi]
 by_cases h:k < b.length
 ·obtain ⟨h0,h1⟩:=hk.resolve_left (fun q => q h)
  rw [d4 ⟨h0,h⟩,wZ h1]
 ·rw [iK h,l6,l6]
theorem yY {a b:List Lot} {i k:Int} (hk:0 ≤ k ∧ k < b.length) (hi:¬ i < a.length ∨ (0 ≤ i ∧ ¬ lb2 (rd a i) (rd b k))):mrg (a.drop i.toNat) (b.drop k.toNat) = rd b k :: mrg (a.drop i.toNat) (b.drop (k + 1).toNat):=by
 rw [d4 hk]
 by_cases h:i < a.length
 ·obtain ⟨h0,h1⟩:=hi.resolve_left (fun q => q h)
  rw [d4 ⟨h0,h⟩,x1 h1]
 ·rw [iK h,kl,kl]
theorem cC {a b:List Lot} (ha:a.length ≤ 1000000) (hb:b.length ≤ 1000000):FC Tryz.prog 248 [.c (.row 0 0 a.length),.c (.row 1 0 b.length)] ([ro 137 a,ro 137 b]) (.c (.row 2 0 (mrg a b).length)) ([ro 137 a,ro 137 b,ow 137 (mrg a b)]):=by
 refine ay tk 59 [.tmp 4] Tryz.func248 (by kernel_rfl) rfl rfl rfl rfl rfl rfl rfl ?_
 repeat' (first
| apply yds;rfl
| apply yd;rfl
| refine nv ?_
| apply aH (α:=Lot) (e:=137);rfl
| fail)
 refine wlp (X:=Int × Int × List Lot) [0,1] [0,1,2] (fun x => [(6,I x.1),(7,I x.2.1),(5,.c (.row 2 0 x.2.2.length))]) (fun x => [(2,ow 137 x.2.2)]) (fun x => (0 ≤ x.1 ∧ x.1 ≤ a.length) ∧ (0 ≤ x.2.1 ∧ x.2.1 ≤ b.length) ∧ x.2.2 ++ mrg (a.drop x.1.toNat) (b.drop x.2.1.toNat) = mrg a b ∧ (x.2.2.length:Int) = x.1 + x.2.1) (fun x => (a.length + b.length - x.1 - x.2.1).toNat) (0,0,[]) ⟨⟨by dsimp only;omega,by dsimp only;omega⟩,⟨by dsimp only;omega,by dsimp only;omega⟩,rfl,rfl⟩ rfl rfl (fun _ => rfl) (fun _ => rfl) ⟨rfl,rfl,rfl,rfl,rfl,rfl,rfl,rfl⟩ (fun x hx => ?_)
 obtain ⟨i,k,out⟩:=x
 obtain ⟨h0,k0,ho,hl⟩:=hx
 dsimp only at h0 k0 ho hl ⊢
 have hA:=fun h1 h2 => yX (a:=a) (b:=b) (i:=i) (k:=k) ⟨h0.1,h1⟩ h2
 have hB:=fun h1 h2 => yY (a:=a) (b:=b) (i:=i) (k:=k) ⟨k0.1,h1⟩ h2
 repeat' (first
| intro h9;exfalso;first | contradiction | omega
| apply yds;rfl
| apply yd;rfl
| intro _
| refine nv ?_
| apply wct rfl
| apply wcf rfl
| apply ah rfl
| apply aj;rfl
| apply yar;rfl;omega
| apply yix;rfl;omega
| apply yle;rfl;omega
| apply aH (α:=Lot) (e:=137);rfl
| apply yap;rfl;(((try simp only [lE,lM]);(try dsimp only);omega))
| refine zdq (id:=4) rfl (by kernel_rfl) [(.p,0),(.p,1),(.p,2),(.p,3),(.p,4),(.p,5),(.p,6),(.p,7),(.p,8),(.p,9),(.p,10),(.p,11),(.p,12),(.p,14),(.p,15),(.p,16),(.t,13),(.t,17),(.o,18),(.p,19),(.p,20)] [] (by kernel_rfl) rfl ?_
| apply ycp;rfl;exact i8;rfl
| fail)
 all_goals first
  | exact aB (i + 1,k,out ++ [rd a i]) [0,1,4] ⟨rfl,rfl,rfl,rfl,rfl,rfl,rfl,rfl⟩ ⟨⟨by dsimp only;omega,by dsimp only;omega⟩,⟨by dsimp only;omega,by dsimp only;omega⟩,by dsimp only;rw [List.append_assoc,← ho,hA (by omega) (by first | exact .inl (by omega) | exact .inr ⟨k0.1,by assumption⟩)];rfl,by dsimp only;rw [List.length_append];simp only [List.length_cons,List.length_nil];omega⟩ (by first | omega | (dsimp only;omega))
  | exact aB (i,k + 1,out ++ [rd b k]) [0,1,4] ⟨rfl,rfl,rfl,rfl,rfl,rfl,rfl,rfl⟩ ⟨⟨by dsimp only;omega,by dsimp only;omega⟩,⟨by dsimp only;omega,by dsimp only;omega⟩,by dsimp only;rw [List.append_assoc,← ho,hB (by omega) (by first | exact .inl (by omega) | exact .inr ⟨h0.1,by assumption⟩)];rfl,by dsimp only;rw [List.length_append];simp only [List.length_cons,List.length_nil];omega⟩ (by first | omega | (dsimp only;omega))
  | (rw [show mrg a b = out from by rw [← ho,iK (by omega),iK (by omega),kl,List.append_nil]]
     exact au [0,1,2] rfl rfl rfl rfl rfl rfl)
  | trace_state
theorem pB {own:List Lot} {q0:Int} (hg:LG own) (hq:1 ≤ q0 ∧ q0 ≤ sQ own) (hs:sC own ≤ 1000000000000000 ∧ sQ own ≤ 1000000000000000) (hlq:LQ own) (hl:0 < (own.length:Int)):FC Tryz.prog 313 [.c (.row 0 0 own.length),I q0] ([ro 137 own]) (.tup [.c (.row 1 0 (tkL own q0 3).length),I (tkC own q0 3)]) ([ro 137 own,ow 137 (tkL own q0 3)]):=by
 refine ay tk 43 [.tmp 4,.tmp 5] Tryz.func313 (by kernel_rfl) rfl rfl rfl rfl rfl rfl rfl ?_
 have hc0:=hg.sC_nn
 have hmd:=fC (c:=sC own) (p:=q0) (n:=sQ own) ⟨hc0,hs.1⟩ ⟨by omega,hq.2⟩ ⟨by omega,hs.2⟩
 have hpl:=d6 (k:=sC own) (q:=q0) (n:=sQ own) hc0 (by omega) hq.2 (by omega)
 rw [show tkC own q0 3 = sC own * q0 / sQ own from aJ rfl,show tkL own q0 3 = sel (sQ own = q0) [] [reL (rd own 0) (sQ own - q0) (sC own - sC own * q0 / sQ own)] from al rfl]
 by_cases hq2:sQ own = q0
 ·rw [al hq2]
  repeat' (first
| intro h9;exfalso;contradiction
| apply yds;rfl
| apply yd;rfl
| intro _
| refine nv ?_
| apply wct rfl
| apply yeq;rfl
| apply aH (α:=Lot) (e:=137);rfl
| apply yc;rfl;(first | exact db (by assumption) | exact jN (by assumption) | exact b5 (by assumption));rfl;exact fun _ => rfl
| fail)
  all_goals exact au [0,1] rfl rfl rfl rfl rfl rfl
 ·rw [a8 hq2]
  repeat' (first
| intro h9;exfalso;contradiction
| apply yds;rfl
| apply yd;rfl
| intro _
| refine nv ?_
| apply wcf rfl
| apply yeq;rfl
| apply yar;rfl;omega
| apply yix;rfl;omega
| apply yle;rfl;omega
| apply aH (α:=Lot) (e:=137);rfl
| apply yc;rfl;(first | exact db (by assumption) | exact jN (by assumption) | exact b5 (by assumption));rfl;exact fun _ => rfl
| fail)
  all_goals exact au [0,2] rfl rfl rfl rfl rfl rfl
end
section
open Go.RowKit
theorem qG {cb:List By} (hl:cb.length ≤ 1048576):FE Tryz.prog 153 [.c (.row 0 0 cb.length)] ([ro 5 cb]) (fun v9 h9 => ∃ h:Int,(True) ∧ v9 = .c (.ptr 1 0 0) ∧ h9 = [ro 5 cb,cu 236 0 cb.length 0 h]):=by
 refine df tk 32 [.tmp 2] Tryz.func153 (by kernel_rfl) rfl rfl rfl rfl rfl rfl rfl ?_
 repeat' (first
| apply yds;rfl
| apply yd;rfl
| refine nv ?_
| apply yar;rfl;omega
| fail)
 refine wlp (X:=Int × Int) [0] [0] (fun p => [(4,I p.1),(3,I p.2)]) (fun _ => []) (fun p => 0 ≤ p.1 ∧ p.1 ≤ cb.length) (fun p => (cb.length - p.1).toNat) (0,11029 + cb.length) ⟨by dsimp only;omega,by dsimp only;omega⟩ rfl rfl (fun _ => rfl) (fun _ => rfl) ⟨rfl,rfl,rfl,rfl,rfl,rfl,rfl,rfl⟩ (fun p hp => ?_)
 obtain ⟨i,h⟩:=p
 obtain ⟨h0,h1⟩:=hp
 dsimp only at h0 h1 ⊢
 repeat' (first
| apply yds;rfl
| apply yd;rfl
| intro _
| refine nv ?_
| apply wct rfl
| apply wcf rfl
| apply ah rfl
| apply aj;rfl
| apply yar;rfl;omega
| apply yix;rfl;omega
| apply yle;rfl;omega
| apply zaw;rfl;rfl;rfl;rfl;trivial;rfl;rfl
| apply zcv;rfl;exact tk;(iterate 6 rfl)
| fail)
 all_goals first | exact cJ [0,1] ⟨_,trivial,rfl,rfl⟩ rfl rfl rfl rfl rfl rfl | exact aB (i + 1,_) [0] ⟨rfl,rfl,rfl,rfl,rfl,rfl,rfl,rfl⟩ ⟨by dsimp only;omega,by dsimp only;omega⟩ (by omega)
theorem pz {cb:List By} {ci ch:Int} (hi:0 ≤ ci):FE Tryz.prog 262 [.c (.ptr 0 0 0)] ([cu 236 1 cb.length ci ch,ro 5 cb]) (fun v9 h9 => ∃ x i h:Int,(0 ≤ i ∧ 0 ≤ x ∧ x ≤ 255) ∧ v9 = I x ∧ h9 = [cu 236 1 cb.length i h,ro 5 cb]):=by
 refine df tk 58 [.tmp 2] Tryz.func262 (by kernel_rfl) rfl rfl rfl rfl rfl rfl rfl ?_
 refine cw cb 1 rfl (fun hl => ?_)
 repeat' (first
| apply yds;rfl
| apply yd;rfl
| intro _
| refine nv ?_
| apply wct rfl
| apply wcf rfl
| apply aj;rfl
| apply yar;rfl;omega
| apply yix;rfl;omega
| apply yle;rfl;omega
| apply zaw;rfl;rfl;rfl;rfl;trivial;rfl;rfl
| apply zsh;rfl;rfl;rfl;rfl;omega;rfl;rfl
| apply zcv;rfl;exact tk;(iterate 6 rfl)
| refine zdq (id:=2) rfl (by kernel_rfl) [(.p,0),(.p,1),(.p,2),(.p,5),(.p,6),(.p,7),(.t,3),(.p,4),(.t,8),(.p,9),(.p,10),(.p,11),(.p,12)] [] (by kernel_rfl) rfl ?_
| refine zdq (id:=3) rfl (by kernel_rfl) [(.p,0),(.p,1),(.p,2),(.p,4),(.p,5),(.p,6),(.t,3),(.t,7),(.p,8),(.p,9)] [] (by kernel_rfl) rfl ?_
| refine zdq (id:=4) rfl (by kernel_rfl) [(.p,0),(.p,1),(.p,2),(.p,3),(.p,5),(.p,6),(.p,7),(.t,4),(.t,8),(.p,9),(.t,10),(.p,11),(.p,12),(.p,13),(.p,14)] [] (by kernel_rfl) rfl ?_
| fail)
 all_goals exact cJ [0,1] ⟨_,_,_,⟨by omega,xn _⟩,rfl,rfl⟩ rfl rfl rfl rfl rfl rfl
theorem tm {i x n:Int} (h:0 ≤ i ∧ 0 ≤ x) (hn:¬ n ≤ 0):0 ≤ i ∧ 0 ≤ x.tmod n ∧ (0 < n → x.tmod n < n) ∧ (n ≤ 0 → x.tmod n = 0) :=
 ⟨h.1,Int.tmod_nonneg n h.2,fun q => Int.tmod_lt_of_pos x q,fun q => absurd q hn⟩
theorem aR {cb:List By} {ci ch n:Int} (hi:0 ≤ ci):FE Tryz.prog 165 [.c (.ptr 0 0 0),I n] ([cu 236 1 cb.length ci ch,ro 5 cb]) (fun v9 h9 => ∃ x i h:Int,(0 ≤ i ∧ 0 ≤ x ∧ (0 < n → x < n) ∧ (n ≤ 0 → x = 0)) ∧ v9 = I x ∧ h9 = [cu 236 1 cb.length i h,ro 5 cb]):=by
 refine df tk 37 [.tmp 4] Tryz.func165 (by kernel_rfl) rfl rfl rfl rfl rfl rfl rfl ?_
 repeat' (first
| apply yd;rfl
| intro _
| refine nv ?_
| apply wct rfl
| apply wcf rfl
| apply aj;rfl
| apply yar;rfl;omega
| apply zaw;rfl;rfl;rfl;rfl;((show (_:Int) ≠ _;omega));rfl;rfl
| apply zce false [true];(iterate 10 rfl);exact pz (by omega);rfl;rfl;rintro _ _ ⟨x,i,h,hq,rfl,rfl⟩ <;> refine ⟨_,_,rfl,rfl,?_⟩
| fail)
 all_goals first | exact cJ [0,1] ⟨_,_,_,by omega,rfl,rfl⟩ rfl rfl rfl rfl rfl rfl | exact cJ [0,1] ⟨_,_,_,tm (by omega) (by omega),rfl,rfl⟩ rfl rfl rfl rfl rfl rfl
theorem bU {cb:List By} {ci ch n:Int} (hi:0 ≤ ci):FE Tryz.prog 205 [.c (.ptr 0 0 0),I n] ([cu 236 1 cb.length ci ch,ro 5 cb]) (fun v9 h9 => ∃ (z:Bool) (i h:Int),(0 ≤ i) ∧ v9 = B z ∧ h9 = [cu 236 1 cb.length i h,ro 5 cb]):=by
 refine df tk 9 [.tmp 4] Tryz.func205 (by kernel_rfl) rfl rfl rfl rfl rfl rfl rfl ?_
 repeat' (first
| apply yds;rfl
| apply yd;rfl
| intro _
| refine nv ?_
| apply yeq;rfl
| apply zce false [true];(iterate 10 rfl);exact aR (by omega);rfl;rfl;rintro _ _ ⟨x,i,h,hq,rfl,rfl⟩ <;> refine ⟨_,_,rfl,rfl,?_⟩
| fail)
 all_goals exact cJ [0,1] ⟨_,_,_,by omega,rfl,rfl⟩ rfl rfl rfl rfl rfl rfl
theorem bD {cb:List By} {ci ch:Int} {xs:List Int} (hi:0 ≤ ci) (hx:0 < (xs.length:Int)):FE Tryz.prog 213 [.c (.ptr 0 0 0),.c (.row 1 0 xs.length)] ([cu 236 2 cb.length ci ch,ro 3 xs,ro 5 cb]) (fun v9 h9 => ∃ x i h:Int,(0 ≤ i) ∧ v9 = I x ∧ h9 = [cu 236 2 cb.length i h,ro 3 xs,ro 5 cb]):=by
 refine df tk 12 [.tmp 4] Tryz.func213 (by kernel_rfl) rfl rfl rfl rfl rfl rfl rfl ?_
 repeat' (first
| apply yds;rfl
| apply yd;rfl
| refine nv ?_
| apply yix;rfl;omega
| apply yle;rfl;omega
| apply zce false [true];(iterate 10 rfl);exact aR (by omega);rfl;rfl;rintro _ _ ⟨x,i,h,hq,rfl,rfl⟩ <;> refine ⟨_,_,rfl,rfl,?_⟩
| fail)
 all_goals exact cJ [0,1,2] ⟨_,_,_,by omega,rfl,rfl⟩ rfl rfl rfl rfl rfl rfl
theorem pA {cb:List By} {lo hi:Int} (hl:cb.length ≤ 1048576) (hb:0 ≤ lo ∧ lo ≤ 1000000 ∧ 0 ≤ hi):FE Tryz.prog 154 [.c (.row 0 0 cb.length),I lo,I hi] ([ro 5 cb]) (fun v9 h9 => ∃ x:Int,(0 ≤ x ∧ x ≤ hi) ∧ v9 = I x ∧ h9 = [ro 5 cb]):=by
 refine df tk 18 [.tmp 6] Tryz.func154 (by kernel_rfl) rfl rfl rfl rfl rfl rfl rfl ?_
 have hq:IntKind.i64.wrap ((cb.length:Int).tdiv 4) = (cb.length:Int) / 4:=by
  rw [Int.tdiv_eq_ediv_of_nonneg (by omega),IntKind.wrap_i64]
  omega
 repeat' (first
| apply yds;rfl
| apply yd;rfl
| intro _
| refine nv ?_
| apply wct rfl
| apply wcf rfl
| apply aj;rfl
| apply yar;rfl;omega
| apply zaw;rfl;rfl;rfl;rfl;((show (_:Int) ≠ _;omega));rfl;rfl
| fail)
 all_goals exact cJ [0] ⟨_,by omega,rfl,rfl⟩ rfl rfl rfl rfl rfl rfl
theorem qD {x:Int}:FC Tryz.prog 319 [I x] ([]) (I (pick (x < 0) (IntKind.i64.wrap (0 - x)) x)) ([]):=by
 refine ay tk 8 [.tmp 2] Tryz.func319 (by kernel_rfl) rfl rfl rfl rfl rfl rfl rfl ?_
 repeat' (first
| apply yds;rfl
| apply yd;rfl
| intro _
| refine nv ?_
| apply wct rfl
| apply wcf rfl
| apply aj;rfl
| apply zx;rfl;rfl;rfl;rfl
| fail)
 all_goals first | exact cW [] rfl rfl rfl rfl rfl rfl (by rw [aJ (by assumption)]) | exact cW [] rfl rfl rfl rfl rfl rfl (by rw [aD (by assumption)])
theorem qF {a b:Int}:FC Tryz.prog 320 [I a,I b] ([]) (I (pick (a > b) a b)) ([]):=by
 refine ay tk 10 [.tmp 4] Tryz.func320 (by kernel_rfl) rfl rfl rfl rfl rfl rfl rfl ?_
 repeat' (first
| apply yds;rfl
| apply yd;rfl
| intro _
| refine nv ?_
| apply wct rfl
| apply wcf rfl
| apply aj;rfl
| fail)
 all_goals first | exact cW [] rfl rfl rfl rfl rfl rfl (by rw [aJ (by assumption)]) | exact cW [] rfl rfl rfl rfl rfl rfl (by rw [aD (by assumption)])
theorem cY {cb:List By} {ci ch:Int} (hi:0 ≤ ci):FE Tryz.prog 316 [.c (.ptr 0 0 0)] ([cu 236 1 cb.length ci ch,ro 5 cb]) (fun v9 h9 => ∃ x i h:Int,(0 ≤ i) ∧ v9 = I x ∧ h9 = [cu 236 1 cb.length i h,ro 5 cb]):=by
 refine df tk 11 [.tmp 2] Tryz.func316 (by kernel_rfl) rfl rfl rfl rfl rfl rfl rfl ?_
 repeat' (first
| apply yd;rfl
| refine nv ?_
| apply wct rfl
| apply wcf rfl
| apply yar;rfl;omega
| apply aH (α:=Int) (e:=3);rfl
| apply zce false [true];(iterate 10 rfl);exact bU (by omega);rfl;rfl;rintro _ _ ⟨(_ | _),i,h,hq,rfl,rfl⟩ <;> refine ⟨_,_,rfl,rfl,?_⟩
| apply zce false [true];(iterate 10 rfl);(first | exact bD (by omega) (by decide) | exact aR (by omega));rfl;rfl;rintro _ _ ⟨x,i,h,hq,rfl,rfl⟩ <;> refine ⟨_,_,rfl,rfl,?_⟩
| fail)
 all_goals exact cJ [0,1] ⟨_,_,_,by omega,rfl,rfl⟩ rfl rfl rfl rfl rfl rfl
theorem px {ba:List Account} {bi:List Instr} {bb:List Bal} {bl:List Lot} {bt:List Trade} {bn:Int} {cb:List By} {ci ch kd:Int} (hi:0 ≤ ci) (hm:ba.length ≤ 8589934592 ∧ bi.length ≤ 8589934592 ∧ bb.length ≤ 8589934592 ∧ bl.length ≤ 8589934592 ∧ bt.length ≤ 8589934592):FE Tryz.prog 283 [.c (.ptr 0 0 0),bkV 1 ⟨ba,bi,bb,bl,bt,bn⟩,I kd] ([cu 236 6 cb.length ci ch] ++ bkR ⟨ba,bi,bb,bl,bt,bn⟩ ++ [ro 5 cb]) (fun v9 h9 => ∃ x i h:Int,(0 ≤ i) ∧ v9 = I x ∧ h9 = [cu 236 6 cb.length i h] ++ bkR ⟨ba,bi,bb,bl,bt,bn⟩ ++ [ro 5 cb]):=by
 refine df tk 46 [.tmp 6] Tryz.func283 (by kernel_rfl) rfl rfl rfl rfl rfl rfl rfl ?_
 repeat' (first
| apply yds;rfl
| apply yd;rfl
| refine nv ?_
| apply aH (α:=Int) (e:=3);rfl
| fail)
 refine wlp (X:=Int × List Int) [0,2,4] [0,1,2,3,4,5,6,7,8] (fun p => [(8,I p.1),(7,.c (.row 8 0 p.2.length))]) (fun p => [(8,ow 3 p.2)]) (fun p => 0 ≤ p.1 ∧ p.1 ≤ ba.length ∧ (p.2.length:Int) ≤ p.1) (fun p => (ba.length - p.1).toNat) (0,[]) ⟨by dsimp only;omega,by dsimp only;omega,by dsimp only [List.length_nil];omega⟩ rfl rfl (fun _ => rfl) (fun _ => rfl) ⟨rfl,rfl,rfl,rfl,rfl,rfl,rfl,rfl⟩ (fun p hp => ?_)
 obtain ⟨i,xs⟩:=p
 obtain ⟨h0,h1,h2⟩:=hp
 dsimp only at h0 h1 h2 ⊢
 repeat' (first
| apply yds;rfl
| apply yd;rfl
| intro _
| refine nv ?_
| apply wct rfl
| apply wcf rfl
| apply ah rfl
| apply aj;rfl
| apply yar;rfl;omega
| apply yix;rfl;omega
| apply yle;rfl;omega
| apply aH (α:=Int) (e:=3);rfl
| apply yap;rfl;(((try simp only [lE,lM]);(try dsimp only);omega))
| apply zce false [true];(iterate 10 rfl);exact bU (by omega);rfl;rfl;rintro _ _ ⟨(_ | _),i,h,hq,rfl,rfl⟩ <;> refine ⟨_,_,rfl,rfl,?_⟩
| apply zce false [true];(iterate 10 rfl);(first | exact cY (by omega) | exact bD (by omega) (by omega));rfl;rfl;rintro _ _ ⟨x,i,h,hq,rfl,rfl⟩ <;> refine ⟨_,_,rfl,rfl,?_⟩
| fail)
 all_goals first | exact cJ [0,1,2,3,4,5,6] ⟨_,_,_,by omega,rfl,rfl⟩ rfl rfl rfl rfl rfl rfl | exact aB (i + 1,xs ++ [_]) [0,1,2,3,4,5,6,7,10] ⟨rfl,rfl,rfl,rfl,rfl,rfl,rfl,rfl⟩ ⟨by dsimp only;omega,by dsimp only;omega,by dsimp only;simp only [List.length_append,List.length_cons,List.length_nil];omega⟩ (by omega) | exact aB (i + 1,xs) [0,1,2,3,4,5,6,7,8] ⟨rfl,rfl,rfl,rfl,rfl,rfl,rfl,rfl⟩ ⟨by dsimp only;omega,by dsimp only;omega,by dsimp only;omega⟩ (by omega)
theorem lZ {ba:List Account} {bi:List Instr} {bb:List Bal} {bl:List Lot} {bt:List Trade} {bn:Int} {cb:List By} {ci ch kd:Int} (hi:0 ≤ ci) (hm:ba.length ≤ 8589934592 ∧ bi.length ≤ 8589934592 ∧ bb.length ≤ 8589934592 ∧ bl.length ≤ 8589934592 ∧ bt.length ≤ 8589934592):FE Tryz.prog 284 [.c (.ptr 0 0 0),bkV 1 ⟨ba,bi,bb,bl,bt,bn⟩,I kd] ([cu 236 6 cb.length ci ch] ++ bkR ⟨ba,bi,bb,bl,bt,bn⟩ ++ [ro 5 cb]) (fun v9 h9 => ∃ x i h:Int,(0 ≤ i) ∧ v9 = I x ∧ h9 = [cu 236 6 cb.length i h] ++ bkR ⟨ba,bi,bb,bl,bt,bn⟩ ++ [ro 5 cb]):=by
 refine df tk 46 [.tmp 6] Tryz.func284 (by kernel_rfl) rfl rfl rfl rfl rfl rfl rfl ?_
 repeat' (first
| apply yds;rfl
| apply yd;rfl
| refine nv ?_
| apply aH (α:=Int) (e:=3);rfl
| fail)
 refine wlp (X:=Int × List Int) [0,2,4] [0,1,2,3,4,5,6,7,8] (fun p => [(8,I p.1),(7,.c (.row 8 0 p.2.length))]) (fun p => [(8,ow 3 p.2)]) (fun p => 0 ≤ p.1 ∧ p.1 ≤ bi.length ∧ (p.2.length:Int) ≤ p.1) (fun p => (bi.length - p.1).toNat) (0,[]) ⟨by dsimp only;omega,by dsimp only;omega,by dsimp only [List.length_nil];omega⟩ rfl rfl (fun _ => rfl) (fun _ => rfl) ⟨rfl,rfl,rfl,rfl,rfl,rfl,rfl,rfl⟩ (fun p hp => ?_)
 obtain ⟨i,xs⟩:=p
 obtain ⟨h0,h1,h2⟩:=hp
 dsimp only at h0 h1 h2 ⊢
 repeat' (first
| apply yds;rfl
| apply yd;rfl
| intro _
| refine nv ?_
| apply wct rfl
| apply wcf rfl
| apply ah rfl
| apply aj;rfl
| apply yar;rfl;omega
| apply yix;rfl;omega
| apply yle;rfl;omega
| apply aH (α:=Int) (e:=3);rfl
| apply yap;rfl;(((try simp only [lE,lM]);(try dsimp only);omega))
| apply zce false [true];(iterate 10 rfl);exact bU (by omega);rfl;rfl;rintro _ _ ⟨(_ | _),i,h,hq,rfl,rfl⟩ <;> refine ⟨_,_,rfl,rfl,?_⟩
| apply zce false [true];(iterate 10 rfl);(first | exact cY (by omega) | exact bD (by omega) (by omega));rfl;rfl;rintro _ _ ⟨x,i,h,hq,rfl,rfl⟩ <;> refine ⟨_,_,rfl,rfl,?_⟩
| fail)
 all_goals first | exact cJ [0,1,2,3,4,5,6] ⟨_,_,_,by omega,rfl,rfl⟩ rfl rfl rfl rfl rfl rfl | exact aB (i + 1,xs ++ [_]) [0,1,2,3,4,5,6,7,10] ⟨rfl,rfl,rfl,rfl,rfl,rfl,rfl,rfl⟩ ⟨by dsimp only;omega,by dsimp only;omega,by dsimp only;simp only [List.length_append,List.length_cons,List.length_nil];omega⟩ (by omega) | exact aB (i + 1,xs) [0,1,2,3,4,5,6,7,8] ⟨rfl,rfl,rfl,rfl,rfl,rfl,rfl,rfl⟩ ⟨by dsimp only;omega,by dsimp only;omega,by dsimp only;omega⟩ (by omega)
theorem nB {ba:List Account} {bi:List Instr} {bb:List Bal} {bl:List Lot} {bt:List Trade} {bn:Int} {cb:List By} {ci ch ac ins:Int} (hi:0 ≤ ci):FE Tryz.prog 285 [.c (.ptr 0 0 0),bkV 1 ⟨ba,bi,bb,bl,bt,bn⟩,I ac,I ins] ([cu 236 6 cb.length ci ch] ++ bkR ⟨ba,bi,bb,bl,bt,bn⟩ ++ [ro 5 cb]) (fun v9 h9 => ∃ x i h:Int,(0 ≤ i) ∧ v9 = I x ∧ h9 = [cu 236 6 cb.length i h] ++ bkR ⟨ba,bi,bb,bl,bt,bn⟩ ++ [ro 5 cb]):=by
 refine df tk 34 [.tmp 8] Tryz.func285 (by kernel_rfl) rfl rfl rfl rfl rfl rfl rfl ?_
 repeat' (first
| apply yds;rfl
| apply yd;rfl
| intro _
| refine nv ?_
| apply wct rfl
| apply wcf rfl
| apply yeq;rfl
| apply yar;rfl;omega
| apply yc;rfl;exact dz;rfl;exact fun _ => rfl
| apply zce false [true];(iterate 10 rfl);exact aR (by omega);rfl;rfl;rintro _ _ ⟨x,i,h,hq,rfl,rfl⟩ <;> refine ⟨_,_,rfl,rfl,?_⟩
| apply ycq;rfl;(first | exact qD | exact da | exact qF);rfl
| apply zaw;rfl;rfl;rfl;rfl;trivial;rfl;rfl
| fail)
 all_goals exact cJ [0,1,2,3,4,5,6] ⟨_,_,_,by omega,rfl,rfl⟩ rfl rfl rfl rfl rfl rfl
end
end Go.Proofs.YtgehbhkfehmdkaaGreat.Sh
