/- How long books' rows may become. No condition. -/
import Derived.Test.YtgehbhkfehmdkaaGreatKCeShPo
import Derived.Test.YtgehbhkfehmdkaaGreatKCeShB1
import Derived.Test.YtgehbhkfehmdkaaGreatKCeShBc
import Derived.Test.YtgehbhkfehmdkaaGreatKCeShIm
import Derived.Test.YtgehbhkfehmdkaaGreatKCeShFx
import Derived.Test.YtgehbhkfehmdkaaGreatKCeShNe
import Derived.Test.YtgehbhkfehmdkaaGreatKCeShPv
import Derived.Test.YtgehbhkfehmdkaaGreatKCeShSp
import Derived.Test.YtgehbhkfehmdkaaGreatKCeShV
import Derived.Test.YtgehbhkfehmdkaaGreatKCeShTr
set_option maxRecDepth 100000
set_option maxHeartbeats 40000000
set_option linter.unusedSimpArgs false
set_option linter.unusedVariables false
namespace Go.Proofs.YtgehbhkfehmdkaaGreat.Sh
section
open Go.RowKit
theorem az {β:Type} {P:β → Prop} {p:Prop} {a b:β} (h1:p → P a) (h2:¬ p → P b):P (sel p a b):=by
 by_cases h:p
 ·rw [ap h];exact h1 h
 ·rw [a8 h];exact h2 h
def aV (b:Books):Prop:=MidL b.Accounts.length b.Instrs.length b.Bals.length b.Lots.length b.Trades.length
theorem lQ:aV ⟨[],[],[],[],[],0⟩:=⟨by simp,by simp,by simp,by simp,by simp⟩
theorem sZ {l:List Bal} {g:List Leg} {sh:List Int} (h:(br l g sh).2 = 0):(br l g sh).1.length ≤ 160:=by
 by_cases h1:BalsOk l ∧ cP g ∧ sh.length ≤ 20
 rotate_left
 ·rw [AP h1] at h;exact absurd (show (1:Int) = 0 from h) (by decide)
 by_cases h2:dj g
 rotate_left
 ·rw [AQ h1 h2] at h;exact absurd (show (2:Int) = 0 from h) (by decide)
 by_cases h3:fx l g
 rotate_left
 ·rw [z3 h1 h2 h3] at h;exact absurd (show (4:Int) = 0 from h) (by decide)
 by_cases h4:jN (pO l g) g sh
 ·rw [z0 h1 h2 h3 h4] at h;exact absurd (show (3:Int) = 0 from h) (by decide)
 by_cases h5:160 < (pO l g).length
 ·rw [z4 h1 h2 h3 h4 h5] at h;exact absurd (show (5:Int) = 0 from h) (by decide)
 ·rw [yZ h1 h2 h3 h4 h5];exact Nat.le_of_not_lt h5
theorem Small.post {b:Books} (s:Small b) {g:List Leg} (h:(poR b g).2 = 0) {n:Int}:aV ⟨b.Accounts,b.Instrs,(poR b g).1,b.Lots,b.Trades,n⟩:=by
 have m:=s.mid
 have:=sZ h
 exact ⟨m.a1,m.a2,by show (br b.Bals g (shA b.Accounts)).1.length ≤ 4294967296;omega,m.a4,m.a5⟩
end
section
open Go.RowKit
theorem BooksOk.midR {b:Books} (h:BooksOk b):aV b:=⟨by have:=h.acc.2;omega,by have:=h.ins.2;omega,by have:=h.bals.2;omega,by have:=h.lots.1.2;omega,by have:=h.trades.2;omega⟩
theorem zU {l:List Lot} {n a c q k:Int} (h:f8 l n a c q k):(opL l n a c q k).length ≤ 120:=by
 have h2:=h.2
 show (d9 l ⟨a,c,n + 1,q,k⟩).1.length ≤ 120
 by_cases c1:LotsOk l ∧ kY a c (n + 1) q k
 rotate_left
 ·rw [B3 c1] at h2;exact absurd (show (1:Int) = 0 from h2) (by decide)
 by_cases c2:LotsOk (mrg l [⟨a,c,n + 1,q,k⟩])
 rotate_left
 ·rw [B4 c1 c2] at h2;exact absurd (show (3:Int) = 0 from h2) (by decide)
 rw [B2 c1 c2]
 exact c2.1.2
theorem gw {b:Books} (m:aV b) {g:List Leg} (h:¬ ¬ (poR b g).2 = 0):(poR b g).1.length ≤ 4294967296:=Nat.le_trans (sZ (Classical.not_not.1 h)) (by decide)
theorem re {l:List Lot} {n a c q k:Int} (h:¬ ¬ f8 l n a c q k):(opL l n a c q k).length ≤ 4294967296:=Nat.le_trans (zU (Classical.not_not.1 h)) (by decide)
theorem zF {b:Books} (m:aV b) {r:List Bal} {n:Int} (h:r.length ≤ 4294967296):aV ⟨b.Accounts,b.Instrs,r,b.Lots,b.Trades,n⟩:=⟨m.a1,m.a2,h,m.a4,m.a5⟩
theorem xV {b:Books} (m:aV b) {r:List Bal} {l:List Lot} {n:Int} (h:r.length ≤ 4294967296) (h2:l.length ≤ 4294967296):aV ⟨b.Accounts,b.Instrs,r,l,b.Trades,n⟩:=⟨m.a1,m.a2,h,h2,m.a5⟩
theorem nf {b:Books} {no ki:Int}:aV (aT b no ki).1:=by
 unfold aT
 refine az (P:=fun R:Books × Int => aV R.1) (fun _ => lQ) fun c0 => ?_
 have m:=(Classical.not_not.1 c0).1.midR
 exact az (P:=fun R:Books × Int => aV R.1) (fun _ => m) fun c1 => az (P:=fun R:Books × Int => aV R.1) (fun _ => m) fun c2 => ⟨by show (dE b.Accounts ⟨no,ki⟩).length ≤ _;rw [pp];omega,m.a2,m.a3,m.a4,m.a5⟩
theorem qp {b:Books} {no ki:Int}:aV (bz b no ki).1:=by
 unfold bz
 refine az (P:=fun R:Books × Int => aV R.1) (fun _ => lQ) fun c0 => ?_
 have m:=(Classical.not_not.1 c0).1.midR
 exact az (P:=fun R:Books × Int => aV R.1) (fun _ => m) fun c1 => az (P:=fun R:Books × Int => aV R.1) (fun _ => m) fun c2 => ⟨m.a1,by show (dG b.Instrs ⟨no,ki⟩).length ≤ _;rw [pU];omega,m.a3,m.a4,m.a5⟩
theorem qq {b:Books} {is ho c q k:Int}:aV (aU b is ho c q k).1:=by
 unfold aU
 refine az (P:=fun R:Books × Int => aV R.1) (fun _ => lQ) fun c0 => ?_
 have m:=(Classical.not_not.1 c0).1.midR
 exact az (P:=fun R:Books × Int => aV R.1) (fun _ => m) fun c1 => az (P:=fun R:Books × Int => aV R.1) (fun _ => m) fun c2 => az (P:=fun R:Books × Int => aV R.1) (fun _ => m) fun c3 => az (P:=fun R:Books × Int => aV R.1) (fun _ => zF m (gw m c3)) fun c4 => az (P:=fun R:Books × Int => aV R.1) (fun _ => m) fun c5 => xV m (gw m c3) (re c5)
theorem s7 {b:Books} {fr to c q way:Int}:aV (b9 b fr to c q way).1:=by
 unfold b9
 refine az (P:=fun R:Books × Int × Int => aV R.1) (fun _ => lQ) fun c0 => ?_
 have m:=(Classical.not_not.1 c0).1.midR
 exact az (P:=fun R:Books × Int × Int => aV R.1) (fun _ => m) fun c1 => az (P:=fun R:Books × Int × Int => aV R.1) (fun _ => m) fun c2 => az (P:=fun R:Books × Int × Int => aV R.1) (fun _ => m) fun c3 => az (P:=fun R:Books × Int × Int => aV R.1) (fun _ => zF m (gw m c3)) fun c4 => az (P:=fun R:Books × Int × Int => aV R.1) (fun _ => m) fun c5 => az (P:=fun R:Books × Int × Int => aV R.1) (fun _ => m) fun c6 => xV m (gw m c3) (re c6)
theorem qu {b:Books} {no bu se pa qt ca pr:Int}:aV (b8 b no bu se pa qt ca pr).1:=by
 unfold b8
 refine az (P:=fun R:Books × Int => aV R.1) (fun _ => lQ) fun c0 => ?_
 have m:=(Classical.not_not.1 c0).1.midR
 exact az (P:=fun R:Books × Int => aV R.1) (fun _ => m) fun c1 => az (P:=fun R:Books × Int => aV R.1) (fun _ => m) fun c2 => az (P:=fun R:Books × Int => aV R.1) (fun _ => m) fun c3 => az (P:=fun R:Books × Int => aV R.1) (fun _ => m) fun c4 => ⟨m.a1,m.a2,m.a3,m.a4,by show (vx b.Trades _).length ≤ _;rw [vx,bZ (n0 _ _)];omega⟩
theorem oN {b:Books} {no:Int}:aV (bm b no).1:=by
 unfold bm
 refine az (P:=fun R:Books × Int => aV R.1) (fun _ => lQ) fun c0 => ?_
 have m:=(Classical.not_not.1 c0).1.midR
 exact az (P:=fun R:Books × Int => aV R.1) (fun _ => m) fun c1 => ⟨m.a1,m.a2,m.a3,m.a4,by show (upd b.Trades _ _).length ≤ _;rw [aF];exact m.a5⟩
theorem ka {b:Books} {no way:Int}:aV (au b no way).1:=by
 unfold au
 refine az (P:=fun R:Books × Int × Int => aV R.1) (fun _ => lQ) fun c0 => ?_
 have m:=(Classical.not_not.1 c0).1.midR
 exact az (P:=fun R:Books × Int × Int => aV R.1) (fun _ => m) fun c1 => az (P:=fun R:Books × Int × Int => aV R.1) (fun _ => m) fun c2 => az (P:=fun R:Books × Int × Int => aV R.1) (fun _ => m) fun c3 => az (P:=fun R:Books × Int × Int => aV R.1) (fun _ => m) fun c4 => ⟨m.a1,m.a2,gw m c2,re c4,by show (upd b.Trades _ _).length ≤ _;rw [aF];exact m.a5⟩
theorem vE {b:Books} {ho de fr to am nu dn:Int}:aV (cx b ho de fr to am nu dn).1:=by
 unfold cx
 refine az (P:=fun R:Books × Int × Int => aV R.1) (fun _ => lQ) fun c0 => ?_
 have m:=(Classical.not_not.1 c0).1.midR
 exact az (P:=fun R:Books × Int × Int => aV R.1) (fun _ => m) fun c1 => az (P:=fun R:Books × Int × Int => aV R.1) (fun _ => m) fun c2 => az (P:=fun R:Books × Int × Int => aV R.1) (fun _ => m) fun c3 => az (P:=fun R:Books × Int × Int => aV R.1) (fun _ => m) fun c4 => zF m (gw m c4)
theorem tH {b:Books} {pa ca py t:Int}:aV (bI b pa ca py t).1:=by
 unfold bI
 refine az (P:=fun R:Books × Int × Int => aV R.1) (fun _ => lQ) fun c0 => ?_
 have m:=(Classical.not_not.1 c0).1.midR
 exact az (P:=fun R:Books × Int × Int => aV R.1) (fun _ => m) fun c1 => az (P:=fun R:Books × Int × Int => aV R.1) (fun _ => m) fun c2 => az (P:=fun R:Books × Int × Int => aV R.1) (fun _ => m) fun c3 => az (P:=fun R:Books × Int × Int => aV R.1) (fun _ => m) fun c4 => az (P:=fun R:Books × Int × Int => aV R.1) (fun _ => m) fun c5 => zF m (gw m c5)
theorem xZ {way:Int}:∀ (L:List Int) {s:Books × Int × Int},aV s.1 → aV (L.foldl (stN way) s).1
 | [],_,h => h
 | x :: L,s,h => by
   rw [List.foldl_cons]
   refine xZ L ?_
   unfold stN
   exact az (P:=fun R:Books × Int × Int => aV R.1) (fun _ => az (P:=fun R:Books × Int × Int => aV R.1) (fun _ => ka) fun _ => h) fun _ => h
theorem tG {b:Books} {fr to way:Int}:aV (bg b fr to way).1:=by
 unfold bg
 refine az (P:=fun R:Books × List Leg × Int × Int => aV R.1) (fun _ => lQ) fun c0 => ?_
 have m:=(Classical.not_not.1 c0).1.midR
 exact az (P:=fun R:Books × List Leg × Int × Int => aV R.1) (fun _ => m) fun _ => az (P:=fun R:Books × List Leg × Int × Int => aV R.1) (fun _ => m) fun _ => az (P:=fun R:Books × List Leg × Int × Int => aV R.1) (fun _ => m) fun _ => xZ _ m
theorem A7 {own:List Lot} {sh:List Int}:(scF own sh).length ≤ own.length:=by
 have h:=rz (own:=own) (sh:=sh) (i:=own.length) (by omega)
 unfold scF
 exact az (P:=fun R:List Lot => R.length ≤ own.length) (fun _ => by rw [aF];omega) fun _ => by omega
theorem qZ {l:List Lot} {a c q:Int}:(aR l a c q).1.length ≤ l.length + 40:=by
 unfold aR
 refine az (P:=fun R:List Lot × Int => R.1.length ≤ l.length + 40) (fun _ => Nat.zero_le _) fun _ => az (P:=fun R:List Lot × Int => R.1.length ≤ l.length + 40) (fun _ => Nat.le_add_right _ _) fun _ => az (P:=fun R:List Lot × Int => R.1.length ≤ l.length + 40) (fun _ => Nat.le_add_right _ _) fun _ => az (P:=fun R:List Lot × Int => R.1.length ≤ l.length + 40) (fun _ => Nat.le_add_right _ _) fun h => ?_
 have h1:=A7 (own:=aa l a c) (sh:=shs q ((aa l a c).map Lot.Qty))
 have h2:=cO (fun x:Lot => ¬ (x.Account = a ∧ x.Instr = c)) l
 show (mrg (bh l a c) (scF (aa l a c) (shs q ((aa l a c).map Lot.Qty)))).length ≤ _
 rw [rf]
 unfold bh
 omega
theorem vf {l:List Lot} {pa:Int} {who is:List Int}:∀ k:Nat,(scN l pa who is k).1.length ≤ l.length + 40 * k
 | 0 => Nat.le_refl _
 | k + 1 => by
   have ih:=vf (l:=l) (pa:=pa) (who:=who) (is:=is) k
   have h1:=qZ (l:=(scN l pa who is k).1) (a:=rd who k) (c:=pa) (q:=rd is k)
   unfold scN
   exact az (P:=fun R:List Lot × Int => R.1.length ≤ l.length + 40 * (k + 1)) (fun _ => az (P:=fun R:List Lot × Int => R.1.length ≤ l.length + 40 * (k + 1)) (fun _ => by dsimp only;omega) fun _ => by dsimp only;omega) fun _ => by omega
theorem Ba {b:Books} {pa:Int} (c0:BooksOk b) {is:List Int}:(scN b.Lots pa (who b.Accounts b.Bals pa) is ((who b.Accounts b.Bals pa).length:Int).toNat).1.length ≤ 4294967296:=by
 have h1:=iO b.Accounts b.Bals pa
 have h2:=c0.acc.2
 have h3:=c0.lots.1.2
 have h4:=vf (l:=b.Lots) (pa:=pa) (who:=who b.Accounts b.Bals pa) (is:=is) ((who b.Accounts b.Bals pa).length:Int).toNat
 omega
theorem qr {b:Books} {pa n d iss:Int}:aV (aO b pa n d iss).1:=by
 unfold aO
 refine az (P:=fun R:Books × Int × Int => aV R.1) (fun _ => lQ) fun c0 => ?_
 have m:=(Classical.not_not.1 c0).1.midR
 exact az (P:=fun R:Books × Int × Int => aV R.1) (fun _ => m) fun c1 => az (P:=fun R:Books × Int × Int => aV R.1) (fun _ => m) fun c2 => az (P:=fun R:Books × Int × Int => aV R.1) (fun _ => m) fun c3 => az (P:=fun R:Books × Int × Int => aV R.1) (fun _ => m) fun c4 => az (P:=fun R:Books × Int × Int => aV R.1) (fun _ => m) fun c5 => az (P:=fun R:Books × Int × Int => aV R.1) (fun _ => m) fun c6 => az (P:=fun R:Books × Int × Int => aV R.1) (fun _ => m) fun c7 => xV m (gw m c6) (Ba (Classical.not_not.1 c0).1)
end
section
open Go.RowKit
noncomputable def lC (k:Int):Int:=pick (k = 1 ∨ k = 2 ∨ k = 7) 2 (pick (k = 6) 1 (pick (k = 8) 3 (pick (k = 10 ∨ k = 11) 4 (pick (k = 3 ∨ k = 4) 5 (pick (k = 5 ∨ k = 9) 7 (-1))))))
theorem eD (k:Int):((k = 1 ∨ k = 2 ∨ k = 7) ∧ lC k = 2) ∨ (k = 6 ∧ lC k = 1) ∨ (k = 8 ∧ lC k = 3) ∨ ((k = 10 ∨ k = 11) ∧ lC k = 4) ∨ ((k = 3 ∨ k = 4) ∧ lC k = 5) ∨ ((k = 5 ∨ k = 9) ∧ lC k = 7) ∨ ((k < 1 ∨ 11 < k) ∧ lC k = -1):=by
 unfold lC
 by_cases h1:k = 1 ∨ k = 2 ∨ k = 7
 ·rw [aD h1];exact .inl ⟨h1,rfl⟩
 rw [aB h1]
 by_cases h2:k = 6
 ·rw [aD h2];exact .inr (.inl ⟨h2,rfl⟩)
 rw [aB h2]
 by_cases h3:k = 8
 ·rw [aD h3];exact .inr (.inr (.inl ⟨h3,rfl⟩))
 rw [aB h3]
 by_cases h4:k = 10 ∨ k = 11
 ·rw [aD h4];exact .inr (.inr (.inr (.inl ⟨h4,rfl⟩)))
 rw [aB h4]
 by_cases h5:k = 3 ∨ k = 4
 ·rw [aD h5];exact .inr (.inr (.inr (.inr (.inl ⟨h5,rfl⟩))))
 rw [aB h5]
 by_cases h6:k = 5 ∨ k = 9
 ·rw [aD h6];exact .inr (.inr (.inr (.inr (.inr (.inl ⟨h6,rfl⟩)))))
 rw [aB h6]
 exact .inr (.inr (.inr (.inr (.inr (.inr ⟨by omega,rfl⟩)))))
theorem wO {k:Int} (h:inP k 1 11):lC k = rd [0,2,2,5,5,7,1,2,3,7,4,4] k:=by
 have:=eD k
 unfold inP at h
 obtain rfl | rfl | rfl | rfl | rfl | rfl | rfl | rfl | rfl | rfl | rfl:k = 1 ∨ k = 2 ∨ k = 3 ∨ k = 4 ∨ k = 5 ∨ k = 6 ∨ k = 7 ∨ k = 8 ∨ k = 9 ∨ k = 10 ∨ k = 11:=by omega
 all_goals simp [rd];omega
def kP (k:Int) (a:List Int):Prop:=(a.length:Int) = lC k ∧ ∀ x ∈ a,inP x 0 1000000000000000
theorem qG {k:Int}:FC Tryz.prog 160 [I k] ([]) (I (lC k)) ([]):=by
 refine al tk 21 [.tmp 2] Tryz.func160 (by kernel_rfl) rfl rfl rfl rfl rfl rfl rfl ?_
 have h:=eD k
 repeat' (first
| apply yd;rfl
| intro _
| refine nv ?_
| apply wct rfl
| apply wcf rfl
| apply yeq;rfl
| fail)
 all_goals exact bO [] rfl rfl rfl rfl rfl rfl (by omega)
theorem lj {k:Int}:FC Tryz.prog 212 [I k] ([]) (I (lC k)) ([]):=by
 refine al tk 10 [.tmp 2] Tryz.func212 (by kernel_rfl) rfl rfl rfl rfl rfl rfl rfl ?_
 have h:=eD k
 by_cases hk:inP k 1 11
 ·
  have q:1 ≤ k ∧ k ≤ 11:=hk
  have hl:[(0:Int),2,2,5,5,7,1,2,3,7,4,4].length = 12:=rfl
  repeat' (first
| intro h9;exfalso;contradiction
| apply yd;rfl
| intro _
| refine nv ?_
| apply wcf rfl
| apply yix;rfl;omega
| apply yle;rfl;omega
| apply aG (α:=Int) (e:=3);rfl
| apply ycp;rfl;exact aI;rfl
| fail)
  all_goals exact bO [] rfl rfl rfl rfl rfl rfl (wO hk)
 ·
  have q:¬ (1 ≤ k ∧ k ≤ 11):=hk
  repeat' (first
| intro h9;exfalso;contradiction
| apply yd;rfl
| intro _
| refine nv ?_
| apply wct rfl
| apply ycp;rfl;exact aI;rfl
| fail)
  all_goals exact bO [] rfl rfl rfl rfl rfl rfl (by omega)
theorem qH {n:Int}:FC Tryz.prog 162 [I n] ([]) (B (dB (¬ inP n 0 1000000000000000))) ([]):=by
 refine al tk 6 [.tmp 2] Tryz.func162 (by kernel_rfl) rfl rfl rfl rfl rfl rfl rfl ?_
 repeat' (first
| apply yds;rfl
| apply yd;rfl
| intro _
| refine nv ?_
| apply ycp;rfl;exact aJ;rfl
| fail)
 all_goals first | exact bp [] rfl rfl rfl rfl rfl rfl (by assumption) | exact aQ [] rfl rfl rfl rfl rfl rfl (fun k => k (by assumption))
theorem ig {l:List Int}:FC Tryz.prog 261 [.c (.row 0 0 l.length),.c (.fn 162 [])] ([ro 3 l]) (sel (∃ x ∈ l,¬ inP x 0 1000000000000000) (I (fIx l (fun x => ¬ inP x 0 1000000000000000))) (I (-1))) (sel (∃ x ∈ l,¬ inP x 0 1000000000000000) [ro 3 l] [ro 3 l]):=by
 refine al tk 19 [.tmp 4] Tryz.func261 (by kernel_rfl) rfl rfl rfl rfl rfl rfl rfl ?_
 refine cj l 0 rfl (fun hl => ?_)
 repeat' (first
| apply yds;rfl
| apply yd;rfl
| refine nv ?_
| fail)
 refine wlp (X:=Int) [0,1,7] [0] (fun i => [(8,I i)]) (fun _ => []) (fun i => 0 ≤ i ∧ i ≤ l.length ∧ ∀ j:Int,0 ≤ j → j < i → ¬ (fun x => ¬ inP x 0 1000000000000000) (rd l j)) (fun i => (l.length - i).toNat) 0 ⟨by omega,by omega,fun j h0 h1 => by omega⟩ rfl rfl (fun _ => rfl) (fun _ => rfl) ⟨rfl,rfl,rfl,rfl,rfl,rfl,rfl,rfl⟩ (fun i hi => ?_)
 obtain ⟨h0,hi,hall⟩:=hi
 skip
 repeat' (first
| apply yds;rfl
| apply yd;rfl
| apply ycp;rfl;exact qH;rfl
| intro _
| refine nv ?_
| apply wct rfl
| apply wcf rfl
| apply ae rfl
| apply ag;rfl
| apply yar;rfl;omega
| apply yix;rfl;omega
| apply yle;rfl;omega
| fail)
 all_goals first
  | (refine cy (X':=I i) (hs':=[ro 3 l]) [0] rfl rfl rfl rfl rfl rfl ?_ ?_
     ·rw [ap ⟨rd l i,ax ⟨by omega,by omega⟩,by assumption⟩,dZ ⟨by omega,by omega⟩ hall (by assumption)]
     ·rw [ap ⟨rd l i,ax ⟨by omega,by omega⟩,by assumption⟩])
  | exact bS (eS (by assumption) hall) [0] rfl rfl rfl rfl rfl rfl
  | exact aA (i + 1) [0] ⟨rfl,rfl,rfl,rfl,rfl,rfl,rfl,rfl⟩ ⟨by omega,by omega,ay hall (by assumption)⟩ (by first | omega | (dsimp only;omega))
theorem fW {l:List Int}:FC Tryz.prog 161 [.c (.row 0 0 l.length),.c (.fn 162 [])] ([ro 3 l]) (B (dB (∃ x ∈ l,¬ inP x 0 1000000000000000))) ([ro 3 l]):=by
 refine al tk 9 [.tmp 4] Tryz.func161 (by kernel_rfl) rfl rfl rfl rfl rfl rfl rfl ?_
 have hn:=bW l (fun x => ¬ inP x 0 1000000000000000)
 repeat' (first
| apply yds;rfl
| apply yd;rfl
| intro _
| refine nv ?_
| apply ag;rfl
| apply zcs;(iterate 10 rfl);exact ig;exact fun _ => rfl;exact fun _ => rfl;rfl;rfl;rfl;rfl
| fail)
 all_goals first
  | exact bp [0] rfl rfl rfl rfl rfl rfl (by assumption)
  | exact aQ [0] rfl rfl rfl rfl rfl rfl (by assumption)
  | (exfalso;omega)
theorem all_of' {a:List Int} {i:Int} {q:Int → Prop} (h:¬ i < a.length) (hall:∀ j:Int,0 ≤ j → j < i → q (rd a j)):∀ x ∈ a,q x:=fun x hx => by
 obtain ⟨n,hn,rfl⟩:=List.getElem_of_mem hx
 have:=hall n (by omega) (by omega)
 simpa [rd,List.getD_eq_getElem?_getD,hn] using this
theorem nG {k:Int} {a:List Int}:FC Tryz.prog 43 [.agg [.sc (.int .i64 k),.row 0 0 a.length]] ([ro 3 a]) (B (dB (kP k a))) ([ro 3 a]):=by
 refine al tk 16 [.tmp 2] Tryz.func43 (by kernel_rfl) rfl rfl rfl rfl rfl rfl rfl ?_
 refine cj a 0 rfl (fun hl => ?_)
 repeat' (first
| apply yds;rfl
| intro _
| refine nv ?_
| apply yeq;rfl
| refine zdq (id:=1) rfl (by kernel_rfl) [(.p,0),(.p,3),(.t,1),(.p,2),(.t,4),(.o,5),(.p,6),(.p,7),(.p,8),(.t,9),(.o,10),(.p,11),(.p,12),(.p,13)] [] (by kernel_rfl) rfl ?_
| apply yc;rfl;exact qG;rfl;exact fun _ => rfl
| apply ycp;rfl;exact fW;rfl
| fail)
 all_goals first
  | exact bp [0] rfl rfl rfl rfl rfl rfl ⟨by assumption,fun x hx => Classical.byContradiction fun q => absurd (⟨x,hx,q⟩:∃ x ∈ a,¬ inP x 0 1000000000000000) (by assumption)⟩
  | exact aQ [0] rfl rfl rfl rfl rfl rfl (fun h => by obtain ⟨x,hx,q⟩:∃ x ∈ a,¬ inP x 0 1000000000000000:=(by assumption);exact q (h.2 x hx))
  | exact aQ [0] rfl rfl rfl rfl rfl rfl (fun h => by have:=h.1;omega)
  | trace_state
theorem oB {k:Int} {a:List Int}:FC Tryz.prog 156 [.agg [.sc (.int .i64 k),.row 0 0 a.length]] ([ro 3 a]) (B (dB (kP k a))) ([ro 3 a]):=by
 refine al tk 31 [.tmp 2] Tryz.func156 (by kernel_rfl) rfl rfl rfl rfl rfl rfl rfl ?_
 refine cj a 0 rfl (fun hl => ?_)
 have hcn:=eD k
 by_cases hn:(a.length:Int) = lC k
 rotate_left
 ·
  repeat' (first
| intro h9;exfalso;contradiction
| apply yds;rfl
| apply yd;rfl
| intro _
| refine nv ?_
| apply wct rfl
| apply ag;rfl
| apply yne;rfl
| refine zdq (id:=1) rfl (by kernel_rfl) [(.p,0),(.t,1),(.o,2),(.p,3),(.p,4),(.p,5),(.p,8),(.t,6),(.p,7),(.t,9),(.o,10),(.p,11),(.p,12)] [] (by kernel_rfl) rfl ?_
| apply yc;rfl;exact lj;rfl;exact fun _ => rfl
| fail)
  all_goals exact aQ [0] rfl rfl rfl rfl rfl rfl (fun h => hn h.1)
 repeat' (first
| intro h9;exfalso;first | contradiction | omega
| apply yds;rfl
| apply yd;rfl
| intro _
| refine nv ?_
| apply wcf rfl
| apply ag;rfl
| apply yne;rfl
| refine zdq (id:=1) rfl (by kernel_rfl) [(.p,0),(.t,1),(.o,2),(.p,3),(.p,4),(.p,5),(.p,8),(.t,6),(.p,7),(.t,9),(.o,10),(.p,11),(.p,12)] [] (by kernel_rfl) rfl ?_
| apply yc;rfl;exact lj;rfl;exact fun _ => rfl
| fail)
 all_goals skip
 refine wlp (X:=Int) [1] [0,1] (fun i => [(3,I i)]) (fun _ => []) (fun i => 0 ≤ i ∧ i ≤ a.length ∧ ∀ j:Int,0 ≤ j → j < i → inP (rd a j) 0 1000000000000000) (fun i => (a.length - i).toNat) 0 ⟨by omega,by omega,fun j h0 h1 => by omega⟩ rfl rfl (fun _ => rfl) (fun _ => rfl) ⟨rfl,rfl,rfl,rfl,rfl,rfl,rfl,rfl⟩ (fun i hi => ?_)
 obtain ⟨h0,hi,hall⟩:=hi
 repeat' (first
| apply yds;rfl
| apply yd;rfl
| intro _
| refine nv ?_
| apply wct rfl
| apply wcf rfl
| apply ae rfl
| apply ag;rfl
| apply yar;rfl;omega
| apply yix;rfl;omega
| apply yle;rfl;omega
| apply ycp;rfl;exact aC;rfl
| fail)
 all_goals first
  | exact bp [0] rfl rfl rfl rfl rfl rfl ⟨hn,all_of' (by assumption) hall⟩
  | exact aQ [0] rfl rfl rfl rfl rfl rfl (fun h => by have q:=h.2 _ (ax (l:=a) (i:=i) ⟨h0,by assumption⟩);contradiction)
  | exact aA (i + 1) [0,1] ⟨rfl,rfl,rfl,rfl,rfl,rfl,rfl,rfl⟩ ⟨by omega,by omega,ay hall (by assumption)⟩ (by first | omega | (dsimp only;omega))
  | (exfalso;omega)
  | trace_state
end
section
open Go.RowKit
noncomputable def ch (b:Books) (k:Int) (a:List Int):Books × Int × Int :=
 sel (k = 1) ((aT b (rd a 0) (rd a 1)).1,0,(aT b (rd a 0) (rd a 1)).2)
 (sel (k = 2) ((bz b (rd a 0) (rd a 1)).1,0,(bz b (rd a 0) (rd a 1)).2)
 (sel (k = 3) ((aU b (rd a 0) (rd a 1) (rd a 2) (rd a 3) (rd a 4)).1,0,(aU b (rd a 0) (rd a 1) (rd a 2) (rd a 3) (rd a 4)).2)
 (sel (k = 4) (b9 b (rd a 0) (rd a 1) (rd a 2) (rd a 3) (rd a 4))
 (sel (k = 5) ((b8 b (rd a 0) (rd a 1) (rd a 2) (rd a 3) (rd a 4) (rd a 5) (rd a 6)).1,0,(b8 b (rd a 0) (rd a 1) (rd a 2) (rd a 3) (rd a 4) (rd a 5) (rd a 6)).2)
 (sel (k = 6) ((bm b (rd a 0)).1,0,(bm b (rd a 0)).2)
 (sel (k = 7) (au b (rd a 0) (rd a 1))
 (sel (k = 8) ((bg b (rd a 0) (rd a 1) (rd a 2)).1,(bg b (rd a 0) (rd a 1) (rd a 2)).2.2.1,(bg b (rd a 0) (rd a 1) (rd a 2)).2.2.2)
 (sel (k = 9) (cx b (rd a 0) (rd a 1) (rd a 2) (rd a 3) (rd a 4) (rd a 5) (rd a 6))
 (sel (k = 10) (aO b (rd a 0) (rd a 1) (rd a 2) (rd a 3))
 (sel (k = 11) (bI b (rd a 0) (rd a 1) (rd a 2) (rd a 3))
 (⟨[],[],[],[],[],0⟩,0,1)))))))))))
theorem wP {b:Books} {k:Int} {a:List Int}  (c0:k = 1):ch b k a = ((aT b (rd a 0) (rd a 1)).1,0,(aT b (rd a 0) (rd a 1)).2):=by
 rw [ch,ap c0]
theorem wQ {b:Books} {k:Int} {a:List Int} (c0:¬ (k = 1)) (c1:k = 2):ch b k a = ((bz b (rd a 0) (rd a 1)).1,0,(bz b (rd a 0) (rd a 1)).2):=by
 rw [ch,a8 c0,ap c1]
theorem wR {b:Books} {k:Int} {a:List Int} (c0:¬ (k = 1)) (c1:¬ (k = 2)) (c2:k = 3):ch b k a = ((aU b (rd a 0) (rd a 1) (rd a 2) (rd a 3) (rd a 4)).1,0,(aU b (rd a 0) (rd a 1) (rd a 2) (rd a 3) (rd a 4)).2):=by
 rw [ch,a8 c0,a8 c1,ap c2]
theorem wS {b:Books} {k:Int} {a:List Int} (c0:¬ (k = 1)) (c1:¬ (k = 2)) (c2:¬ (k = 3)) (c3:k = 4):ch b k a = (b9 b (rd a 0) (rd a 1) (rd a 2) (rd a 3) (rd a 4)):=by
 rw [ch,a8 c0,a8 c1,a8 c2,ap c3]
theorem wT {b:Books} {k:Int} {a:List Int} (c0:¬ (k = 1)) (c1:¬ (k = 2)) (c2:¬ (k = 3)) (c3:¬ (k = 4)) (c4:k = 5):ch b k a = ((b8 b (rd a 0) (rd a 1) (rd a 2) (rd a 3) (rd a 4) (rd a 5) (rd a 6)).1,0,(b8 b (rd a 0) (rd a 1) (rd a 2) (rd a 3) (rd a 4) (rd a 5) (rd a 6)).2):=by
 rw [ch,a8 c0,a8 c1,a8 c2,a8 c3,ap c4]
theorem wV {b:Books} {k:Int} {a:List Int} (c0:¬ (k = 1)) (c1:¬ (k = 2)) (c2:¬ (k = 3)) (c3:¬ (k = 4)) (c4:¬ (k = 5)) (c5:k = 6):ch b k a = ((bm b (rd a 0)).1,0,(bm b (rd a 0)).2):=by
 rw [ch,a8 c0,a8 c1,a8 c2,a8 c3,a8 c4,ap c5]
theorem wW {b:Books} {k:Int} {a:List Int} (c0:¬ (k = 1)) (c1:¬ (k = 2)) (c2:¬ (k = 3)) (c3:¬ (k = 4)) (c4:¬ (k = 5)) (c5:¬ (k = 6)) (c6:k = 7):ch b k a = (au b (rd a 0) (rd a 1)):=by
 rw [ch,a8 c0,a8 c1,a8 c2,a8 c3,a8 c4,a8 c5,ap c6]
theorem wX {b:Books} {k:Int} {a:List Int} (c0:¬ (k = 1)) (c1:¬ (k = 2)) (c2:¬ (k = 3)) (c3:¬ (k = 4)) (c4:¬ (k = 5)) (c5:¬ (k = 6)) (c6:¬ (k = 7)) (c7:k = 8):ch b k a = ((bg b (rd a 0) (rd a 1) (rd a 2)).1,(bg b (rd a 0) (rd a 1) (rd a 2)).2.2.1,(bg b (rd a 0) (rd a 1) (rd a 2)).2.2.2):=by
 rw [ch,a8 c0,a8 c1,a8 c2,a8 c3,a8 c4,a8 c5,a8 c6,ap c7]
theorem wY {b:Books} {k:Int} {a:List Int} (c0:¬ (k = 1)) (c1:¬ (k = 2)) (c2:¬ (k = 3)) (c3:¬ (k = 4)) (c4:¬ (k = 5)) (c5:¬ (k = 6)) (c6:¬ (k = 7)) (c7:¬ (k = 8)) (c8:k = 9):ch b k a = (cx b (rd a 0) (rd a 1) (rd a 2) (rd a 3) (rd a 4) (rd a 5) (rd a 6)):=by
 rw [ch,a8 c0,a8 c1,a8 c2,a8 c3,a8 c4,a8 c5,a8 c6,a8 c7,ap c8]
theorem wZ {b:Books} {k:Int} {a:List Int} (c0:¬ (k = 1)) (c1:¬ (k = 2)) (c2:¬ (k = 3)) (c3:¬ (k = 4)) (c4:¬ (k = 5)) (c5:¬ (k = 6)) (c6:¬ (k = 7)) (c7:¬ (k = 8)) (c8:¬ (k = 9)) (c9:k = 10):ch b k a = (aO b (rd a 0) (rd a 1) (rd a 2) (rd a 3)):=by
 rw [ch,a8 c0,a8 c1,a8 c2,a8 c3,a8 c4,a8 c5,a8 c6,a8 c7,a8 c8,ap c9]
theorem uz {b:Books} {k:Int} {a:List Int} (c0:¬ (k = 1)) (c1:¬ (k = 2)) (c2:¬ (k = 3)) (c3:¬ (k = 4)) (c4:¬ (k = 5)) (c5:¬ (k = 6)) (c6:¬ (k = 7)) (c7:¬ (k = 8)) (c8:¬ (k = 9)) (c9:¬ (k = 10)) (c10:k = 11):ch b k a = (bI b (rd a 0) (rd a 1) (rd a 2) (rd a 3)):=by
 rw [ch,a8 c0,a8 c1,a8 c2,a8 c3,a8 c4,a8 c5,a8 c6,a8 c7,a8 c8,a8 c9,ap c10]
theorem pT {ba:List Account} {bi:List Instr} {bb:List Bal} {bl:List Lot} {bt:List Trade} {bn:Int} {k:Int} {a:List Int} (ha:kP k a):FC Tryz.prog 155 [bkV 0 ⟨ba,bi,bb,bl,bt,bn⟩,I k,.c (.row 5 0 a.length)] (bkR ⟨ba,bi,bb,bl,bt,bn⟩ ++ [ro 3 a]) (.tup [bkE 6 (ch ⟨ba,bi,bb,bl,bt,bn⟩ k a).1,I (ch ⟨ba,bi,bb,bl,bt,bn⟩ k a).2.1,I (ch ⟨ba,bi,bb,bl,bt,bn⟩ k a).2.2]) (bkR ⟨ba,bi,bb,bl,bt,bn⟩ ++ [ro 3 a] ++ bkW (ch ⟨ba,bi,bb,bl,bt,bn⟩ k a).1):=by
 refine al tk 227 [.cell 6 _,.tmp 7,.tmp 8] Tryz.func155 (by kernel_rfl) rfl rfl rfl rfl rfl rfl rfl ?_
 have hc:=eD k
 have hl:=ha.1
 obtain rfl | rfl | rfl | rfl | rfl | rfl | rfl | rfl | rfl | rfl | rfl:k = 1 ∨ k = 2 ∨ k = 3 ∨ k = 4 ∨ k = 5 ∨ k = 6 ∨ k = 7 ∨ k = 8 ∨ k = 9 ∨ k = 10 ∨ k = 11:=by omega
 have hn:a.length = 2:=by omega
 rw [wP (b:=⟨ba,bi,bb,bl,bt,bn⟩) rfl]
 rotate_left
 have hn:a.length = 2:=by omega
 rw [wQ (b:=⟨ba,bi,bb,bl,bt,bn⟩) (by decide) rfl]
 rotate_left
 have hn:a.length = 5:=by omega
 rw [wR (b:=⟨ba,bi,bb,bl,bt,bn⟩) (by decide) (by decide) rfl]
 rotate_left
 have hn:a.length = 5:=by omega
 rw [wS (b:=⟨ba,bi,bb,bl,bt,bn⟩) (by decide) (by decide) (by decide) rfl]
 rotate_left
 have hn:a.length = 7:=by omega
 rw [wT (b:=⟨ba,bi,bb,bl,bt,bn⟩) (by decide) (by decide) (by decide) (by decide) rfl]
 rotate_left
 have hn:a.length = 1:=by omega
 rw [wV (b:=⟨ba,bi,bb,bl,bt,bn⟩) (by decide) (by decide) (by decide) (by decide) (by decide) rfl]
 rotate_left
 have hn:a.length = 2:=by omega
 rw [wW (b:=⟨ba,bi,bb,bl,bt,bn⟩) (by decide) (by decide) (by decide) (by decide) (by decide) (by decide) rfl]
 rotate_left
 have hn:a.length = 3:=by omega
 rw [wX (b:=⟨ba,bi,bb,bl,bt,bn⟩) (by decide) (by decide) (by decide) (by decide) (by decide) (by decide) (by decide) rfl]
 rotate_left
 have hn:a.length = 7:=by omega
 rw [wY (b:=⟨ba,bi,bb,bl,bt,bn⟩) (by decide) (by decide) (by decide) (by decide) (by decide) (by decide) (by decide) (by decide) rfl]
 rotate_left
 have hn:a.length = 4:=by omega
 rw [wZ (b:=⟨ba,bi,bb,bl,bt,bn⟩) (by decide) (by decide) (by decide) (by decide) (by decide) (by decide) (by decide) (by decide) (by decide) rfl]
 rotate_left
 have hn:a.length = 4:=by omega
 rw [uz (b:=⟨ba,bi,bb,bl,bt,bn⟩) (by decide) (by decide) (by decide) (by decide) (by decide) (by decide) (by decide) (by decide) (by decide) (by decide) rfl]
 rotate_left
 repeat' (first
| intro h9;exfalso;contradiction
| apply yds;rfl
| apply yd;rfl
| intro _
| refine nv ?_
| apply wct rfl
| apply wcf rfl
| apply yeq;rfl
| apply yix;rfl;omega
| apply yle;rfl;omega
| refine zdq (id:=4) rfl (by kernel_rfl) [(.p,1),(.p,2),(.p,4),(.p,5),(.t,0),(.t,3),(.t,6),(.o,7),(.p,8),(.p,9),(.p,10),(.l,11),(.p,12)] [11] (by kernel_rfl) rfl ?_
| refine zdq (id:=6) rfl (by kernel_rfl) [(.p,1),(.p,2),(.p,4),(.p,5),(.t,0),(.t,3),(.t,6),(.o,7),(.p,8),(.p,9),(.p,10),(.l,11),(.p,12)] [11] (by kernel_rfl) rfl ?_
| refine zdq (id:=8) rfl (by kernel_rfl) [(.p,1),(.p,2),(.p,4),(.p,5),(.p,7),(.p,8),(.p,10),(.p,11),(.p,13),(.p,14),(.t,0),(.t,3),(.t,6),(.t,9),(.t,12),(.t,15),(.o,16),(.p,17),(.p,18),(.p,19),(.l,20),(.p,21)] [20] (by kernel_rfl) rfl ?_
| refine zdq (id:=10) rfl (by kernel_rfl) [(.p,1),(.p,2),(.p,4),(.p,5),(.p,7),(.p,8),(.p,10),(.p,11),(.p,13),(.p,14),(.p,16),(.p,17),(.p,19),(.p,20),(.t,0),(.t,3),(.t,6),(.t,9),(.t,12),(.t,15),(.t,18),(.t,21),(.o,22),(.p,23),(.p,24),(.p,25),(.l,26),(.p,27)] [26] (by kernel_rfl) rfl ?_
| refine zdq (id:=12) rfl (by kernel_rfl) [(.p,1),(.p,2),(.t,0),(.t,3),(.o,4),(.p,5),(.p,6),(.p,7),(.l,8),(.p,9)] [8] (by kernel_rfl) rfl ?_
| refine zdq (id:=14) rfl (by kernel_rfl) [(.p,1),(.p,2),(.p,4),(.p,5),(.p,7),(.p,8),(.p,10),(.p,11),(.p,13),(.p,14),(.t,0),(.t,3),(.t,6),(.t,9),(.t,12),(.t,15),(.o,16),(.p,17),(.p,18),(.p,19),(.l,20),(.p,21),(.p,22)] [20] (by kernel_rfl) rfl ?_
| refine zdq (id:=16) rfl (by kernel_rfl) [(.p,1),(.p,2),(.p,4),(.p,5),(.t,0),(.t,3),(.t,6),(.o,7),(.p,8),(.p,9),(.p,10),(.l,11),(.p,12),(.p,13)] [11] (by kernel_rfl) rfl ?_
| refine rO (id:=18) rfl (by kernel_rfl) [(.p,1),(.p,2),(.p,4),(.p,5),(.p,7),(.p,8),(.t,0),(.t,3),(.t,6),(.t,9)] 10 16 [(.p,11),(.p,12),(.p,13),(.p,14),(.p,15),(.o,16),(.l,17),(.p,18),(.p,19),(.p,20)] [(.o,10),(.p,11),(.p,12),(.p,13),(.p,14),(.p,15),(.l,17),(.p,18),(.p,19),(.p,20)] [17] (by kernel_rfl) rfl rfl rfl ?_
| apply fv
| refine zdq (id:=21) rfl (by kernel_rfl) [(.p,1),(.p,2),(.p,4),(.p,5),(.p,7),(.p,8),(.p,10),(.p,11),(.p,13),(.p,14),(.p,16),(.p,17),(.p,19),(.p,20),(.t,0),(.t,3),(.t,6),(.t,9),(.t,12),(.t,15),(.t,18),(.t,21),(.o,22),(.p,23),(.p,24),(.p,25),(.l,26),(.p,27),(.p,28)] [26] (by kernel_rfl) rfl ?_
| refine zdq (id:=23) rfl (by kernel_rfl) [(.p,1),(.p,2),(.p,4),(.p,5),(.p,7),(.p,8),(.p,10),(.p,11),(.t,0),(.t,3),(.t,6),(.t,9),(.t,12),(.o,13),(.p,14),(.p,15),(.p,16),(.l,17),(.p,18),(.p,19)] [17] (by kernel_rfl) rfl ?_
| refine zdq (id:=25) rfl (by kernel_rfl) [(.p,1),(.p,2),(.p,4),(.p,5),(.p,7),(.p,8),(.p,10),(.p,11),(.t,0),(.t,3),(.t,6),(.t,9),(.t,12),(.o,13),(.p,14),(.p,15),(.p,16),(.l,17),(.p,18),(.p,19)] [17] (by kernel_rfl) rfl ?_
| apply ycf;rfl;(first | exact lD | exact nC | exact nD | exact nF | exact mw | exact oQ | exact f5 | exact qD | exact su | exact nE | exact qF);rfl
| fail)
 all_goals (first | exact ai [0,1,2,3,4,5,9,10,11,12,13] rfl rfl rfl rfl rfl rfl | exact ai [0,1,2,3,4,5,10,11,12,13,14] rfl rfl rfl rfl rfl rfl)
noncomputable def eQ (b:Books) (k:Int) (a:List Int):Books × Int × Int :=
 sel (¬ (BooksOk b ∧ kP k a)) (⟨[],[],[],[],[],0⟩,1,0)
 (sel (¬ (ch b k a).2.2 = 0) ((ch b k a).1,(ch b k a).2.2,0)
 ((ch b k a).1,(ch b k a).2.2,(ch b k a).2.1))
theorem wN {b:Books} {k:Int} {a:List Int}  (c0:¬ (BooksOk b ∧ kP k a)):eQ b k a = (⟨[],[],[],[],[],0⟩,1,0):=by
 rw [eQ,ap c0]
theorem eY {b:Books} {k:Int} {a:List Int} (c0:¬ (¬ (BooksOk b ∧ kP k a))) (c1:¬ (ch b k a).2.2 = 0):eQ b k a = ((ch b k a).1,(ch b k a).2.2,0):=by
 rw [eQ,a8 c0,ap c1]
theorem eZ {b:Books} {k:Int} {a:List Int} (c0:¬ (¬ (BooksOk b ∧ kP k a))) (c1:¬ (¬ (ch b k a).2.2 = 0)):eQ b k a = ((ch b k a).1,(ch b k a).2.2,(ch b k a).2.1):=by
 rw [eQ,a8 c0,a8 c1]
theorem oR {ba:List Account} {bi:List Instr} {bb:List Bal} {bl:List Lot} {bt:List Trade} {bn:Int} {k:Int} {a:List Int}:FC Tryz.prog 41 [bkV 0 ⟨ba,bi,bb,bl,bt,bn⟩,.agg [.sc (.int .i64 k),.row 5 0 a.length]] (bkR ⟨ba,bi,bb,bl,bt,bn⟩ ++ [ro 3 a]) (.tup [bkE 6 (eQ ⟨ba,bi,bb,bl,bt,bn⟩ k a).1,.agg [.sc (.int .i64 (eQ ⟨ba,bi,bb,bl,bt,bn⟩ k a).2.1),.sc (.int .i64 (eQ ⟨ba,bi,bb,bl,bt,bn⟩ k a).2.2)]]) (bkR ⟨ba,bi,bb,bl,bt,bn⟩ ++ [ro 3 a] ++ bkW (eQ ⟨ba,bi,bb,bl,bt,bn⟩ k a).1):=by
 refine al tk 35 [.cell 4 _,.cell 5 _] Tryz.func41 (by kernel_rfl) rfl rfl rfl rfl rfl rfl rfl ?_
 by_cases c0:¬ (BooksOk ⟨ba,bi,bb,bl,bt,bn⟩ ∧ kP k a)
 ·
  rw [wN (b:=⟨ba,bi,bb,bl,bt,bn⟩) c0]
  repeat' (first
| apply ah (d:=17) 0 42 2;rfl;rfl;rfl;rfl;rfl
| apply ah (d:=17) 1 74 2;rfl;rfl;rfl;rfl;rfl
| apply ah (d:=17) 2 135 3;rfl;rfl;rfl;rfl;rfl
| apply ah (d:=17) 3 137 5;rfl;rfl;rfl;rfl;rfl
| apply ah (d:=17) 4 103 8;rfl;rfl;rfl;rfl;rfl
| apply yd;rfl
| intro _
| refine nv ?_
| apply wct rfl
| apply wcf rfl
| apply yne;rfl
| apply ycp;rfl;(first | exact aw | exact nG);rfl
| apply ycf;rfl;exact pT (by assumption);rfl
| fail)
  all_goals first | (exfalso;exact c0 ⟨by assumption,by assumption⟩) | exact ai [0,1,2,3,4,5,10,11,12,13,14] rfl rfl rfl rfl rfl rfl
 obtain ⟨hok,hco⟩:=Classical.not_not.1 c0
 by_cases c1:(ch ⟨ba,bi,bb,bl,bt,bn⟩ k a).2.2 = 0
 rw [eZ (b:=⟨ba,bi,bb,bl,bt,bn⟩) c0 (fun h => h c1)]
 rotate_left
 rw [eY (b:=⟨ba,bi,bb,bl,bt,bn⟩) c0 c1]
 repeat' (first
| intro h9;exfalso;contradiction
| apply yds;rfl
| apply yd;rfl
| intro _
| refine nv ?_
| apply wct rfl
| apply wcf rfl
| apply yne;rfl
| apply ycp;rfl;(first | exact aw | exact nG);rfl
| apply ycf;rfl;exact pT (by assumption);rfl
| fail)
 all_goals exact ai [0,1,2,3,4,5,10,11,12,13,14] rfl rfl rfl rfl rfl rfl
theorem pl {ba:List Account} {bi:List Instr} {bb:List Bal} {bl:List Lot} {bt:List Trade} {bn:Int} {k:Int} {a:List Int}:FC Tryz.prog 42 [bkV 0 ⟨ba,bi,bb,bl,bt,bn⟩,.agg [.sc (.int .i64 k),.row 5 0 a.length]] (bkR ⟨ba,bi,bb,bl,bt,bn⟩ ++ [ro 3 a]) (.tup [bkE 6 (eQ ⟨ba,bi,bb,bl,bt,bn⟩ k a).1,.agg [.sc (.int .i64 (eQ ⟨ba,bi,bb,bl,bt,bn⟩ k a).2.1),.sc (.int .i64 (eQ ⟨ba,bi,bb,bl,bt,bn⟩ k a).2.2)]]) (bkR ⟨ba,bi,bb,bl,bt,bn⟩ ++ [ro 3 a] ++ bkW (eQ ⟨ba,bi,bb,bl,bt,bn⟩ k a).1):=by
 refine al tk 242 [.cell 4 _,.cell 5 _] Tryz.func42 (by kernel_rfl) rfl rfl rfl rfl rfl rfl rfl ?_
 by_cases c0:¬ (BooksOk ⟨ba,bi,bb,bl,bt,bn⟩ ∧ kP k a)
 ·
  rw [wN (b:=⟨ba,bi,bb,bl,bt,bn⟩) c0]
  repeat' (first
| intro h9;exfalso;contradiction
| apply ah (d:=10) 0 42 2;rfl;rfl;rfl;rfl;rfl
| apply ah (d:=10) 1 74 2;rfl;rfl;rfl;rfl;rfl
| apply ah (d:=10) 2 135 3;rfl;rfl;rfl;rfl;rfl
| apply ah (d:=10) 3 137 5;rfl;rfl;rfl;rfl;rfl
| apply ah (d:=10) 4 103 8;rfl;rfl;rfl;rfl;rfl
| apply yd;rfl
| intro _
| refine nv ?_
| apply wct rfl
| apply wcf rfl
| apply yeq;rfl
| apply yne;rfl
| refine zdq (id:=7) rfl (by kernel_rfl) [(.p,1),(.p,2),(.p,4),(.p,5),(.t,0),(.t,3),(.t,6),(.o,7),(.p,8),(.p,9),(.p,10),(.l,11),(.p,12)] [11] (by kernel_rfl) rfl ?_
| refine zdq (id:=9) rfl (by kernel_rfl) [(.p,1),(.p,2),(.p,4),(.p,5),(.t,0),(.t,3),(.t,6),(.o,7),(.p,8),(.p,9),(.p,10),(.l,11),(.p,12)] [11] (by kernel_rfl) rfl ?_
| refine zdq (id:=11) rfl (by kernel_rfl) [(.p,1),(.p,2),(.p,4),(.p,5),(.p,7),(.p,8),(.p,10),(.p,11),(.p,13),(.p,14),(.t,0),(.t,3),(.t,6),(.t,9),(.t,12),(.t,15),(.o,16),(.p,17),(.p,18),(.p,19),(.l,20),(.p,21)] [20] (by kernel_rfl) rfl ?_
| refine zdq (id:=13) rfl (by kernel_rfl) [(.p,1),(.p,2),(.p,4),(.p,5),(.p,7),(.p,8),(.p,10),(.p,11),(.p,13),(.p,14),(.t,0),(.t,3),(.t,6),(.t,9),(.t,12),(.t,15),(.o,16),(.p,17),(.p,18),(.p,19),(.p,20),(.l,21),(.p,22),(.p,23)] [21] (by kernel_rfl) rfl ?_
| refine zdq (id:=15) rfl (by kernel_rfl) [(.p,1),(.p,2),(.p,4),(.p,5),(.p,7),(.p,8),(.p,10),(.p,11),(.p,13),(.p,14),(.p,16),(.p,17),(.p,19),(.p,20),(.t,0),(.t,3),(.t,6),(.t,9),(.t,12),(.t,15),(.t,18),(.t,21),(.o,22),(.p,23),(.p,24),(.p,25),(.l,26),(.p,27)] [26] (by kernel_rfl) rfl ?_
| refine zdq (id:=17) rfl (by kernel_rfl) [(.p,1),(.p,2),(.t,0),(.t,3),(.o,4),(.p,5),(.p,6),(.p,7),(.l,8),(.p,9)] [8] (by kernel_rfl) rfl ?_
| refine zdq (id:=19) rfl (by kernel_rfl) [(.p,1),(.p,2),(.p,4),(.p,5),(.t,0),(.t,3),(.t,6),(.o,7),(.p,8),(.p,9),(.p,10),(.p,11),(.l,12),(.p,13),(.p,14)] [12] (by kernel_rfl) rfl ?_
| refine zdq (id:=21) rfl (by kernel_rfl) [(.p,1),(.p,2),(.p,4),(.p,5),(.p,7),(.p,8),(.t,0),(.t,3),(.t,6),(.t,9),(.o,10),(.p,11),(.p,12),(.p,13),(.p,14),(.p,15),(.l,16),(.p,17),(.p,18)] [16] (by kernel_rfl) rfl ?_
| refine zdq (id:=23) rfl (by kernel_rfl) [(.p,1),(.p,2),(.p,4),(.p,5),(.p,7),(.p,8),(.p,10),(.p,11),(.p,13),(.p,14),(.p,16),(.p,17),(.p,19),(.p,20),(.t,0),(.t,3),(.t,6),(.t,9),(.t,12),(.t,15),(.t,18),(.t,21),(.o,22),(.p,23),(.p,24),(.p,25),(.p,26),(.l,27),(.p,28),(.p,29)] [27] (by kernel_rfl) rfl ?_
| refine zdq (id:=25) rfl (by kernel_rfl) [(.p,1),(.p,2),(.p,4),(.p,5),(.p,7),(.p,8),(.p,10),(.p,11),(.t,0),(.t,3),(.t,6),(.t,9),(.t,12),(.o,13),(.p,14),(.p,15),(.p,16),(.p,17),(.l,18),(.p,19),(.p,20)] [18] (by kernel_rfl) rfl ?_
| refine zdq (id:=27) rfl (by kernel_rfl) [(.p,1),(.p,2),(.p,4),(.p,5),(.p,7),(.p,8),(.p,10),(.p,11),(.t,0),(.t,3),(.t,6),(.t,9),(.t,12),(.o,13),(.p,14),(.p,15),(.p,16),(.p,17),(.l,18),(.p,19),(.p,20)] [18] (by kernel_rfl) rfl ?_
| apply ycp;rfl;(first | exact aq | exact oB);rfl
| fail)
  all_goals first | (exfalso;exact c0 ⟨by assumption,by assumption⟩) | exact ai [0,1,2,3,4,5,10,11,12,13,14] rfl rfl rfl rfl rfl rfl
 obtain ⟨hok,hco⟩:=Classical.not_not.1 c0
 have hc:=eD k
 have hl:=hco.1
 obtain rfl | rfl | rfl | rfl | rfl | rfl | rfl | rfl | rfl | rfl | rfl:k = 1 ∨ k = 2 ∨ k = 3 ∨ k = 4 ∨ k = 5 ∨ k = 6 ∨ k = 7 ∨ k = 8 ∨ k = 9 ∨ k = 10 ∨ k = 11:=by omega
 have hn:a.length = 2:=by omega
 have e:=wP (b:=⟨ba,bi,bb,bl,bt,bn⟩) (a:=a) rfl
 by_cases c1:(ch ⟨ba,bi,bb,bl,bt,bn⟩ 1 a).2.2 = 0
 rw [eZ (b:=⟨ba,bi,bb,bl,bt,bn⟩) c0 (fun h => h c1),e]
 rw [e] at c1
 try dsimp only at c1
 rotate_left
 rw [eY (b:=⟨ba,bi,bb,bl,bt,bn⟩) c0 c1,e]
 rw [e] at c1
 try dsimp only at c1
 rotate_left
 have hn:a.length = 2:=by omega
 have e:=wQ (b:=⟨ba,bi,bb,bl,bt,bn⟩) (a:=a) (by decide) rfl
 by_cases c1:(ch ⟨ba,bi,bb,bl,bt,bn⟩ 2 a).2.2 = 0
 rw [eZ (b:=⟨ba,bi,bb,bl,bt,bn⟩) c0 (fun h => h c1),e]
 rw [e] at c1
 try dsimp only at c1
 rotate_left
 rw [eY (b:=⟨ba,bi,bb,bl,bt,bn⟩) c0 c1,e]
 rw [e] at c1
 try dsimp only at c1
 rotate_left
 have hn:a.length = 5:=by omega
 have e:=wR (b:=⟨ba,bi,bb,bl,bt,bn⟩) (a:=a) (by decide) (by decide) rfl
 by_cases c1:(ch ⟨ba,bi,bb,bl,bt,bn⟩ 3 a).2.2 = 0
 rw [eZ (b:=⟨ba,bi,bb,bl,bt,bn⟩) c0 (fun h => h c1),e]
 rw [e] at c1
 try dsimp only at c1
 rotate_left
 rw [eY (b:=⟨ba,bi,bb,bl,bt,bn⟩) c0 c1,e]
 rw [e] at c1
 try dsimp only at c1
 rotate_left
 have hn:a.length = 5:=by omega
 have e:=wS (b:=⟨ba,bi,bb,bl,bt,bn⟩) (a:=a) (by decide) (by decide) (by decide) rfl
 by_cases c1:(ch ⟨ba,bi,bb,bl,bt,bn⟩ 4 a).2.2 = 0
 rw [eZ (b:=⟨ba,bi,bb,bl,bt,bn⟩) c0 (fun h => h c1),e]
 rw [e] at c1
 try dsimp only at c1
 rotate_left
 rw [eY (b:=⟨ba,bi,bb,bl,bt,bn⟩) c0 c1,e]
 rw [e] at c1
 try dsimp only at c1
 rotate_left
 have hn:a.length = 7:=by omega
 have e:=wT (b:=⟨ba,bi,bb,bl,bt,bn⟩) (a:=a) (by decide) (by decide) (by decide) (by decide) rfl
 by_cases c1:(ch ⟨ba,bi,bb,bl,bt,bn⟩ 5 a).2.2 = 0
 rw [eZ (b:=⟨ba,bi,bb,bl,bt,bn⟩) c0 (fun h => h c1),e]
 rw [e] at c1
 try dsimp only at c1
 rotate_left
 rw [eY (b:=⟨ba,bi,bb,bl,bt,bn⟩) c0 c1,e]
 rw [e] at c1
 try dsimp only at c1
 rotate_left
 have hn:a.length = 1:=by omega
 have e:=wV (b:=⟨ba,bi,bb,bl,bt,bn⟩) (a:=a) (by decide) (by decide) (by decide) (by decide) (by decide) rfl
 by_cases c1:(ch ⟨ba,bi,bb,bl,bt,bn⟩ 6 a).2.2 = 0
 rw [eZ (b:=⟨ba,bi,bb,bl,bt,bn⟩) c0 (fun h => h c1),e]
 rw [e] at c1
 try dsimp only at c1
 rotate_left
 rw [eY (b:=⟨ba,bi,bb,bl,bt,bn⟩) c0 c1,e]
 rw [e] at c1
 try dsimp only at c1
 rotate_left
 have hn:a.length = 2:=by omega
 have e:=wW (b:=⟨ba,bi,bb,bl,bt,bn⟩) (a:=a) (by decide) (by decide) (by decide) (by decide) (by decide) (by decide) rfl
 by_cases c1:(ch ⟨ba,bi,bb,bl,bt,bn⟩ 7 a).2.2 = 0
 rw [eZ (b:=⟨ba,bi,bb,bl,bt,bn⟩) c0 (fun h => h c1),e]
 rw [e] at c1
 try dsimp only at c1
 rotate_left
 rw [eY (b:=⟨ba,bi,bb,bl,bt,bn⟩) c0 c1,e]
 rw [e] at c1
 try dsimp only at c1
 rotate_left
 have hn:a.length = 3:=by omega
 have e:=wX (b:=⟨ba,bi,bb,bl,bt,bn⟩) (a:=a) (by decide) (by decide) (by decide) (by decide) (by decide) (by decide) (by decide) rfl
 by_cases c1:(ch ⟨ba,bi,bb,bl,bt,bn⟩ 8 a).2.2 = 0
 rw [eZ (b:=⟨ba,bi,bb,bl,bt,bn⟩) c0 (fun h => h c1),e]
 rw [e] at c1
 try dsimp only at c1
 rotate_left
 rw [eY (b:=⟨ba,bi,bb,bl,bt,bn⟩) c0 c1,e]
 rw [e] at c1
 try dsimp only at c1
 rotate_left
 have hn:a.length = 7:=by omega
 have e:=wY (b:=⟨ba,bi,bb,bl,bt,bn⟩) (a:=a) (by decide) (by decide) (by decide) (by decide) (by decide) (by decide) (by decide) (by decide) rfl
 by_cases c1:(ch ⟨ba,bi,bb,bl,bt,bn⟩ 9 a).2.2 = 0
 rw [eZ (b:=⟨ba,bi,bb,bl,bt,bn⟩) c0 (fun h => h c1),e]
 rw [e] at c1
 try dsimp only at c1
 rotate_left
 rw [eY (b:=⟨ba,bi,bb,bl,bt,bn⟩) c0 c1,e]
 rw [e] at c1
 try dsimp only at c1
 rotate_left
 have hn:a.length = 4:=by omega
 have e:=wZ (b:=⟨ba,bi,bb,bl,bt,bn⟩) (a:=a) (by decide) (by decide) (by decide) (by decide) (by decide) (by decide) (by decide) (by decide) (by decide) rfl
 by_cases c1:(ch ⟨ba,bi,bb,bl,bt,bn⟩ 10 a).2.2 = 0
 rw [eZ (b:=⟨ba,bi,bb,bl,bt,bn⟩) c0 (fun h => h c1),e]
 rw [e] at c1
 try dsimp only at c1
 rotate_left
 rw [eY (b:=⟨ba,bi,bb,bl,bt,bn⟩) c0 c1,e]
 rw [e] at c1
 try dsimp only at c1
 rotate_left
 have hn:a.length = 4:=by omega
 have e:=uz (b:=⟨ba,bi,bb,bl,bt,bn⟩) (a:=a) (by decide) (by decide) (by decide) (by decide) (by decide) (by decide) (by decide) (by decide) (by decide) (by decide) rfl
 by_cases c1:(ch ⟨ba,bi,bb,bl,bt,bn⟩ 11 a).2.2 = 0
 rw [eZ (b:=⟨ba,bi,bb,bl,bt,bn⟩) c0 (fun h => h c1),e]
 rw [e] at c1
 try dsimp only at c1
 rotate_left
 rw [eY (b:=⟨ba,bi,bb,bl,bt,bn⟩) c0 c1,e]
 rw [e] at c1
 try dsimp only at c1
 rotate_left
 repeat' (first
| intro h9;exfalso;contradiction
| apply yds;rfl
| apply yd;rfl
| intro _
| refine nv ?_
| apply wct rfl
| apply wcf rfl
| apply yeq;rfl
| apply yne;rfl
| apply yix;rfl;omega
| apply yle;rfl;omega
| refine zdq (id:=7) rfl (by kernel_rfl) [(.p,1),(.p,2),(.p,4),(.p,5),(.t,0),(.t,3),(.t,6),(.o,7),(.p,8),(.p,9),(.p,10),(.l,11),(.p,12)] [11] (by kernel_rfl) rfl ?_
| refine zdq (id:=9) rfl (by kernel_rfl) [(.p,1),(.p,2),(.p,4),(.p,5),(.t,0),(.t,3),(.t,6),(.o,7),(.p,8),(.p,9),(.p,10),(.l,11),(.p,12)] [11] (by kernel_rfl) rfl ?_
| refine zdq (id:=11) rfl (by kernel_rfl) [(.p,1),(.p,2),(.p,4),(.p,5),(.p,7),(.p,8),(.p,10),(.p,11),(.p,13),(.p,14),(.t,0),(.t,3),(.t,6),(.t,9),(.t,12),(.t,15),(.o,16),(.p,17),(.p,18),(.p,19),(.l,20),(.p,21)] [20] (by kernel_rfl) rfl ?_
| refine zdq (id:=13) rfl (by kernel_rfl) [(.p,1),(.p,2),(.p,4),(.p,5),(.p,7),(.p,8),(.p,10),(.p,11),(.p,13),(.p,14),(.t,0),(.t,3),(.t,6),(.t,9),(.t,12),(.t,15),(.o,16),(.p,17),(.p,18),(.p,19),(.p,20),(.l,21),(.p,22),(.p,23)] [21] (by kernel_rfl) rfl ?_
| refine zdq (id:=15) rfl (by kernel_rfl) [(.p,1),(.p,2),(.p,4),(.p,5),(.p,7),(.p,8),(.p,10),(.p,11),(.p,13),(.p,14),(.p,16),(.p,17),(.p,19),(.p,20),(.t,0),(.t,3),(.t,6),(.t,9),(.t,12),(.t,15),(.t,18),(.t,21),(.o,22),(.p,23),(.p,24),(.p,25),(.l,26),(.p,27)] [26] (by kernel_rfl) rfl ?_
| refine zdq (id:=17) rfl (by kernel_rfl) [(.p,1),(.p,2),(.t,0),(.t,3),(.o,4),(.p,5),(.p,6),(.p,7),(.l,8),(.p,9)] [8] (by kernel_rfl) rfl ?_
| refine zdq (id:=19) rfl (by kernel_rfl) [(.p,1),(.p,2),(.p,4),(.p,5),(.t,0),(.t,3),(.t,6),(.o,7),(.p,8),(.p,9),(.p,10),(.p,11),(.l,12),(.p,13),(.p,14)] [12] (by kernel_rfl) rfl ?_
| refine zdq (id:=21) rfl (by kernel_rfl) [(.p,1),(.p,2),(.p,4),(.p,5),(.p,7),(.p,8),(.t,0),(.t,3),(.t,6),(.t,9),(.o,10),(.p,11),(.p,12),(.p,13),(.p,14),(.p,15),(.l,16),(.p,17),(.p,18)] [16] (by kernel_rfl) rfl ?_
| refine zdq (id:=23) rfl (by kernel_rfl) [(.p,1),(.p,2),(.p,4),(.p,5),(.p,7),(.p,8),(.p,10),(.p,11),(.p,13),(.p,14),(.p,16),(.p,17),(.p,19),(.p,20),(.t,0),(.t,3),(.t,6),(.t,9),(.t,12),(.t,15),(.t,18),(.t,21),(.o,22),(.p,23),(.p,24),(.p,25),(.p,26),(.l,27),(.p,28),(.p,29)] [27] (by kernel_rfl) rfl ?_
| refine zdq (id:=25) rfl (by kernel_rfl) [(.p,1),(.p,2),(.p,4),(.p,5),(.p,7),(.p,8),(.p,10),(.p,11),(.t,0),(.t,3),(.t,6),(.t,9),(.t,12),(.o,13),(.p,14),(.p,15),(.p,16),(.p,17),(.l,18),(.p,19),(.p,20)] [18] (by kernel_rfl) rfl ?_
| refine zdq (id:=27) rfl (by kernel_rfl) [(.p,1),(.p,2),(.p,4),(.p,5),(.p,7),(.p,8),(.p,10),(.p,11),(.t,0),(.t,3),(.t,6),(.t,9),(.t,12),(.o,13),(.p,14),(.p,15),(.p,16),(.p,17),(.l,18),(.p,19),(.p,20)] [18] (by kernel_rfl) rfl ?_
| apply ycp;rfl;(first | exact aq | exact oB);rfl
| apply ycf;rfl;(first | exact lY | exact ox | exact oy | exact pk | exact oA | exact mI | exact ff | exact rI | exact tf | exact oz | exact rJ);rfl
| fail)
 all_goals (exact ai [0,1,2,3,4,5,11,12,13,14,15] rfl rfl rfl rfl rfl rfl)
end
section
open Go.RowKit
theorem uA {b:Books} {k:Int} {a:List Int}:aV (ch b k a).1:=by
 unfold ch
 exact az (P:=fun R:Books × Int × Int => aV R.1) (fun _ => nf) fun _ => az (P:=fun R:Books × Int × Int => aV R.1) (fun _ => qp) fun _ => az (P:=fun R:Books × Int × Int => aV R.1) (fun _ => qq) fun _ => az (P:=fun R:Books × Int × Int => aV R.1) (fun _ => s7) fun _ => az (P:=fun R:Books × Int × Int => aV R.1) (fun _ => qu) fun _ => az (P:=fun R:Books × Int × Int => aV R.1) (fun _ => oN) fun _ => az (P:=fun R:Books × Int × Int => aV R.1) (fun _ => ka) fun _ => az (P:=fun R:Books × Int × Int => aV R.1) (fun _ => tG) fun _ => az (P:=fun R:Books × Int × Int => aV R.1) (fun _ => vE) fun _ => az (P:=fun R:Books × Int × Int => aV R.1) (fun _ => qr) fun _ => az (P:=fun R:Books × Int × Int => aV R.1) (fun _ => tH) fun _ => lQ
theorem zb {b:Books} {k:Int} {a:List Int}:aV (eQ b k a).1:=by
 unfold eQ
 exact az (P:=fun R:Books × Int × Int => aV R.1) (fun _ => lQ) fun _ => az (P:=fun R:Books × Int × Int => aV R.1) (fun _ => uA) fun _ => uA
end
end Go.Proofs.YtgehbhkfehmdkaaGreat.Sh
