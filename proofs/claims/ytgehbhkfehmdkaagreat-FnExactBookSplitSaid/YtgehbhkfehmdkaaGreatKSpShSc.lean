/- All lots of a paper told anew. No condition. -/
import Derived.Test.YtgehbhkfehmdkaaGreatKSpShTr
import Derived.Test.YtgehbhkfehmdkaaGreatKSpShLs
import Derived.Test.YtgehbhkfehmdkaaGreatKSpShPq
namespace Go.Proofs.YtgehbhkfehmdkaaGreat.Sh
open Go.RowKit
set_option linter.unusedVariables false
set_option linter.unusedSimpArgs false
noncomputable def scN (l : List Lot) (pa : Int) (who is : List Int) : Nat → List Lot × Int
  | 0 => (l, 0)
  | k + 1 => sel ((scN l pa who is k).2 = 0) (sel ((lotScale (scN l pa who is k).1 (rd who k) pa (rd is k)).2 = 0) ((lotScale (scN l pa who is k).1 (rd who k) pa (rd is k)).1, 0) ((scN l pa who is k).1, 7)) (scN l pa who is k)
theorem scN_y {l L : List Lot} {pa i : Int} {who is : List Int} (h : 0 ≤ i) (e : scN l pa who is i.toNat = (L, 0)) (c : (lotScale L (rd who i) pa (rd is i)).2 = 0) : scN l pa who is (i + 1).toNat = ((lotScale L (rd who i) pa (rd is i)).1, 0) := by
  rw [show (i + 1).toNat = i.toNat + 1 from by omega, scN, e, show ((i.toNat : Nat) : Int) = i from by omega, sel_t (show (L, (0 : Int)).2 = 0 from rfl), sel_t c]
theorem scN_bad {l : List Lot} {pa : Int} {who is : List Int} {k : Nat} (h : ¬ (scN l pa who is k).2 = 0) : ∀ m : Nat, ¬ (scN l pa who is (k + m)).2 = 0
  | 0 => h
  | m + 1 => by
    show ¬ (scN l pa who is (k + m + 1)).2 = 0
    rw [scN, sel_f (scN_bad h m)]
    exact scN_bad h m
theorem scN_n {l L : List Lot} {pa i n : Int} {who is : List Int} (h : 0 ≤ i ∧ i < n) (e : scN l pa who is i.toNat = (L, 0)) (c : ¬ (lotScale L (rd who i) pa (rd is i)).2 = 0) : ¬ (scN l pa who is n.toNat).2 = 0 := by
  have h1 : ¬ (scN l pa who is (i.toNat + 1)).2 = 0 := by
    rw [scN, e, show ((i.toNat : Nat) : Int) = i from by omega, sel_t (show (L, (0 : Int)).2 = 0 from rfl), sel_f c]
    show ¬ (7 : Int) = 0
    decide
  have h2 := scN_bad h1 (n.toNat - (i.toNat + 1))
  rwa [show i.toNat + 1 + (n.toNat - (i.toNat + 1)) = n.toNat from by omega] at h2
set_option maxHeartbeats 4000000 in
theorem impl_Books_scaled {ba : List Account} {bi : List Instr} {bb : List Bal} {bl : List Lot} {bt : List Trade} {bn : Int} {pa : Int} {who is : List Int} (hl : is.length = who.length ∧ 0 < who.length ∧ who.length ≤ 100) : FC Tryz.prog 132 [.c (.ptr 0 0 0), I pa, .c (.row 1 0 who.length), .c (.row 2 0 is.length)] ([bkX 3 ⟨ba, bi, bb, bl, bt, bn⟩, ro 3 who, ro 3 is, ow 42 ba, ow 74 bi, ow 135 bb, ro 137 bl, ow 103 bt]) (sel ((scN bl pa who is (who.length : Int).toNat).2 = 0) (I 0) (I 7)) (sel ((scN bl pa who is (who.length : Int).toNat).2 = 0) ([some ⟨true, 30, 6, .mx [.row 3 0 ba.length, .row 4 0 bi.length, .row 5 0 bb.length, .row 8 0 (scN bl pa who is (who.length : Int).toNat).1.length, .row 7 0 bt.length, .sc (.int .i64 bn)]⟩, ro 3 who, ro 3 is, ow 42 ba, ow 74 bi, ow 135 bb, ro 137 bl, ow 103 bt, ow 137 (scN bl pa who is (who.length : Int).toNat).1]) ([none, ro 3 who, ro 3 is, ow 42 ba, ow 74 bi, ow 135 bb, ro 137 bl, ow 103 bt])) := by
  refine fent tk 41 [.tmp 8] Tryz.func132 (by kernel_rfl) rfl rfl rfl rfl rfl rfl rfl ?_
  repeat' (first
 | (with_reducible apply zds); exact tk; rfl; rfl; rfl; rfl; rfl
 | (with_reducible apply zd); rfl; exact tk; rfl
 | (with_reducible first | intro _ | apply wseq | apply zreg | apply thenQ_n | apply thenQ_r | apply thenQ_e | apply znil | apply wret | apply bodyQ_r | apply wblk | apply blkQ_n | apply blkQ_r | apply wskip | apply wexit)
 | fail)
  refine wloop (X := Option (Int × List Lot)) (fun x => match x with | none => True | some y => (1 ≤ y.1 ∧ y.1 ≤ who.length) ∧ scN bl pa who is y.1.toNat = (y.2, 0)) (fun x => match x with | none => ⟨41, 8, [(15, I 0), (14, .c (.sc (.int .i64 who.length))), (13, .c (.row 1 0 who.length)), (0, .c (.ptr 0 0 0)), (1, I pa), (3, .c (.row 2 0 is.length))], [some ⟨true, 30, 6, .mx [.row 3 0 ba.length, .row 4 0 bi.length, .row 5 0 bb.length, .row 6 0 bl.length, .row 7 0 bt.length, .sc (.int .i64 bn)]⟩, ro 3 who, ro 3 is, ow 42 ba, ow 74 bi, ow 135 bb, ro 137 bl, ow 103 bt]⟩ | some y => ⟨41, 8, [(15, I y.1), (14, .c (.sc (.int .i64 who.length))), (13, .c (.row 1 0 who.length)), (0, .c (.ptr 0 0 0)), (1, I pa), (3, .c (.row 2 0 is.length))], [some ⟨true, 30, 6, .mx [.row 3 0 ba.length, .row 4 0 bi.length, .row 5 0 bb.length, .row 8 0 y.2.length, .row 7 0 bt.length, .sc (.int .i64 bn)]⟩, ro 3 who, ro 3 is, ow 42 ba, ow 74 bi, ow 135 bb, ro 137 bl, ow 103 bt, ow 137 y.2]⟩) (fun x => match x with | none => who.length + 1 | some y => (who.length - y.1).toNat) none [0, 1, 2, 3, 4, 5, 6, 7] trivial ⟨rfl, rfl, rfl, rfl, rfl, rfl, rfl, rfl⟩ (fun x hx => ?_)
  cases x with
  | none =>
    dsimp only
    have hS : scN bl pa who is (0 : Int).toNat = (bl, 0) := rfl
    by_cases hc : (lotScale bl (rd who 0) pa (rd is 0)).2 = 0
    ·
      have hS2 := scN_y (Int.le_refl 0) hS hc
      repeat' (first
 | (intro h9; exfalso; first | contradiction | omega)
 | (with_reducible apply zds); exact tk; rfl; rfl; rfl; rfl; rfl
 | (with_reducible apply zd); rfl; exact tk; rfl
 | (with_reducible first | intro _ | apply wseq | apply zreg | apply thenQ_n | apply thenQ_r | apply thenQ_e | apply znil | apply wret | apply bodyQ_r | apply wblk | apply blkQ_n | apply blkQ_r | apply wskip | apply wexit)
 | apply wct rfl
 | apply wcf rfl
 | (with_reducible apply zcmp); rfl; exact tk; rfl; rfl; rfl
 | (with_reducible apply zne); rfl; exact tk; rfl; rfl; rfl; rfl
 | (with_reducible apply zar); rfl; rfl; rfl; rfl; (first | omega | ((try simp only [List.length_append, List.length_cons, List.length_nil, List.length_map]); (try dsimp only); omega)); rfl; rfl
 | (with_reducible apply zix); rfl; exact tk; (iterate 7 rfl); (first | omega | ((try simp only [List.length_append, List.length_cons, List.length_nil, List.length_map]); (try dsimp only); omega)); rfl; rfl
 | (with_reducible apply zle); rfl; exact tk; rfl; rfl; rfl; rfl; (first | omega | ((try simp only [List.length_append, List.length_cons, List.length_nil, List.length_map]); (try dsimp only); omega)); rfl; rfl; rfl; rfl
 | refine zdq (id := 4) rfl (by kernel_rfl) [(.p, 0), (.p, 1), (.p, 2), (.p, 4), (.p, 5), (.p, 6), (.p, 7), (.p, 8), (.t, 3), (.t, 9), (.o, 10), (.p, 11), (.p, 12), (.p, 13), (.p, 14), (.p, 15)] [] (by kernel_rfl) rfl ?_
 | (with_reducible apply zcf); (iterate 10 rfl); exact impl_LotsScale; rfl; rfl; rfl; rfl; rfl
 | fail)
      all_goals first
        | exact endR (some (0 + 1, (lotScale bl (rd who 0) pa (rd is 0)).1)) [0, 1, 2, 3, 4, 5, 6, 7, 8] ⟨rfl, rfl, rfl, rfl, rfl, rfl, rfl, rfl⟩ ⟨by dsimp only; omega, hS2⟩ (by first | omega | (dsimp only; omega))
        | (exfalso; omega)
        | trace_state
    ·
      have hS2 := scN_n (n := who.length) ⟨Int.le_refl 0, by omega⟩ hS hc
      repeat' (first
 | (intro h9; exfalso; first | contradiction | omega)
 | (with_reducible apply zds); exact tk; rfl; rfl; rfl; rfl; rfl
 | (with_reducible apply zd); rfl; exact tk; rfl
 | (with_reducible first | intro _ | apply wseq | apply zreg | apply thenQ_n | apply thenQ_r | apply thenQ_e | apply znil | apply wret | apply bodyQ_r | apply wblk | apply blkQ_n | apply blkQ_r | apply wskip | apply wexit)
 | apply wct rfl
 | (with_reducible apply zcmp); rfl; exact tk; rfl; rfl; rfl
 | (with_reducible apply zne); rfl; exact tk; rfl; rfl; rfl; rfl
 | (with_reducible apply zix); rfl; exact tk; (iterate 7 rfl); (first | omega | ((try simp only [List.length_append, List.length_cons, List.length_nil, List.length_map]); (try dsimp only); omega)); rfl; rfl
 | (with_reducible apply zle); rfl; exact tk; rfl; rfl; rfl; rfl; (first | omega | ((try simp only [List.length_append, List.length_cons, List.length_nil, List.length_map]); (try dsimp only); omega)); rfl; rfl; rfl; rfl
 | refine zdq (id := 4) rfl (by kernel_rfl) [(.p, 0), (.p, 1), (.p, 2), (.p, 4), (.p, 5), (.p, 6), (.p, 7), (.p, 8), (.t, 3), (.t, 9), (.o, 10), (.p, 11), (.p, 12), (.p, 13), (.p, 14), (.p, 15)] [] (by kernel_rfl) rfl ?_
 | (with_reducible apply zcf); (iterate 10 rfl); exact impl_LotsScale; rfl; rfl; rfl; rfl; rfl
 | fail)
      all_goals first
        | exact endF hS2 [0, 1, 2, 3, 4, 5, 6, 7] rfl rfl rfl rfl rfl rfl
        | (exfalso; omega)
        | trace_state
  | some y =>
    obtain ⟨i, L⟩ := y
    obtain ⟨h0, hS⟩ := hx
    dsimp only at h0 hS ⊢
    by_cases hil : i < who.length
    ·
      by_cases hc : (lotScale L (rd who i) pa (rd is i)).2 = 0
      ·
        have hS2 := scN_y (by omega) hS hc
        repeat' (first
 | (intro h9; exfalso; first | contradiction | omega)
 | (with_reducible apply zds); exact tk; rfl; rfl; rfl; rfl; rfl
 | (with_reducible apply zd); rfl; exact tk; rfl
 | (with_reducible first | intro _ | apply wseq | apply zreg | apply thenQ_n | apply thenQ_r | apply thenQ_e | apply znil | apply wret | apply bodyQ_r | apply wblk | apply blkQ_n | apply blkQ_r | apply wskip | apply wexit)
 | apply wct rfl
 | apply wcf rfl
 | (with_reducible apply zcmp); rfl; exact tk; rfl; rfl; rfl
 | (with_reducible apply zne); rfl; exact tk; rfl; rfl; rfl; rfl
 | (with_reducible apply zar); rfl; rfl; rfl; rfl; (first | omega | ((try simp only [List.length_append, List.length_cons, List.length_nil, List.length_map]); (try dsimp only); omega)); rfl; rfl
 | (with_reducible apply zix); rfl; exact tk; (iterate 7 rfl); (first | omega | ((try simp only [List.length_append, List.length_cons, List.length_nil, List.length_map]); (try dsimp only); omega)); rfl; rfl
 | (with_reducible apply zle); rfl; exact tk; rfl; rfl; rfl; rfl; (first | omega | ((try simp only [List.length_append, List.length_cons, List.length_nil, List.length_map]); (try dsimp only); omega)); rfl; rfl; rfl; rfl
 | refine zdq (id := 4) rfl (by kernel_rfl) [(.p, 0), (.p, 1), (.p, 2), (.p, 4), (.p, 5), (.p, 6), (.p, 7), (.p, 8), (.t, 3), (.t, 9), (.o, 10), (.p, 11), (.p, 12), (.p, 13), (.p, 14), (.p, 15)] [] (by kernel_rfl) rfl ?_
 | (with_reducible apply zcf); (iterate 10 rfl); exact impl_LotsScale; rfl; rfl; rfl; rfl; rfl
 | fail)
        all_goals first
          | exact endR (some (i + 1, (lotScale L (rd who i) pa (rd is i)).1)) [0, 1, 2, 3, 4, 5, 6, 7, 9] ⟨rfl, rfl, rfl, rfl, rfl, rfl, rfl, rfl⟩ ⟨by dsimp only; omega, hS2⟩ (by first | omega | (dsimp only; omega))
          | (exfalso; omega)
          | trace_state
      ·
        have hS2 := scN_n (n := who.length) ⟨by omega, hil⟩ hS hc
        repeat' (first
 | (intro h9; exfalso; first | contradiction | omega)
 | (with_reducible apply zds); exact tk; rfl; rfl; rfl; rfl; rfl
 | (with_reducible apply zd); rfl; exact tk; rfl
 | (with_reducible first | intro _ | apply wseq | apply zreg | apply thenQ_n | apply thenQ_r | apply thenQ_e | apply znil | apply wret | apply bodyQ_r | apply wblk | apply blkQ_n | apply blkQ_r | apply wskip | apply wexit)
 | apply wct rfl
 | (with_reducible apply zcmp); rfl; exact tk; rfl; rfl; rfl
 | (with_reducible apply zne); rfl; exact tk; rfl; rfl; rfl; rfl
 | (with_reducible apply zix); rfl; exact tk; (iterate 7 rfl); (first | omega | ((try simp only [List.length_append, List.length_cons, List.length_nil, List.length_map]); (try dsimp only); omega)); rfl; rfl
 | (with_reducible apply zle); rfl; exact tk; rfl; rfl; rfl; rfl; (first | omega | ((try simp only [List.length_append, List.length_cons, List.length_nil, List.length_map]); (try dsimp only); omega)); rfl; rfl; rfl; rfl
 | refine zdq (id := 4) rfl (by kernel_rfl) [(.p, 0), (.p, 1), (.p, 2), (.p, 4), (.p, 5), (.p, 6), (.p, 7), (.p, 8), (.t, 3), (.t, 9), (.o, 10), (.p, 11), (.p, 12), (.p, 13), (.p, 14), (.p, 15)] [] (by kernel_rfl) rfl ?_
 | (with_reducible apply zcf); (iterate 10 rfl); exact impl_LotsScale; rfl; rfl; rfl; rfl; rfl
 | fail)
        all_goals first
          | exact endF hS2 [0, 1, 2, 3, 4, 5, 6, 7] rfl rfl rfl rfl rfl rfl
          | (exfalso; omega)
          | trace_state
    ·
      have ei : i = (who.length : Int) := by omega
      subst ei
      have hz : (scN bl pa who is (who.length : Int).toNat).2 = 0 := by rw [hS]
      repeat' (first
 | (intro h9; exfalso; first | contradiction | omega)
 | (with_reducible apply zd); rfl; exact tk; rfl
 | (with_reducible first | intro _ | apply wseq | apply zreg | apply thenQ_n | apply thenQ_r | apply thenQ_e | apply znil | apply wret | apply bodyQ_r | apply wblk | apply blkQ_n | apply blkQ_r | apply wskip | apply wexit)
 | apply wcf rfl
 | (with_reducible apply blkQ_x rfl)
 | (with_reducible apply zcmp); rfl; exact tk; rfl; rfl; rfl
 | fail)
      all_goals first
        | (rw [show L = (scN bl pa who is (who.length : Int).toNat).1 from by rw [hS]]
           exact endT hz [0, 1, 2, 3, 4, 5, 6, 7, 8] rfl rfl rfl rfl rfl rfl)
        | (exfalso; omega)
        | trace_state
end Go.Proofs.YtgehbhkfehmdkaaGreat.Sh
