-- Written by a program of this session (wip/mkprint.py over the kit's print), out of the translation. Not trusted: Lean checks it.
import Derived.Test.YtnfbkakblnppaaaUx0
import Derived.Test.YtnfbkakblnppaaaUx1
import Derived.Test.YtnfbkakblnppaaaUx2
import Derived.Test.YtnfbkakblnppaaaUx4
import Derived.Test.YtnfbkakblnppaaaUx5
import Derived.Test.YtnfbkakblnppaaaUx6
import Derived.Test.YtnfbkakblnppaaaUx7
import Derived.Test.YtnfbkakblnppaaaUx10
import Derived.Test.YtnfbkakblnppaaaUx11
import Derived.Test.YtnfbkakblnppaaaUx12
namespace Go.Proofs.Ytnfbkakblnppaaa.P
open Go.RowKit Go.Proofs.YtnfbkakblnppaaaW.PrintWords Go.Proofs.YtnfbkakblnppaaaW.PrintLast Go.Proofs.YtnfbkakblnppaaaW.PrintMore
attribute [local go_sem] max2_int min2_int max_two min_two max_three min_three max_four min_four   -- for this text's walks alone
set_option linter.unusedVariables false
set_option linter.unusedSimpArgs false

/-! ### laws_FnWordsOfTriples: function 5 -/
mutual
def laws_FnWordsOfTriples.j0 : Nat → List Int → List Int → List Int → Bool → List Int → Bool → Bool → Option (Bool)
 | 0, _, _, _, _, _, _, _ => none
 | k + 1, x1, x5, x6, x7, x10, x11, x89 => if x89 = true then (some false) else (if x7 = true then ((impl_BergWord.f k x6).bind fun bt383 => (if bt383.2 = true then ((laws_vSame.f k bt383.1 x5).bind fun t387 => (if t387 = true then (laws_FnWordsOfTriples.j1 k x1 x5 x10 x11) else (some false))) else (some false))) else (laws_FnWordsOfTriples.j1 k x1 x5 x10 x11))
def laws_FnWordsOfTriples.j1 : Nat → List Int → List Int → List Int → Bool → Option (Bool)
 | 0, _, _, _, _ => none
 | k + 1, x1, x5, x10, x11 => if x11 = true then ((impl_PriceWord.f k x10).bind fun bt388 => (if bt388.2 = true then ((laws_vSame.f k bt388.1 x5).bind fun t392 => (if t392 = true then (laws_FnWordsOfTriples.j2 k x1) else (some false))) else (some false))) else (laws_FnWordsOfTriples.j2 k x1)
def laws_FnWordsOfTriples.j2 : Nat → List Int → Option (Bool)
 | 0, _ => none
 | k + 1, x1 => (spec_DrawPriceWord.f k x1).bind fun t393 => ((impl_PriceWord.f k t393).bind fun bt396 => ((spec_PriceWord.f k t393).bind fun bt400 => ((impl_BergWord.f k t393).bind fun bt404 => ((spec_BergWord.f k t393).bind fun bt408 => (if (bt396.2 != bt400.2) = true then (laws_FnWordsOfTriples.j3 k x1 t393 bt396.1 bt396.2 bt404.1 true) else ((laws_vSame.f k bt396.1 bt400.1).bind fun t412 => (if t412 = true then (if (bt404.2 != bt408.2) = true then (laws_FnWordsOfTriples.j3 k x1 t393 bt396.1 bt396.2 bt404.1 true) else ((laws_vSame.f k bt404.1 bt408.1).bind fun t413 => (if t413 = true then ((impl_IsRight.f k t393).bind fun t414 => (if (bt396.2 != t414) = true then (laws_FnWordsOfTriples.j3 k x1 t393 bt396.1 bt396.2 bt404.1 true) else (laws_FnWordsOfTriples.j3 k x1 t393 bt396.1 bt396.2 bt404.1 (bt404.2 != bt396.2)))) else (laws_FnWordsOfTriples.j3 k x1 t393 bt396.1 bt396.2 bt404.1 true)))) else (laws_FnWordsOfTriples.j3 k x1 t393 bt396.1 bt396.2 bt404.1 true))))))))
def laws_FnWordsOfTriples.j3 : Nat → List Int → List Int → List Int → Bool → List Int → Bool → Option (Bool)
 | 0, _, _, _, _, _, _ => none
 | k + 1, x1, x18, x19, x20, x23, x170 => if x170 = true then (some false) else (if x20 = true then ((impl_RightByPrice.f k x19).bind fun bt415 => ((impl_RightByBerg.f k x23).bind fun bt419 => (if (x19.length : Int) ≤ 40 then (if bt415.2 = true then ((laws_vSame.f k bt415.1 x18).bind fun t423 => (if t423 = true then (if (x23.length : Int) ≤ 40 then (if bt419.2 = true then ((laws_vSame.f k bt419.1 x18).bind fun t424 => (if t424 = true then (laws_FnWordsOfTriples.j4 k x1) else (some false))) else (some false)) else (laws_FnWordsOfTriples.j4 k x1)) else (some false))) else (some false)) else (if (x23.length : Int) ≤ 40 then (if bt419.2 = true then ((laws_vSame.f k bt419.1 x18).bind fun t425 => (if t425 = true then (laws_FnWordsOfTriples.j4 k x1) else (some false))) else (some false)) else (laws_FnWordsOfTriples.j4 k x1))))) else (laws_FnWordsOfTriples.j4 k x1))
def laws_FnWordsOfTriples.j4 : Nat → List Int → Option (Bool)
 | 0, _ => none
 | k + 1, x1 => (spec_DrawRankOfWord.f k x1).bind fun t426 => ((impl_RankOfWord.f k t426).bind fun bt429 => ((spec_RankOfWord.f k t426).bind fun bt431 => ((spec_DrawWordOfRank.f x1).bind fun t433 => ((impl_WordOfRank.f k t433).bind fun bt434 => ((spec_WordOfRank.f k t433).bind fun bt438 => (if (bt429.2 != bt431.2) = true then (laws_FnWordsOfTriples.j5 k t426 bt429.1 bt429.2 t433 bt434.1 bt434.2 true) else (if bt429.1 = bt431.1 then (if (bt434.2 != bt438.2) = true then (laws_FnWordsOfTriples.j5 k t426 bt429.1 bt429.2 t433 bt434.1 bt434.2 true) else ((laws_vSame.f k bt434.1 bt438.1).bind fun t442 => (laws_FnWordsOfTriples.j5 k t426 bt429.1 bt429.2 t433 bt434.1 bt434.2 (!t442)))) else (laws_FnWordsOfTriples.j5 k t426 bt429.1 bt429.2 t433 bt434.1 bt434.2 true))))))))
def laws_FnWordsOfTriples.j5 : Nat → List Int → Int → Bool → Int → List Int → Bool → Bool → Option (Bool)
 | 0, _, _, _, _, _, _, _ => none
 | k + 1, x31, x32, x33, x36, x37, x38, x252 => if x252 = true then (some false) else (if x33 = true then ((impl_WordOfRank.f k x32).bind fun bt443 => (if bt443.2 = true then ((laws_vSame.f k bt443.1 x31).bind fun t447 => (laws_FnWordsOfTriples.j6 k x36 x37 x38 (!t447))) else (laws_FnWordsOfTriples.j6 k x36 x37 x38 true))) else (if x38 = true then ((impl_RankOfWord.f k x37).bind fun bt450 => (if bt450.2 = true then (some (bt450.1 == x36)) else (some false))) else (some true)))
def laws_FnWordsOfTriples.j6 : Nat → Int → List Int → Bool → Bool → Option (Bool)
 | 0, _, _, _, _ => none
 | k + 1, x36, x37, x38, x266 => if x266 = true then (some false) else (if x38 = true then ((impl_RankOfWord.f k x37).bind fun bt448 => (if bt448.2 = true then (some (bt448.1 == x36)) else (some false))) else (some true))
end
def laws_FnWordsOfTriples.f (k : Nat) (l0 : List Int) (l1 : List Int) : Option (Bool) := (laws_big.f l0 l1).bind fun t361 => (if t361 = true then (some true) else ((spec_DrawRightByBerg.f k l0).bind fun t362 => ((impl_RightByBerg.f k t362).bind fun bt365 => ((spec_RightByBerg.f k t362).bind fun bt369 => ((impl_RightByPrice.f k t362).bind fun bt373 => ((spec_RightByPrice.f k t362).bind fun bt377 => (if (bt365.2 != bt369.2) = true then (laws_FnWordsOfTriples.j0 k l1 t362 bt365.1 bt365.2 bt373.1 bt373.2 true) else ((laws_vSame.f k bt365.1 bt369.1).bind fun t381 => (if t381 = true then (if (bt373.2 != bt377.2) = true then (laws_FnWordsOfTriples.j0 k l1 t362 bt365.1 bt365.2 bt373.1 bt373.2 true) else ((laws_vSame.f k bt373.1 bt377.1).bind fun t382 => (laws_FnWordsOfTriples.j0 k l1 t362 bt365.1 bt365.2 bt373.1 bt373.2 (!t382)))) else (laws_FnWordsOfTriples.j0 k l1 t362 bt365.1 bt365.2 bt373.1 bt373.2 true))))))))))
theorem laws_FnWordsOfTriples.mono_l : ∀ k, (∀ y0 y1 y2 y3 y4 y5 y6, LeO (laws_FnWordsOfTriples.j0 k y0 y1 y2 y3 y4 y5 y6) (laws_FnWordsOfTriples.j0 (k + 1) y0 y1 y2 y3 y4 y5 y6)) ∧ (∀ y0 y1 y2 y3, LeO (laws_FnWordsOfTriples.j1 k y0 y1 y2 y3) (laws_FnWordsOfTriples.j1 (k + 1) y0 y1 y2 y3)) ∧ (∀ y0, LeO (laws_FnWordsOfTriples.j2 k y0) (laws_FnWordsOfTriples.j2 (k + 1) y0)) ∧ (∀ y0 y1 y2 y3 y4 y5, LeO (laws_FnWordsOfTriples.j3 k y0 y1 y2 y3 y4 y5) (laws_FnWordsOfTriples.j3 (k + 1) y0 y1 y2 y3 y4 y5)) ∧ (∀ y0, LeO (laws_FnWordsOfTriples.j4 k y0) (laws_FnWordsOfTriples.j4 (k + 1) y0)) ∧ (∀ y0 y1 y2 y3 y4 y5 y6, LeO (laws_FnWordsOfTriples.j5 k y0 y1 y2 y3 y4 y5 y6) (laws_FnWordsOfTriples.j5 (k + 1) y0 y1 y2 y3 y4 y5 y6)) ∧ (∀ y0 y1 y2 y3, LeO (laws_FnWordsOfTriples.j6 k y0 y1 y2 y3) (laws_FnWordsOfTriples.j6 (k + 1) y0 y1 y2 y3))
 | 0 => ⟨fun _ _ _ _ _ _ _ r h => by simp [laws_FnWordsOfTriples.j0] at h, fun _ _ _ _ r h => by simp [laws_FnWordsOfTriples.j1] at h, fun _ r h => by simp [laws_FnWordsOfTriples.j2] at h, fun _ _ _ _ _ _ r h => by simp [laws_FnWordsOfTriples.j3] at h, fun _ r h => by simp [laws_FnWordsOfTriples.j4] at h, fun _ _ _ _ _ _ _ r h => by simp [laws_FnWordsOfTriples.j5] at h, fun _ _ _ _ r h => by simp [laws_FnWordsOfTriples.j6] at h⟩
 | k + 1 => by
  obtain ⟨ih0, ih1, ih2, ih3, ih4, ih5, ih6⟩ := laws_FnWordsOfTriples.mono_l k
  refine ⟨?_, ?_, ?_, ?_, ?_, ?_, ?_⟩
  ·
   intro y0 y1 y2 y3 y4 y5 y6
   unfold laws_FnWordsOfTriples.j0
   repeat' first
   | (with_reducible exact ih0 _ _ _ _ _ _ _)
   | (with_reducible exact ih1 _ _ _ _)
   | (with_reducible exact ih2 _)
   | (with_reducible exact ih3 _ _ _ _ _ _)
   | (with_reducible exact ih4 _)
   | (with_reducible exact ih5 _ _ _ _ _ _ _)
   | (with_reducible exact ih6 _ _ _ _)
   | (with_reducible exact impl_BergWord.mono _ _)
   | (with_reducible exact impl_IsRight.mono _ _)
   | (with_reducible exact impl_PriceWord.mono _ _)
   | (with_reducible exact impl_RankOfWord.mono _ _)
   | (with_reducible exact impl_RightByBerg.mono _ _)
   | (with_reducible exact impl_RightByPrice.mono _ _)
   | (with_reducible exact impl_WordOfRank.mono _ _)
   | (with_reducible exact laws_vSame.mono _ _ _)
   | (with_reducible exact spec_BergWord.mono _ _)
   | (with_reducible exact spec_DrawPriceWord.mono _ _)
   | (with_reducible exact spec_DrawRankOfWord.mono _ _)
   | (with_reducible exact spec_DrawRightByBerg.mono _ _)
   | (with_reducible exact spec_PriceWord.mono _ _)
   | (with_reducible exact spec_RankOfWord.mono _ _)
   | (with_reducible exact spec_RightByBerg.mono _ _)
   | (with_reducible exact spec_RightByPrice.mono _ _)
   | (with_reducible exact spec_WordOfRank.mono _ _)
   | (with_reducible exact LeO.refl _)
   | (with_reducible exact LeO.none _)
   | (with_reducible refine LeO.ite ?_ ?_)
   | (with_reducible refine LeO.bind ?_ (fun _ => ?_))
   | exact ih0 _ _ _ _ _ _ _
   | exact ih1 _ _ _ _
   | exact ih2 _
   | exact ih3 _ _ _ _ _ _
   | exact ih4 _
   | exact ih5 _ _ _ _ _ _ _
   | exact ih6 _ _ _ _
   | exact impl_BergWord.mono _ _
   | exact impl_IsRight.mono _ _
   | exact impl_PriceWord.mono _ _
   | exact impl_RankOfWord.mono _ _
   | exact impl_RightByBerg.mono _ _
   | exact impl_RightByPrice.mono _ _
   | exact impl_WordOfRank.mono _ _
   | exact laws_vSame.mono _ _ _
   | exact spec_BergWord.mono _ _
   | exact spec_DrawPriceWord.mono _ _
   | exact spec_DrawRankOfWord.mono _ _
   | exact spec_DrawRightByBerg.mono _ _
   | exact spec_PriceWord.mono _ _
   | exact spec_RankOfWord.mono _ _
   | exact spec_RightByBerg.mono _ _
   | exact spec_RightByPrice.mono _ _
   | exact spec_WordOfRank.mono _ _
   | exact LeO.none _
   | refine LeO.ite ?_ ?_
   | refine LeO.bind ?_ (fun _ => ?_)
  ·
   intro y0 y1 y2 y3
   unfold laws_FnWordsOfTriples.j1
   repeat' first
   | (with_reducible exact ih0 _ _ _ _ _ _ _)
   | (with_reducible exact ih1 _ _ _ _)
   | (with_reducible exact ih2 _)
   | (with_reducible exact ih3 _ _ _ _ _ _)
   | (with_reducible exact ih4 _)
   | (with_reducible exact ih5 _ _ _ _ _ _ _)
   | (with_reducible exact ih6 _ _ _ _)
   | (with_reducible exact impl_BergWord.mono _ _)
   | (with_reducible exact impl_IsRight.mono _ _)
   | (with_reducible exact impl_PriceWord.mono _ _)
   | (with_reducible exact impl_RankOfWord.mono _ _)
   | (with_reducible exact impl_RightByBerg.mono _ _)
   | (with_reducible exact impl_RightByPrice.mono _ _)
   | (with_reducible exact impl_WordOfRank.mono _ _)
   | (with_reducible exact laws_vSame.mono _ _ _)
   | (with_reducible exact spec_BergWord.mono _ _)
   | (with_reducible exact spec_DrawPriceWord.mono _ _)
   | (with_reducible exact spec_DrawRankOfWord.mono _ _)
   | (with_reducible exact spec_DrawRightByBerg.mono _ _)
   | (with_reducible exact spec_PriceWord.mono _ _)
   | (with_reducible exact spec_RankOfWord.mono _ _)
   | (with_reducible exact spec_RightByBerg.mono _ _)
   | (with_reducible exact spec_RightByPrice.mono _ _)
   | (with_reducible exact spec_WordOfRank.mono _ _)
   | (with_reducible exact LeO.refl _)
   | (with_reducible exact LeO.none _)
   | (with_reducible refine LeO.ite ?_ ?_)
   | (with_reducible refine LeO.bind ?_ (fun _ => ?_))
   | exact ih0 _ _ _ _ _ _ _
   | exact ih1 _ _ _ _
   | exact ih2 _
   | exact ih3 _ _ _ _ _ _
   | exact ih4 _
   | exact ih5 _ _ _ _ _ _ _
   | exact ih6 _ _ _ _
   | exact impl_BergWord.mono _ _
   | exact impl_IsRight.mono _ _
   | exact impl_PriceWord.mono _ _
   | exact impl_RankOfWord.mono _ _
   | exact impl_RightByBerg.mono _ _
   | exact impl_RightByPrice.mono _ _
   | exact impl_WordOfRank.mono _ _
   | exact laws_vSame.mono _ _ _
   | exact spec_BergWord.mono _ _
   | exact spec_DrawPriceWord.mono _ _
   | exact spec_DrawRankOfWord.mono _ _
   | exact spec_DrawRightByBerg.mono _ _
   | exact spec_PriceWord.mono _ _
   | exact spec_RankOfWord.mono _ _
   | exact spec_RightByBerg.mono _ _
   | exact spec_RightByPrice.mono _ _
   | exact spec_WordOfRank.mono _ _
   | exact LeO.none _
   | refine LeO.ite ?_ ?_
   | refine LeO.bind ?_ (fun _ => ?_)
  ·
   intro y0
   unfold laws_FnWordsOfTriples.j2
   repeat' first
   | (with_reducible exact ih0 _ _ _ _ _ _ _)
   | (with_reducible exact ih1 _ _ _ _)
   | (with_reducible exact ih2 _)
   | (with_reducible exact ih3 _ _ _ _ _ _)
   | (with_reducible exact ih4 _)
   | (with_reducible exact ih5 _ _ _ _ _ _ _)
   | (with_reducible exact ih6 _ _ _ _)
   | (with_reducible exact impl_BergWord.mono _ _)
   | (with_reducible exact impl_IsRight.mono _ _)
   | (with_reducible exact impl_PriceWord.mono _ _)
   | (with_reducible exact impl_RankOfWord.mono _ _)
   | (with_reducible exact impl_RightByBerg.mono _ _)
   | (with_reducible exact impl_RightByPrice.mono _ _)
   | (with_reducible exact impl_WordOfRank.mono _ _)
   | (with_reducible exact laws_vSame.mono _ _ _)
   | (with_reducible exact spec_BergWord.mono _ _)
   | (with_reducible exact spec_DrawPriceWord.mono _ _)
   | (with_reducible exact spec_DrawRankOfWord.mono _ _)
   | (with_reducible exact spec_DrawRightByBerg.mono _ _)
   | (with_reducible exact spec_PriceWord.mono _ _)
   | (with_reducible exact spec_RankOfWord.mono _ _)
   | (with_reducible exact spec_RightByBerg.mono _ _)
   | (with_reducible exact spec_RightByPrice.mono _ _)
   | (with_reducible exact spec_WordOfRank.mono _ _)
   | (with_reducible exact LeO.refl _)
   | (with_reducible exact LeO.none _)
   | (with_reducible refine LeO.ite ?_ ?_)
   | (with_reducible refine LeO.bind ?_ (fun _ => ?_))
   | exact ih0 _ _ _ _ _ _ _
   | exact ih1 _ _ _ _
   | exact ih2 _
   | exact ih3 _ _ _ _ _ _
   | exact ih4 _
   | exact ih5 _ _ _ _ _ _ _
   | exact ih6 _ _ _ _
   | exact impl_BergWord.mono _ _
   | exact impl_IsRight.mono _ _
   | exact impl_PriceWord.mono _ _
   | exact impl_RankOfWord.mono _ _
   | exact impl_RightByBerg.mono _ _
   | exact impl_RightByPrice.mono _ _
   | exact impl_WordOfRank.mono _ _
   | exact laws_vSame.mono _ _ _
   | exact spec_BergWord.mono _ _
   | exact spec_DrawPriceWord.mono _ _
   | exact spec_DrawRankOfWord.mono _ _
   | exact spec_DrawRightByBerg.mono _ _
   | exact spec_PriceWord.mono _ _
   | exact spec_RankOfWord.mono _ _
   | exact spec_RightByBerg.mono _ _
   | exact spec_RightByPrice.mono _ _
   | exact spec_WordOfRank.mono _ _
   | exact LeO.none _
   | refine LeO.ite ?_ ?_
   | refine LeO.bind ?_ (fun _ => ?_)
  ·
   intro y0 y1 y2 y3 y4 y5
   unfold laws_FnWordsOfTriples.j3
   repeat' first
   | (with_reducible exact ih0 _ _ _ _ _ _ _)
   | (with_reducible exact ih1 _ _ _ _)
   | (with_reducible exact ih2 _)
   | (with_reducible exact ih3 _ _ _ _ _ _)
   | (with_reducible exact ih4 _)
   | (with_reducible exact ih5 _ _ _ _ _ _ _)
   | (with_reducible exact ih6 _ _ _ _)
   | (with_reducible exact impl_BergWord.mono _ _)
   | (with_reducible exact impl_IsRight.mono _ _)
   | (with_reducible exact impl_PriceWord.mono _ _)
   | (with_reducible exact impl_RankOfWord.mono _ _)
   | (with_reducible exact impl_RightByBerg.mono _ _)
   | (with_reducible exact impl_RightByPrice.mono _ _)
   | (with_reducible exact impl_WordOfRank.mono _ _)
   | (with_reducible exact laws_vSame.mono _ _ _)
   | (with_reducible exact spec_BergWord.mono _ _)
   | (with_reducible exact spec_DrawPriceWord.mono _ _)
   | (with_reducible exact spec_DrawRankOfWord.mono _ _)
   | (with_reducible exact spec_DrawRightByBerg.mono _ _)
   | (with_reducible exact spec_PriceWord.mono _ _)
   | (with_reducible exact spec_RankOfWord.mono _ _)
   | (with_reducible exact spec_RightByBerg.mono _ _)
   | (with_reducible exact spec_RightByPrice.mono _ _)
   | (with_reducible exact spec_WordOfRank.mono _ _)
   | (with_reducible exact LeO.refl _)
   | (with_reducible exact LeO.none _)
   | (with_reducible refine LeO.ite ?_ ?_)
   | (with_reducible refine LeO.bind ?_ (fun _ => ?_))
   | exact ih0 _ _ _ _ _ _ _
   | exact ih1 _ _ _ _
   | exact ih2 _
   | exact ih3 _ _ _ _ _ _
   | exact ih4 _
   | exact ih5 _ _ _ _ _ _ _
   | exact ih6 _ _ _ _
   | exact impl_BergWord.mono _ _
   | exact impl_IsRight.mono _ _
   | exact impl_PriceWord.mono _ _
   | exact impl_RankOfWord.mono _ _
   | exact impl_RightByBerg.mono _ _
   | exact impl_RightByPrice.mono _ _
   | exact impl_WordOfRank.mono _ _
   | exact laws_vSame.mono _ _ _
   | exact spec_BergWord.mono _ _
   | exact spec_DrawPriceWord.mono _ _
   | exact spec_DrawRankOfWord.mono _ _
   | exact spec_DrawRightByBerg.mono _ _
   | exact spec_PriceWord.mono _ _
   | exact spec_RankOfWord.mono _ _
   | exact spec_RightByBerg.mono _ _
   | exact spec_RightByPrice.mono _ _
   | exact spec_WordOfRank.mono _ _
   | exact LeO.none _
   | refine LeO.ite ?_ ?_
   | refine LeO.bind ?_ (fun _ => ?_)
  ·
   intro y0
   unfold laws_FnWordsOfTriples.j4
   repeat' first
   | (with_reducible exact ih0 _ _ _ _ _ _ _)
   | (with_reducible exact ih1 _ _ _ _)
   | (with_reducible exact ih2 _)
   | (with_reducible exact ih3 _ _ _ _ _ _)
   | (with_reducible exact ih4 _)
   | (with_reducible exact ih5 _ _ _ _ _ _ _)
   | (with_reducible exact ih6 _ _ _ _)
   | (with_reducible exact impl_BergWord.mono _ _)
   | (with_reducible exact impl_IsRight.mono _ _)
   | (with_reducible exact impl_PriceWord.mono _ _)
   | (with_reducible exact impl_RankOfWord.mono _ _)
   | (with_reducible exact impl_RightByBerg.mono _ _)
   | (with_reducible exact impl_RightByPrice.mono _ _)
   | (with_reducible exact impl_WordOfRank.mono _ _)
   | (with_reducible exact laws_vSame.mono _ _ _)
   | (with_reducible exact spec_BergWord.mono _ _)
   | (with_reducible exact spec_DrawPriceWord.mono _ _)
   | (with_reducible exact spec_DrawRankOfWord.mono _ _)
   | (with_reducible exact spec_DrawRightByBerg.mono _ _)
   | (with_reducible exact spec_PriceWord.mono _ _)
   | (with_reducible exact spec_RankOfWord.mono _ _)
   | (with_reducible exact spec_RightByBerg.mono _ _)
   | (with_reducible exact spec_RightByPrice.mono _ _)
   | (with_reducible exact spec_WordOfRank.mono _ _)
   | (with_reducible exact LeO.refl _)
   | (with_reducible exact LeO.none _)
   | (with_reducible refine LeO.ite ?_ ?_)
   | (with_reducible refine LeO.bind ?_ (fun _ => ?_))
   | exact ih0 _ _ _ _ _ _ _
   | exact ih1 _ _ _ _
   | exact ih2 _
   | exact ih3 _ _ _ _ _ _
   | exact ih4 _
   | exact ih5 _ _ _ _ _ _ _
   | exact ih6 _ _ _ _
   | exact impl_BergWord.mono _ _
   | exact impl_IsRight.mono _ _
   | exact impl_PriceWord.mono _ _
   | exact impl_RankOfWord.mono _ _
   | exact impl_RightByBerg.mono _ _
   | exact impl_RightByPrice.mono _ _
   | exact impl_WordOfRank.mono _ _
   | exact laws_vSame.mono _ _ _
   | exact spec_BergWord.mono _ _
   | exact spec_DrawPriceWord.mono _ _
   | exact spec_DrawRankOfWord.mono _ _
   | exact spec_DrawRightByBerg.mono _ _
   | exact spec_PriceWord.mono _ _
   | exact spec_RankOfWord.mono _ _
   | exact spec_RightByBerg.mono _ _
   | exact spec_RightByPrice.mono _ _
   | exact spec_WordOfRank.mono _ _
   | exact LeO.none _
   | refine LeO.ite ?_ ?_
   | refine LeO.bind ?_ (fun _ => ?_)
  ·
   intro y0 y1 y2 y3 y4 y5 y6
   unfold laws_FnWordsOfTriples.j5
   repeat' first
   | (with_reducible exact ih0 _ _ _ _ _ _ _)
   | (with_reducible exact ih1 _ _ _ _)
   | (with_reducible exact ih2 _)
   | (with_reducible exact ih3 _ _ _ _ _ _)
   | (with_reducible exact ih4 _)
   | (with_reducible exact ih5 _ _ _ _ _ _ _)
   | (with_reducible exact ih6 _ _ _ _)
   | (with_reducible exact impl_BergWord.mono _ _)
   | (with_reducible exact impl_IsRight.mono _ _)
   | (with_reducible exact impl_PriceWord.mono _ _)
   | (with_reducible exact impl_RankOfWord.mono _ _)
   | (with_reducible exact impl_RightByBerg.mono _ _)
   | (with_reducible exact impl_RightByPrice.mono _ _)
   | (with_reducible exact impl_WordOfRank.mono _ _)
   | (with_reducible exact laws_vSame.mono _ _ _)
   | (with_reducible exact spec_BergWord.mono _ _)
   | (with_reducible exact spec_DrawPriceWord.mono _ _)
   | (with_reducible exact spec_DrawRankOfWord.mono _ _)
   | (with_reducible exact spec_DrawRightByBerg.mono _ _)
   | (with_reducible exact spec_PriceWord.mono _ _)
   | (with_reducible exact spec_RankOfWord.mono _ _)
   | (with_reducible exact spec_RightByBerg.mono _ _)
   | (with_reducible exact spec_RightByPrice.mono _ _)
   | (with_reducible exact spec_WordOfRank.mono _ _)
   | (with_reducible exact LeO.refl _)
   | (with_reducible exact LeO.none _)
   | (with_reducible refine LeO.ite ?_ ?_)
   | (with_reducible refine LeO.bind ?_ (fun _ => ?_))
   | exact ih0 _ _ _ _ _ _ _
   | exact ih1 _ _ _ _
   | exact ih2 _
   | exact ih3 _ _ _ _ _ _
   | exact ih4 _
   | exact ih5 _ _ _ _ _ _ _
   | exact ih6 _ _ _ _
   | exact impl_BergWord.mono _ _
   | exact impl_IsRight.mono _ _
   | exact impl_PriceWord.mono _ _
   | exact impl_RankOfWord.mono _ _
   | exact impl_RightByBerg.mono _ _
   | exact impl_RightByPrice.mono _ _
   | exact impl_WordOfRank.mono _ _
   | exact laws_vSame.mono _ _ _
   | exact spec_BergWord.mono _ _
   | exact spec_DrawPriceWord.mono _ _
   | exact spec_DrawRankOfWord.mono _ _
   | exact spec_DrawRightByBerg.mono _ _
   | exact spec_PriceWord.mono _ _
   | exact spec_RankOfWord.mono _ _
   | exact spec_RightByBerg.mono _ _
   | exact spec_RightByPrice.mono _ _
   | exact spec_WordOfRank.mono _ _
   | exact LeO.none _
   | refine LeO.ite ?_ ?_
   | refine LeO.bind ?_ (fun _ => ?_)
  ·
   intro y0 y1 y2 y3
   unfold laws_FnWordsOfTriples.j6
   repeat' first
   | (with_reducible exact ih0 _ _ _ _ _ _ _)
   | (with_reducible exact ih1 _ _ _ _)
   | (with_reducible exact ih2 _)
   | (with_reducible exact ih3 _ _ _ _ _ _)
   | (with_reducible exact ih4 _)
   | (with_reducible exact ih5 _ _ _ _ _ _ _)
   | (with_reducible exact ih6 _ _ _ _)
   | (with_reducible exact impl_BergWord.mono _ _)
   | (with_reducible exact impl_IsRight.mono _ _)
   | (with_reducible exact impl_PriceWord.mono _ _)
   | (with_reducible exact impl_RankOfWord.mono _ _)
   | (with_reducible exact impl_RightByBerg.mono _ _)
   | (with_reducible exact impl_RightByPrice.mono _ _)
   | (with_reducible exact impl_WordOfRank.mono _ _)
   | (with_reducible exact laws_vSame.mono _ _ _)
   | (with_reducible exact spec_BergWord.mono _ _)
   | (with_reducible exact spec_DrawPriceWord.mono _ _)
   | (with_reducible exact spec_DrawRankOfWord.mono _ _)
   | (with_reducible exact spec_DrawRightByBerg.mono _ _)
   | (with_reducible exact spec_PriceWord.mono _ _)
   | (with_reducible exact spec_RankOfWord.mono _ _)
   | (with_reducible exact spec_RightByBerg.mono _ _)
   | (with_reducible exact spec_RightByPrice.mono _ _)
   | (with_reducible exact spec_WordOfRank.mono _ _)
   | (with_reducible exact LeO.refl _)
   | (with_reducible exact LeO.none _)
   | (with_reducible refine LeO.ite ?_ ?_)
   | (with_reducible refine LeO.bind ?_ (fun _ => ?_))
   | exact ih0 _ _ _ _ _ _ _
   | exact ih1 _ _ _ _
   | exact ih2 _
   | exact ih3 _ _ _ _ _ _
   | exact ih4 _
   | exact ih5 _ _ _ _ _ _ _
   | exact ih6 _ _ _ _
   | exact impl_BergWord.mono _ _
   | exact impl_IsRight.mono _ _
   | exact impl_PriceWord.mono _ _
   | exact impl_RankOfWord.mono _ _
   | exact impl_RightByBerg.mono _ _
   | exact impl_RightByPrice.mono _ _
   | exact impl_WordOfRank.mono _ _
   | exact laws_vSame.mono _ _ _
   | exact spec_BergWord.mono _ _
   | exact spec_DrawPriceWord.mono _ _
   | exact spec_DrawRankOfWord.mono _ _
   | exact spec_DrawRightByBerg.mono _ _
   | exact spec_PriceWord.mono _ _
   | exact spec_RankOfWord.mono _ _
   | exact spec_RightByBerg.mono _ _
   | exact spec_RightByPrice.mono _ _
   | exact spec_WordOfRank.mono _ _
   | exact LeO.none _
   | refine LeO.ite ?_ ?_
   | refine LeO.bind ?_ (fun _ => ?_)
theorem laws_FnWordsOfTriples.mono : ∀ a0 a1 k, LeO (laws_FnWordsOfTriples.f k a0 a1) (laws_FnWordsOfTriples.f (k + 1) a0 a1) := by
 intro a0 a1 k
 obtain ⟨ih0, ih1, ih2, ih3, ih4, ih5, ih6⟩ := laws_FnWordsOfTriples.mono_l k
 unfold laws_FnWordsOfTriples.f
 repeat' first
  | (with_reducible exact ih0 _ _ _ _ _ _ _)
  | (with_reducible exact ih1 _ _ _ _)
  | (with_reducible exact ih2 _)
  | (with_reducible exact ih3 _ _ _ _ _ _)
  | (with_reducible exact ih4 _)
  | (with_reducible exact ih5 _ _ _ _ _ _ _)
  | (with_reducible exact ih6 _ _ _ _)
  | (with_reducible exact impl_BergWord.mono _ _)
  | (with_reducible exact impl_IsRight.mono _ _)
  | (with_reducible exact impl_PriceWord.mono _ _)
  | (with_reducible exact impl_RankOfWord.mono _ _)
  | (with_reducible exact impl_RightByBerg.mono _ _)
  | (with_reducible exact impl_RightByPrice.mono _ _)
  | (with_reducible exact impl_WordOfRank.mono _ _)
  | (with_reducible exact laws_vSame.mono _ _ _)
  | (with_reducible exact spec_BergWord.mono _ _)
  | (with_reducible exact spec_DrawPriceWord.mono _ _)
  | (with_reducible exact spec_DrawRankOfWord.mono _ _)
  | (with_reducible exact spec_DrawRightByBerg.mono _ _)
  | (with_reducible exact spec_PriceWord.mono _ _)
  | (with_reducible exact spec_RankOfWord.mono _ _)
  | (with_reducible exact spec_RightByBerg.mono _ _)
  | (with_reducible exact spec_RightByPrice.mono _ _)
  | (with_reducible exact spec_WordOfRank.mono _ _)
  | (with_reducible exact LeO.refl _)
  | (with_reducible exact LeO.none _)
  | (with_reducible refine LeO.ite ?_ ?_)
  | (with_reducible refine LeO.bind ?_ (fun _ => ?_))
  | exact ih0 _ _ _ _ _ _ _
  | exact ih1 _ _ _ _
  | exact ih2 _
  | exact ih3 _ _ _ _ _ _
  | exact ih4 _
  | exact ih5 _ _ _ _ _ _ _
  | exact ih6 _ _ _ _
  | exact impl_BergWord.mono _ _
  | exact impl_IsRight.mono _ _
  | exact impl_PriceWord.mono _ _
  | exact impl_RankOfWord.mono _ _
  | exact impl_RightByBerg.mono _ _
  | exact impl_RightByPrice.mono _ _
  | exact impl_WordOfRank.mono _ _
  | exact laws_vSame.mono _ _ _
  | exact spec_BergWord.mono _ _
  | exact spec_DrawPriceWord.mono _ _
  | exact spec_DrawRankOfWord.mono _ _
  | exact spec_DrawRightByBerg.mono _ _
  | exact spec_PriceWord.mono _ _
  | exact spec_RankOfWord.mono _ _
  | exact spec_RightByBerg.mono _ _
  | exact spec_RightByPrice.mono _ _
  | exact spec_WordOfRank.mono _ _
  | exact LeO.none _
  | refine LeO.ite ?_ ?_
  | refine LeO.bind ?_ (fun _ => ?_)
theorem laws_FnWordsOfTriples.j0_no : ∀ {k y0 y1 y2 y3 y4 y5}, laws_FnWordsOfTriples.j0 k y0 y1 y2 y3 y4 y5 true = some true → False := by
 intro k y0 y1 y2 y3 y4 y5 h
 cases k <;> simp [laws_FnWordsOfTriples.j0] at h
theorem laws_FnWordsOfTriples.j3_no : ∀ {k y0 y1 y2 y3 y4}, laws_FnWordsOfTriples.j3 k y0 y1 y2 y3 y4 true = some true → False := by
 intro k y0 y1 y2 y3 y4 h
 cases k <;> simp [laws_FnWordsOfTriples.j3] at h
theorem laws_FnWordsOfTriples.j5_no : ∀ {k y0 y1 y2 y3 y4 y5}, laws_FnWordsOfTriples.j5 k y0 y1 y2 y3 y4 y5 true = some true → False := by
 intro k y0 y1 y2 y3 y4 y5 h
 cases k <;> simp [laws_FnWordsOfTriples.j5] at h
theorem laws_FnWordsOfTriples.j6_no : ∀ {k y0 y1 y2}, laws_FnWordsOfTriples.j6 k y0 y1 y2 true = some true → False := by
 intro k y0 y1 y2 h
 cases k <;> simp [laws_FnWordsOfTriples.j6] at h
set_option maxHeartbeats 8000000 in
set_option maxRecDepth 100000 in
theorem laws_FnWordsOfTriples.calls (k : Nat) (A0 : Option Addr) (c0 : Nat) (l0 : List Int) (A1 : Option Addr) (c1 : Nat) (l1 : List Int) (r : Bool) (w : World) (hr0 : Kd.C (Kd.int .u8) w A0 l0.length l0) (hc0 : l0.length ≤ c0) (hr1 : Kd.C (Kd.int .u8) w A1 l1.length l1) (hc1 : l1.length ≤ c1) (h : laws_FnWordsOfTriples.f k l0 l1 = some r) (hrT : r = true) :
 Calls Try.prog 5 #[.slice A0 l0.length c0, .slice A1 l1.length c1] w fun e w' => e = .returned (.bool r) ∧ Below w.heap.size w w' := by
 have HR0 := Aside0.mk hr0
 have HC0 := Aside0.mk hc0
 clear hr0 hc0
 have HR1 := Aside0.mk hr1
 have HC1 := Aside0.mk hc1
 clear hr1 hc1
 have HB := Aside0.mk (Below.refl w.heap.size w)
 have H : ((laws_big.f l0 l1).bind fun t361 => (if t361 = true then (some true) else ((spec_DrawRightByBerg.f k l0).bind fun t362 => ((impl_RightByBerg.f k t362).bind fun bt365 => ((spec_RightByBerg.f k t362).bind fun bt369 => ((impl_RightByPrice.f k t362).bind fun bt373 => ((spec_RightByPrice.f k t362).bind fun bt377 => (if (bt365.2 != bt369.2) = true then (laws_FnWordsOfTriples.j0 k l1 t362 bt365.1 bt365.2 bt373.1 bt373.2 true) else ((laws_vSame.f k bt365.1 bt369.1).bind fun t381 => (if t381 = true then (if (bt373.2 != bt377.2) = true then (laws_FnWordsOfTriples.j0 k l1 t362 bt365.1 bt365.2 bt373.1 bt373.2 true) else ((laws_vSame.f k bt373.1 bt377.1).bind fun t382 => (laws_FnWordsOfTriples.j0 k l1 t362 bt365.1 bt365.2 bt373.1 bt373.2 (!t382)))) else (laws_FnWordsOfTriples.j0 k l1 t362 bt365.1 bt365.2 bt373.1 bt373.2 true))))))))))) = some r := h
 clear h
 replace H := Option.bind_eq_some_iff.mp H
 obtain ⟨t361, A30, H⟩ := H
 replace H : (if t361 = true then (some true) else ((spec_DrawRightByBerg.f k l0).bind fun t362 => ((impl_RightByBerg.f k t362).bind fun bt365 => ((spec_RightByBerg.f k t362).bind fun bt369 => ((impl_RightByPrice.f k t362).bind fun bt373 => ((spec_RightByPrice.f k t362).bind fun bt377 => (if (bt365.2 != bt369.2) = true then (laws_FnWordsOfTriples.j0 k l1 t362 bt365.1 bt365.2 bt373.1 bt373.2 true) else ((laws_vSame.f k bt365.1 bt369.1).bind fun t381 => (if t381 = true then (if (bt373.2 != bt377.2) = true then (laws_FnWordsOfTriples.j0 k l1 t362 bt365.1 bt365.2 bt373.1 bt373.2 true) else ((laws_vSame.f k bt373.1 bt377.1).bind fun t382 => (laws_FnWordsOfTriples.j0 k l1 t362 bt365.1 bt365.2 bt373.1 bt373.2 (!t382)))) else (laws_FnWordsOfTriples.j0 k l1 t362 bt365.1 bt365.2 bt373.1 bt373.2 true)))))))))) = some r := H
 have A3 := Aside0.mk A30
 clear A30
 by_cases c4 : t361 = true
 ·
  subst c4
  have H1 : (some true) = some r := by rw [if_pos rfl] at H; exact H
  clear H
  have H := H1
  clear H1
  obtain rfl := Option.some.inj H
  go_enter Try.func5, Try.ntmps5
  go_wp2_with (first | ((with_reducible refine gate_callee (f := 7) rfl ?_); refine gL (some 47) rfl rfl Try.func7 (by kernel_rfl) rfl #[.slice A0 l0.length c0, .slice A1 l1.length c1] rfl ?_; (with_reducible refine (laws_big.calls _ _ l0 _ _ l1 true _ ?side1 ?side2 ?side3 ?side4 A3.out).mono ?_); (case side1 => repeat (first | exact HR0.out | (with_reducible refine Kd.C_alloc ?_ _) | (with_reducible refine Kd.C_drewN ?_ _) | (with_reducible refine Kd.C_drew ?_))); (case side2 => exact HC0.out); (case side3 => repeat (first | exact HR1.out | (with_reducible refine Kd.C_alloc ?_ _) | (with_reducible refine Kd.C_drewN ?_ _) | (with_reducible refine Kd.C_drew ?_))); (case side4 => exact HC1.out); rintro e w' ⟨rfl, ⟨nd, rfl⟩⟩; refine ⟨_, rfl, ?_⟩))
  go_ret
  exact ⟨e1, bq⟩
 ·
  as_aux_lemma =>
   replace c4 := Bool.eq_false_iff.mpr c4
   subst c4
   have H1 : ((spec_DrawRightByBerg.f k l0).bind fun t362 => ((impl_RightByBerg.f k t362).bind fun bt365 => ((spec_RightByBerg.f k t362).bind fun bt369 => ((impl_RightByPrice.f k t362).bind fun bt373 => ((spec_RightByPrice.f k t362).bind fun bt377 => (if (bt365.2 != bt369.2) = true then (laws_FnWordsOfTriples.j0 k l1 t362 bt365.1 bt365.2 bt373.1 bt373.2 true) else ((laws_vSame.f k bt365.1 bt369.1).bind fun t381 => (if t381 = true then (if (bt373.2 != bt377.2) = true then (laws_FnWordsOfTriples.j0 k l1 t362 bt365.1 bt365.2 bt373.1 bt373.2 true) else ((laws_vSame.f k bt373.1 bt377.1).bind fun t382 => (laws_FnWordsOfTriples.j0 k l1 t362 bt365.1 bt365.2 bt373.1 bt373.2 (!t382)))) else (laws_FnWordsOfTriples.j0 k l1 t362 bt365.1 bt365.2 bt373.1 bt373.2 true))))))))) = some r := by rw [if_neg (show ¬ (false = true) by decide)] at H; exact H
   clear H
   have H := H1
   clear H1
   replace H := Option.bind_eq_some_iff.mp H
   obtain ⟨t362, A50, H⟩ := H
   replace H : ((impl_RightByBerg.f k t362).bind fun bt365 => ((spec_RightByBerg.f k t362).bind fun bt369 => ((impl_RightByPrice.f k t362).bind fun bt373 => ((spec_RightByPrice.f k t362).bind fun bt377 => (if (bt365.2 != bt369.2) = true then (laws_FnWordsOfTriples.j0 k l1 t362 bt365.1 bt365.2 bt373.1 bt373.2 true) else ((laws_vSame.f k bt365.1 bt369.1).bind fun t381 => (if t381 = true then (if (bt373.2 != bt377.2) = true then (laws_FnWordsOfTriples.j0 k l1 t362 bt365.1 bt365.2 bt373.1 bt373.2 true) else ((laws_vSame.f k bt373.1 bt377.1).bind fun t382 => (laws_FnWordsOfTriples.j0 k l1 t362 bt365.1 bt365.2 bt373.1 bt373.2 (!t382)))) else (laws_FnWordsOfTriples.j0 k l1 t362 bt365.1 bt365.2 bt373.1 bt373.2 true)))))))) = some r := H
   have A5 := Aside0.mk A50
   clear A50
   replace H := Option.bind_eq_some_iff.mp H
   obtain ⟨⟨t365, t366⟩, A60, H⟩ := H
   replace H : ((spec_RightByBerg.f k t362).bind fun bt369 => ((impl_RightByPrice.f k t362).bind fun bt373 => ((spec_RightByPrice.f k t362).bind fun bt377 => (if (t366 != bt369.2) = true then (laws_FnWordsOfTriples.j0 k l1 t362 t365 t366 bt373.1 bt373.2 true) else ((laws_vSame.f k t365 bt369.1).bind fun t381 => (if t381 = true then (if (bt373.2 != bt377.2) = true then (laws_FnWordsOfTriples.j0 k l1 t362 t365 t366 bt373.1 bt373.2 true) else ((laws_vSame.f k bt373.1 bt377.1).bind fun t382 => (laws_FnWordsOfTriples.j0 k l1 t362 t365 t366 bt373.1 bt373.2 (!t382)))) else (laws_FnWordsOfTriples.j0 k l1 t362 t365 t366 bt373.1 bt373.2 true))))))) = some r := H
   have A6 := Aside0.mk A60
   clear A60
   replace H := Option.bind_eq_some_iff.mp H
   obtain ⟨⟨t369, t370⟩, A70, H⟩ := H
   replace H : ((impl_RightByPrice.f k t362).bind fun bt373 => ((spec_RightByPrice.f k t362).bind fun bt377 => (if (t366 != t370) = true then (laws_FnWordsOfTriples.j0 k l1 t362 t365 t366 bt373.1 bt373.2 true) else ((laws_vSame.f k t365 t369).bind fun t381 => (if t381 = true then (if (bt373.2 != bt377.2) = true then (laws_FnWordsOfTriples.j0 k l1 t362 t365 t366 bt373.1 bt373.2 true) else ((laws_vSame.f k bt373.1 bt377.1).bind fun t382 => (laws_FnWordsOfTriples.j0 k l1 t362 t365 t366 bt373.1 bt373.2 (!t382)))) else (laws_FnWordsOfTriples.j0 k l1 t362 t365 t366 bt373.1 bt373.2 true)))))) = some r := H
   have A7 := Aside0.mk A70
   clear A70
   replace H := Option.bind_eq_some_iff.mp H
   obtain ⟨⟨t373, t374⟩, A80, H⟩ := H
   replace H : ((spec_RightByPrice.f k t362).bind fun bt377 => (if (t366 != t370) = true then (laws_FnWordsOfTriples.j0 k l1 t362 t365 t366 t373 t374 true) else ((laws_vSame.f k t365 t369).bind fun t381 => (if t381 = true then (if (t374 != bt377.2) = true then (laws_FnWordsOfTriples.j0 k l1 t362 t365 t366 t373 t374 true) else ((laws_vSame.f k t373 bt377.1).bind fun t382 => (laws_FnWordsOfTriples.j0 k l1 t362 t365 t366 t373 t374 (!t382)))) else (laws_FnWordsOfTriples.j0 k l1 t362 t365 t366 t373 t374 true))))) = some r := H
   have A8 := Aside0.mk A80
   clear A80
   replace H := Option.bind_eq_some_iff.mp H
   obtain ⟨⟨t377, t378⟩, A90, H⟩ := H
   replace H : (if (t366 != t370) = true then (laws_FnWordsOfTriples.j0 k l1 t362 t365 t366 t373 t374 true) else ((laws_vSame.f k t365 t369).bind fun t381 => (if t381 = true then (if (t374 != t378) = true then (laws_FnWordsOfTriples.j0 k l1 t362 t365 t366 t373 t374 true) else ((laws_vSame.f k t373 t377).bind fun t382 => (laws_FnWordsOfTriples.j0 k l1 t362 t365 t366 t373 t374 (!t382)))) else (laws_FnWordsOfTriples.j0 k l1 t362 t365 t366 t373 t374 true)))) = some r := H
   have A9 := Aside0.mk A90
   clear A90
   have HC10 := Aside0.mk H
   clear H
   go_enter Try.func5, Try.ntmps5
   go_upto_region 8 with (first | ((with_reducible refine gate_callee (f := 7) rfl ?_); refine gL (some 47) rfl rfl Try.func7 (by kernel_rfl) rfl #[.slice A0 l0.length c0, .slice A1 l1.length c1] rfl ?_; (with_reducible refine (laws_big.calls _ _ l0 _ _ l1 false _ ?side1 ?side2 ?side3 ?side4 A3.out).mono ?_); (case side1 => repeat (first | exact HR0.out | (with_reducible refine Kd.C_alloc ?_ _) | (with_reducible refine Kd.C_drewN ?_ _) | (with_reducible refine Kd.C_drew ?_))); (case side2 => exact HC0.out); (case side3 => repeat (first | exact HR1.out | (with_reducible refine Kd.C_alloc ?_ _) | (with_reducible refine Kd.C_drewN ?_ _) | (with_reducible refine Kd.C_drew ?_))); (case side4 => exact HC1.out); rintro e w' ⟨rfl, ⟨nd, rfl⟩⟩; refine ⟨_, rfl, ?_⟩) | ((with_reducible refine gate_callee (f := 34) rfl ?_); refine gL (some 49) rfl rfl Try.func34 (by kernel_rfl) rfl #[.slice A0 l0.length c0] rfl ?_; (with_reducible refine (spec_DrawRightByBerg.calls k _ _ l0 t362 _ ?side1 ?side2 A5.out).mono ?_); (case side1 => repeat (first | exact HR0.out | (with_reducible refine Kd.C_alloc ?_ _) | (with_reducible refine Kd.C_drewN ?_ _) | (with_reducible refine Kd.C_drew ?_))); (case side2 => exact HC0.out); rintro e w11 ⟨v363, rfl, ho0, hb⟩; refine ⟨_, rfl, ?_⟩; have n0_ := Aside0.mk (Kd.R_lower ho0 (below_size bq)); have n1_ := Aside0.mk (below_step bq hb); clear HB; have HO364 := n0_; have HB := n1_; clear n0_ n1_; (try clear hb); (try clear hb2); (try clear hk); (try clear hi); (try clear ho0); obtain ⟨Ao12, co12, eo12⟩ := Kd.R_slice HO364.out; subst eo12) | ((with_reducible refine gate_callee (f := 35) rfl ?_); refine gL (some 52) rfl rfl Try.func35 (by kernel_rfl) rfl #[.slice Ao12 t362.length co12] rfl ?_; (with_reducible refine (impl_RightByBerg.calls k _ _ t362 t365 t366 _ ?side1 ?side2 A6.out).mono ?_); (case side1 => repeat (first | exact (Kd.R_reads' HO364.out).2.2 | (with_reducible refine Kd.C_alloc ?_ _) | (with_reducible refine Kd.C_drewN ?_ _) | (with_reducible refine Kd.C_drew ?_))); (case side2 => exact (Kd.R_reads' HO364.out).2.1); rintro e w13 ⟨v367, rfl, ho0, hb⟩; refine ⟨_, rfl, ?_⟩; have n0_ := Aside0.mk (Kd.R_elder' (by (with_reducible repeat (first | apply Kd.R_alloc | apply Kd.R_drewN | apply Kd.R_drew)); exact HO364.out) (Kd.R_base ho0) hb); have n1_ := Aside0.mk (Kd.R_lower (Kd.R_new' ho0 (Kd.R_lt (by (with_reducible repeat (first | apply Kd.R_alloc | apply Kd.R_drewN | apply Kd.R_drew)); exact HO364.out))) (below_size bq)); have n2_ := Aside0.mk (below_step bq hb); clear HO364; clear HB; have HO364 := n0_; have HO368 := n1_; have HB := n2_; clear n0_ n1_ n2_; (try clear hb); (try clear hb2); (try clear hk); (try clear hi); (try clear ho0)) | ((with_reducible refine gate_callee (f := 36) rfl ?_); refine gL (some 57) rfl rfl Try.func36 (by kernel_rfl) rfl #[.slice Ao12 t362.length co12] rfl ?_; (with_reducible refine (spec_RightByBerg.calls k _ _ t362 t369 t370 _ ?side1 ?side2 A7.out).mono ?_); (case side1 => repeat (first | exact (Kd.R_reads' HO364.out).2.2 | (with_reducible refine Kd.C_alloc ?_ _) | (with_reducible refine Kd.C_drewN ?_ _) | (with_reducible refine Kd.C_drew ?_))); (case side2 => exact (Kd.R_reads' HO364.out).2.1); rintro e w14 ⟨v371, rfl, ho0, hb⟩; refine ⟨_, rfl, ?_⟩; have n0_ := Aside0.mk (Kd.R_elder' (by (with_reducible repeat (first | apply Kd.R_alloc | apply Kd.R_drewN | apply Kd.R_drew)); exact HO364.out) (Kd.R_base ho0) hb); have n1_ := Aside0.mk (Kd.R_elder' (by (with_reducible repeat (first | apply Kd.R_alloc | apply Kd.R_drewN | apply Kd.R_drew)); exact HO368.out) (Kd.R_base ho0) hb); have n2_ := Aside0.mk (Kd.R_lower (Kd.R_new' (Kd.R_new' ho0 (Kd.R_lt (by (with_reducible repeat (first | apply Kd.R_alloc | apply Kd.R_drewN | apply Kd.R_drew)); exact HO364.out))) (Kd.R_lt (by (with_reducible repeat (first | apply Kd.R_alloc | apply Kd.R_drewN | apply Kd.R_drew)); exact HO368.out))) (below_size bq)); have n3_ := Aside0.mk (below_step bq hb); clear HO364; clear HO368; clear HB; have HO364 := n0_; have HO368 := n1_; have HO372 := n2_; have HB := n3_; clear n0_ n1_ n2_ n3_; (try clear hb); (try clear hb2); (try clear hk); (try clear hi); (try clear ho0)) | ((with_reducible refine gate_callee (f := 37) rfl ?_); refine gL (some 62) rfl rfl Try.func37 (by kernel_rfl) rfl #[.slice Ao12 t362.length co12] rfl ?_; (with_reducible refine (impl_RightByPrice.calls k _ _ t362 t373 t374 _ ?side1 ?side2 A8.out).mono ?_); (case side1 => repeat (first | exact (Kd.R_reads' HO364.out).2.2 | (with_reducible refine Kd.C_alloc ?_ _) | (with_reducible refine Kd.C_drewN ?_ _) | (with_reducible refine Kd.C_drew ?_))); (case side2 => exact (Kd.R_reads' HO364.out).2.1); rintro e w15 ⟨v375, rfl, ho0, hb⟩; refine ⟨_, rfl, ?_⟩; have n0_ := Aside0.mk (Kd.R_elder' (by (with_reducible repeat (first | apply Kd.R_alloc | apply Kd.R_drewN | apply Kd.R_drew)); exact HO364.out) (Kd.R_base ho0) hb); have n1_ := Aside0.mk (Kd.R_elder' (by (with_reducible repeat (first | apply Kd.R_alloc | apply Kd.R_drewN | apply Kd.R_drew)); exact HO368.out) (Kd.R_base ho0) hb); have n2_ := Aside0.mk (Kd.R_elder' (by (with_reducible repeat (first | apply Kd.R_alloc | apply Kd.R_drewN | apply Kd.R_drew)); exact HO372.out) (Kd.R_base ho0) hb); have n3_ := Aside0.mk (Kd.R_lower (Kd.R_new' (Kd.R_new' (Kd.R_new' ho0 (Kd.R_lt (by (with_reducible repeat (first | apply Kd.R_alloc | apply Kd.R_drewN | apply Kd.R_drew)); exact HO364.out))) (Kd.R_lt (by (with_reducible repeat (first | apply Kd.R_alloc | apply Kd.R_drewN | apply Kd.R_drew)); exact HO368.out))) (Kd.R_lt (by (with_reducible repeat (first | apply Kd.R_alloc | apply Kd.R_drewN | apply Kd.R_drew)); exact HO372.out))) (below_size bq)); have n4_ := Aside0.mk (below_step bq hb); clear HO364; clear HO368; clear HO372; clear HB; have HO364 := n0_; have HO368 := n1_; have HO372 := n2_; have HO376 := n3_; have HB := n4_; clear n0_ n1_ n2_ n3_ n4_; (try clear hb); (try clear hb2); (try clear hk); (try clear hi); (try clear ho0)) | ((with_reducible refine gate_callee (f := 38) rfl ?_); refine gL (some 67) rfl rfl Try.func38 (by kernel_rfl) rfl #[.slice Ao12 t362.length co12] rfl ?_; (with_reducible refine (spec_RightByPrice.calls k _ _ t362 t377 t378 _ ?side1 ?side2 A9.out).mono ?_); (case side1 => repeat (first | exact (Kd.R_reads' HO364.out).2.2 | (with_reducible refine Kd.C_alloc ?_ _) | (with_reducible refine Kd.C_drewN ?_ _) | (with_reducible refine Kd.C_drew ?_))); (case side2 => exact (Kd.R_reads' HO364.out).2.1); rintro e w16 ⟨v379, rfl, ho0, hb⟩; refine ⟨_, rfl, ?_⟩; have n0_ := Aside0.mk (Kd.R_elder' (by (with_reducible repeat (first | apply Kd.R_alloc | apply Kd.R_drewN | apply Kd.R_drew)); exact HO364.out) (Kd.R_base ho0) hb); have n1_ := Aside0.mk (Kd.R_elder' (by (with_reducible repeat (first | apply Kd.R_alloc | apply Kd.R_drewN | apply Kd.R_drew)); exact HO368.out) (Kd.R_base ho0) hb); have n2_ := Aside0.mk (Kd.R_elder' (by (with_reducible repeat (first | apply Kd.R_alloc | apply Kd.R_drewN | apply Kd.R_drew)); exact HO372.out) (Kd.R_base ho0) hb); have n3_ := Aside0.mk (Kd.R_elder' (by (with_reducible repeat (first | apply Kd.R_alloc | apply Kd.R_drewN | apply Kd.R_drew)); exact HO376.out) (Kd.R_base ho0) hb); have n4_ := Aside0.mk (Kd.R_lower (Kd.R_new' (Kd.R_new' (Kd.R_new' (Kd.R_new' ho0 (Kd.R_lt (by (with_reducible repeat (first | apply Kd.R_alloc | apply Kd.R_drewN | apply Kd.R_drew)); exact HO364.out))) (Kd.R_lt (by (with_reducible repeat (first | apply Kd.R_alloc | apply Kd.R_drewN | apply Kd.R_drew)); exact HO368.out))) (Kd.R_lt (by (with_reducible repeat (first | apply Kd.R_alloc | apply Kd.R_drewN | apply Kd.R_drew)); exact HO372.out))) (Kd.R_lt (by (with_reducible repeat (first | apply Kd.R_alloc | apply Kd.R_drewN | apply Kd.R_drew)); exact HO376.out))) (below_size bq)); have n5_ := Aside0.mk (below_step bq hb); clear HO364; clear HO368; clear HO372; clear HO376; clear HB; have HO364 := n0_; have HO368 := n1_; have HO372 := n2_; have HO376 := n3_; have HO380 := n4_; have HB := n5_; clear n0_ n1_ n2_ n3_ n4_ n5_; (try clear hb); (try clear hb2); (try clear hk); (try clear hi); (try clear ho0)))
   (try simp only [Act.put, List.setIfInBounds_toArray, List.set_cons_zero, List.set_cons_succ])
   go_cut [89] (fun v89 wc => ∃ (kq : Nat) (x89_9 : Bool), v89 = .bool x89_9 ∧ Aside0 (laws_FnWordsOfTriples.j0 kq l1 t362 t365 t366 t373 t374 x89_9 = some r) ∧ Aside0 (kq ≤ k) ∧ Aside0 (Kd.R (Kd.int .i64) 3 wc w.heap.size (fun k_ => some k_ ≠ (v367 : Value).ownBlock ∧ some k_ ≠ (v375 : Value).ownBlock) (.slice Ao12 t362.length co12) t362) ∧ Aside0 (Kd.R (Kd.int .i64) 3 wc w.heap.size (fun k_ => some k_ ≠ ((.slice Ao12 t362.length co12) : Value).ownBlock ∧ some k_ ≠ (v375 : Value).ownBlock) v367 t365) ∧ Aside0 (Kd.R (Kd.int .i64) 3 wc w.heap.size (fun k_ => some k_ ≠ ((.slice Ao12 t362.length co12) : Value).ownBlock ∧ some k_ ≠ (v367 : Value).ownBlock) v375 t373) ∧ Aside0 (Below w.heap.size w wc))
   case first =>
    as_aux_lemma =>
     have H := HC10.out
     clear HC10
     by_cases c17 : (t366 != t370) = true
     ·
      rw [if_pos c17] at H
      exact absurd (H.trans (congrArg some hrT)) (fun h_ => laws_FnWordsOfTriples.j0_no h_)
     ·
      rw [if_neg c17] at H
      have c17b0 : (t366 != t370) = false := by simpa using c17
      (try (have c17b1 : decide (t366 = t370) = true := by simpa using c17))
      (try (have c17b2 : (t366 == t370) = true := by simpa using c17))
      clear c17
      (first | rw [c17b0] | (simp only [i64_w, i32_w]; rw [c17b0]) | skip)
      replace H := Option.bind_eq_some_iff.mp H
      obtain ⟨t381, A180, H⟩ := H
      replace H : (if t381 = true then (if (t374 != t378) = true then (laws_FnWordsOfTriples.j0 k l1 t362 t365 t366 t373 t374 true) else ((laws_vSame.f k t373 t377).bind fun t382 => (laws_FnWordsOfTriples.j0 k l1 t362 t365 t366 t373 t374 (!t382)))) else (laws_FnWordsOfTriples.j0 k l1 t362 t365 t366 t373 t374 true)) = some r := H
      have A18 := Aside0.mk A180
      clear A180
      by_cases c19 : t381 = true
      ·
       subst c19
       have H1 : (if (t374 != t378) = true then (laws_FnWordsOfTriples.j0 k l1 t362 t365 t366 t373 t374 true) else ((laws_vSame.f k t373 t377).bind fun t382 => (laws_FnWordsOfTriples.j0 k l1 t362 t365 t366 t373 t374 (!t382)))) = some r := by rw [if_pos rfl] at H; exact H
       clear H
       have H := H1
       clear H1
       by_cases c20 : (t374 != t378) = true
       ·
        rw [if_pos c20] at H
        exact absurd (H.trans (congrArg some hrT)) (fun h_ => laws_FnWordsOfTriples.j0_no h_)
       ·
        rw [if_neg c20] at H
        have c20b0 : (t374 != t378) = false := by simpa using c20
        (try (have c20b1 : decide (t374 = t378) = true := by simpa using c20))
        (try (have c20b2 : (t374 == t378) = true := by simpa using c20))
        clear c20
        replace H := Option.bind_eq_some_iff.mp H
        obtain ⟨t382, A230, H⟩ := H
        replace H : (laws_FnWordsOfTriples.j0 k l1 t362 t365 t366 t373 t374 (!t382)) = some r := H
        have A23 := Aside0.mk A230
        clear A230
        have H' := Aside0.mk H
        clear H
        obtain ⟨Ao24, co24, eo24⟩ := Kd.R_slice HO368.out
        subst eo24
        obtain ⟨Ao25, co25, eo25⟩ := Kd.R_slice HO372.out
        subst eo25
        go_wp2_with (first | (go_at_call 11; (with_reducible refine (laws_vSame.calls k _ _ t365 _ _ t369 true _ ?side1 ?side2 ?side3 ?side4 A18.out).mono ?_); (case side1 => repeat (first | exact (Kd.R_reads' HO368.out).2.2 | (with_reducible refine Kd.C_alloc ?_ _) | (with_reducible refine Kd.C_drewN ?_ _) | (with_reducible refine Kd.C_drew ?_))); (case side2 => exact (Kd.R_reads' HO368.out).2.1); (case side3 => repeat (first | exact (Kd.R_reads' HO372.out).2.2 | (with_reducible refine Kd.C_alloc ?_ _) | (with_reducible refine Kd.C_drewN ?_ _) | (with_reducible refine Kd.C_drew ?_))); (case side4 => exact (Kd.R_reads' HO372.out).2.1); rintro e w' ⟨rfl, ⟨nd, rfl⟩⟩; obtain ⟨Ao26, co26, eo26⟩ := Kd.R_slice HO376.out; subst eo26; obtain ⟨Ao27, co27, eo27⟩ := Kd.R_slice HO380.out; subst eo27) | (go_at_call 11; (with_reducible refine (laws_vSame.calls k _ _ t373 _ _ t377 t382 _ ?side1 ?side2 ?side3 ?side4 A23.out).mono ?_); (case side1 => repeat (first | exact (Kd.R_reads' HO376.out).2.2 | (with_reducible refine Kd.C_alloc ?_ _) | (with_reducible refine Kd.C_drewN ?_ _) | (with_reducible refine Kd.C_drew ?_))); (case side2 => exact (Kd.R_reads' HO376.out).2.1); (case side3 => repeat (first | exact (Kd.R_reads' HO380.out).2.2 | (with_reducible refine Kd.C_alloc ?_ _) | (with_reducible refine Kd.C_drewN ?_ _) | (with_reducible refine Kd.C_drew ?_))); (case side4 => exact (Kd.R_reads' HO380.out).2.1); rintro e w' ⟨rfl, ⟨nd, rfl⟩⟩))
        go_meet
        case rel => exact ⟨_, (!t382), e2, H', ⟨by first | omega | exact Nat.le_refl _⟩, ⟨by (with_reducible repeat (first | apply Kd.R_alloc | apply Kd.R_drewN | apply Kd.R_drew)); exact Kd.R_mono HO364.out (fun _ hk => ⟨hk.1.1.1.2, hk.1.2⟩)⟩, ⟨by (with_reducible repeat (first | apply Kd.R_alloc | apply Kd.R_drewN | apply Kd.R_drew)); exact Kd.R_mono HO368.out (fun _ hk => ⟨hk.1.1.1.2, hk.1.2⟩)⟩, ⟨by (with_reducible repeat (first | apply Kd.R_alloc | apply Kd.R_drewN | apply Kd.R_drew)); exact Kd.R_mono HO376.out (fun _ hk => ⟨hk.1.1.1.2, hk.1.1.2⟩)⟩, ⟨bq⟩⟩
      ·
       replace c19 := Bool.eq_false_iff.mpr c19
       subst c19
       have H1 : (laws_FnWordsOfTriples.j0 k l1 t362 t365 t366 t373 t374 true) = some r := by rw [if_neg (show ¬ (false = true) by decide)] at H; exact H
       exact absurd (H1.trans (congrArg some hrT)) (fun h_ => laws_FnWordsOfTriples.j0_no h_)
   case rest =>
    as_aux_lemma =>
     clear HC10; (try clear c1); (try clear c2); (try clear p2); (try clear c3); (try clear c4); (try clear c5); (try clear c7); (try clear c17); (try clear c17b0); (try clear c17b1); (try clear c17b2); (try clear c19); (try clear c20); (try clear c20b0); (try clear c20b1); (try clear c20b2)
     obtain ⟨kq, x89_9, rfl, HA, HJ9, HO_5, HO_6, HO_10, HB⟩ := hcut
     cases kq with
     | zero => exact absurd HA.out (by simp [laws_FnWordsOfTriples.j0])
     | succ kj9 =>
      have H := HA.out
      clear HA
      simp only [laws_FnWordsOfTriples.j0] at H
      by_cases c30 : x89_9 = true
      ·
       subst c30
       have H1 : (some false) = some r := by rw [if_pos rfl] at H; exact H
       exact absurd (H1.trans (congrArg some hrT)) (by simp)
      ·
       as_aux_lemma =>
        replace c30 := Bool.eq_false_iff.mpr c30
        subst c30
        have H1 : (if t366 = true then ((impl_BergWord.f kj9 t365).bind fun bt383 => (if bt383.2 = true then ((laws_vSame.f kj9 bt383.1 t362).bind fun t387 => (if t387 = true then (laws_FnWordsOfTriples.j1 kj9 l1 t362 t373 t374) else (some false))) else (some false))) else (laws_FnWordsOfTriples.j1 kj9 l1 t362 t373 t374)) = some r := by rw [if_neg (show ¬ (false = true) by decide)] at H; exact H
        clear H
        have H := H1
        clear H1
        have HC31 := Aside0.mk H
        clear H
        go_upto_if 90 with (fail)
        go_cut [] (fun wc => ∃ (kq : Nat), Aside0 (laws_FnWordsOfTriples.j1 kq l1 t362 t373 t374 = some r) ∧ Aside0 (kq ≤ kj9) ∧ Aside0 (Kd.R (Kd.int .i64) 3 wc w.heap.size (fun k_ => some k_ ≠ (v375 : Value).ownBlock) (.slice Ao12 t362.length co12) t362) ∧ Aside0 (Kd.R (Kd.int .i64) 3 wc w.heap.size (fun k_ => some k_ ≠ ((.slice Ao12 t362.length co12) : Value).ownBlock) v375 t373) ∧ Aside0 (Below w.heap.size w wc))
        case first =>
         as_aux_lemma =>
          have H := HC31.out
          clear HC31
          by_cases c32 : t366 = true
          ·
           subst c32
           have H1 : ((impl_BergWord.f kj9 t365).bind fun bt383 => (if bt383.2 = true then ((laws_vSame.f kj9 bt383.1 t362).bind fun t387 => (if t387 = true then (laws_FnWordsOfTriples.j1 kj9 l1 t362 t373 t374) else (some false))) else (some false))) = some r := by rw [if_pos rfl] at H; exact H
           clear H
           have H := H1
           clear H1
           replace H := Option.bind_eq_some_iff.mp H
           obtain ⟨⟨t383, t384⟩, A330, H⟩ := H
           replace H : (if t384 = true then ((laws_vSame.f kj9 t383 t362).bind fun t387 => (if t387 = true then (laws_FnWordsOfTriples.j1 kj9 l1 t362 t373 t374) else (some false))) else (some false)) = some r := H
           have A33 := Aside0.mk A330
           clear A330
           by_cases c34 : t384 = true
           ·
            subst c34
            have H1 : ((laws_vSame.f kj9 t383 t362).bind fun t387 => (if t387 = true then (laws_FnWordsOfTriples.j1 kj9 l1 t362 t373 t374) else (some false))) = some r := by rw [if_pos rfl] at H; exact H
            clear H
            have H := H1
            clear H1
            replace H := Option.bind_eq_some_iff.mp H
            obtain ⟨t387, A350, H⟩ := H
            replace H : (if t387 = true then (laws_FnWordsOfTriples.j1 kj9 l1 t362 t373 t374) else (some false)) = some r := H
            have A35 := Aside0.mk A350
            clear A350
            by_cases c36 : t387 = true
            ·
             subst c36
             have H1 : (laws_FnWordsOfTriples.j1 kj9 l1 t362 t373 t374) = some r := by rw [if_pos rfl] at H; exact H
             clear H
             have H := H1
             clear H1
             have H' := Aside0.mk H
             clear H
             obtain ⟨Ao37, co37, eo37⟩ := Kd.R_slice HO_6.out
             subst eo37
             go_wp2_with (first | ((with_reducible refine gate_callee (f := 31) rfl ?_); refine gL (some 93) rfl rfl Try.func31 (by kernel_rfl) rfl #[.slice Ao37 t365.length co37] rfl ?_; (with_reducible refine (impl_BergWord.calls kj9 _ _ t365 t383 true _ ?side1 ?side2 A33.out).mono ?_); (case side1 => repeat (first | exact (Kd.R_reads' HO_6.out).2.2 | (with_reducible refine Kd.C_alloc ?_ _) | (with_reducible refine Kd.C_drewN ?_ _) | (with_reducible refine Kd.C_drew ?_))); (case side2 => exact (Kd.R_reads' HO_6.out).2.1); rintro e w38 ⟨v385, rfl, ho0, hb⟩; refine ⟨_, rfl, ?_⟩; have n0_ := Aside0.mk (Kd.R_elder' (by (with_reducible repeat (first | apply Kd.R_alloc | apply Kd.R_drewN | apply Kd.R_drew)); exact HO_5.out) (Kd.R_base ho0) hb); have n1_ := Aside0.mk (Kd.R_elder' (by (with_reducible repeat (first | apply Kd.R_alloc | apply Kd.R_drewN | apply Kd.R_drew)); exact HO_6.out) (Kd.R_base ho0) hb); have n2_ := Aside0.mk (Kd.R_elder' (by (with_reducible repeat (first | apply Kd.R_alloc | apply Kd.R_drewN | apply Kd.R_drew)); exact HO_10.out) (Kd.R_base ho0) hb); have n3_ := Aside0.mk (Kd.R_lower (Kd.R_new' (Kd.R_new' (Kd.R_new' ho0 (Kd.R_lt (by (with_reducible repeat (first | apply Kd.R_alloc | apply Kd.R_drewN | apply Kd.R_drew)); exact HO_5.out))) (Kd.R_lt (by (with_reducible repeat (first | apply Kd.R_alloc | apply Kd.R_drewN | apply Kd.R_drew)); exact HO_6.out))) (Kd.R_lt (by (with_reducible repeat (first | apply Kd.R_alloc | apply Kd.R_drewN | apply Kd.R_drew)); exact HO_10.out))) (below_size bq)); have n4_ := Aside0.mk (below_step bq hb); clear HO_5; clear HO_6; clear HO_10; clear HB; have HO_5 := n0_; have HO_6 := n1_; have HO_10 := n2_; have HO386 := n3_; have HB := n4_; clear n0_ n1_ n2_ n3_ n4_; (try clear hb); (try clear hb2); (try clear hk); (try clear hi); (try clear ho0); obtain ⟨Ao39, co39, eo39⟩ := Kd.R_slice HO386.out; subst eo39) | (go_at_call 11; (with_reducible refine (laws_vSame.calls kj9 _ _ t383 _ _ t362 true _ ?side1 ?side2 ?side3 ?side4 A35.out).mono ?_); (case side1 => repeat (first | exact (Kd.R_reads' HO386.out).2.2 | (with_reducible refine Kd.C_alloc ?_ _) | (with_reducible refine Kd.C_drewN ?_ _) | (with_reducible refine Kd.C_drew ?_))); (case side2 => exact (Kd.R_reads' HO386.out).2.1); (case side3 => repeat (first | exact (Kd.R_reads' HO_5.out).2.2 | (with_reducible refine Kd.C_alloc ?_ _) | (with_reducible refine Kd.C_drewN ?_ _) | (with_reducible refine Kd.C_drew ?_))); (case side4 => exact (Kd.R_reads' HO_5.out).2.1); rintro e w' ⟨rfl, ⟨nd, rfl⟩⟩))
             go_meet
             case rel => exact ⟨_, H', ⟨by have := HJ9.out; first | omega | exact Nat.le_refl _⟩, ⟨by (with_reducible repeat (first | apply Kd.R_alloc | apply Kd.R_drewN | apply Kd.R_drew)); exact Kd.R_mono HO_5.out (fun _ hk => hk.1.2)⟩, ⟨by (with_reducible repeat (first | apply Kd.R_alloc | apply Kd.R_drewN | apply Kd.R_drew)); exact Kd.R_mono HO_10.out (fun _ hk => hk.1.1)⟩, ⟨bq⟩⟩
            ·
             replace c36 := Bool.eq_false_iff.mpr c36
             subst c36
             have H1 : (some false) = some r := by rw [if_neg (show ¬ (false = true) by decide)] at H; exact H
             exact absurd (H1.trans (congrArg some hrT)) (by simp)
           ·
            replace c34 := Bool.eq_false_iff.mpr c34
            subst c34
            have H1 : (some false) = some r := by rw [if_neg (show ¬ (false = true) by decide)] at H; exact H
            exact absurd (H1.trans (congrArg some hrT)) (by simp)
          ·
           replace c32 := Bool.eq_false_iff.mpr c32
           subst c32
           have H1 : (laws_FnWordsOfTriples.j1 kj9 l1 t362 t373 t374) = some r := by rw [if_neg (show ¬ (false = true) by decide)] at H; exact H
           clear H
           have H := H1
           clear H1
           have H' := Aside0.mk H
           clear H
           go_wp2
           go_meet
           case rel => exact ⟨_, H', ⟨by have := HJ9.out; first | omega | exact Nat.le_refl _⟩, ⟨by (with_reducible repeat (first | apply Kd.R_alloc | apply Kd.R_drewN | apply Kd.R_drew)); exact Kd.R_mono HO_5.out (fun _ hk => hk.2)⟩, ⟨by (with_reducible repeat (first | apply Kd.R_alloc | apply Kd.R_drewN | apply Kd.R_drew)); exact Kd.R_mono HO_10.out (fun _ hk => hk.1)⟩, ⟨bq⟩⟩
        case rest =>
         as_aux_lemma =>
          clear HC31; (try clear c1); (try clear c2); (try clear p2); (try clear c3); (try clear c4); (try clear c5); (try clear c7); (try clear c17); (try clear c17b0); (try clear c17b1); (try clear c17b2); (try clear c19); (try clear c20); (try clear c20b0); (try clear c20b1); (try clear c20b2); (try clear c30); (try clear c31); (try clear c32); (try clear c34); (try clear c35); (try clear c36); (try clear c37); (try clear c38); (try clear p2)
          obtain ⟨kq, HA, HJ30, HO_5, HO_10, HB⟩ := hcut
          cases kq with
          | zero => exact absurd HA.out (by simp [laws_FnWordsOfTriples.j1])
          | succ kj30 =>
           have H := HA.out
           clear HA
           simp only [laws_FnWordsOfTriples.j1] at H
           have HC45 := Aside0.mk H
           clear H
           go_upto_if 104 with (fail)
           go_cut [] (fun wc => ∃ (kq : Nat), Aside0 (laws_FnWordsOfTriples.j2 kq l1 = some r) ∧ Aside0 (kq ≤ kj30) ∧ Aside0 (Below w.heap.size w wc))
           case first =>
            as_aux_lemma =>
             have H := HC45.out
             clear HC45
             by_cases c46 : t374 = true
             ·
              subst c46
              have H1 : ((impl_PriceWord.f kj30 t373).bind fun bt388 => (if bt388.2 = true then ((laws_vSame.f kj30 bt388.1 t362).bind fun t392 => (if t392 = true then (laws_FnWordsOfTriples.j2 kj30 l1) else (some false))) else (some false))) = some r := by rw [if_pos rfl] at H; exact H
              clear H
              have H := H1
              clear H1
              replace H := Option.bind_eq_some_iff.mp H
              obtain ⟨⟨t388, t389⟩, A470, H⟩ := H
              replace H : (if t389 = true then ((laws_vSame.f kj30 t388 t362).bind fun t392 => (if t392 = true then (laws_FnWordsOfTriples.j2 kj30 l1) else (some false))) else (some false)) = some r := H
              have A47 := Aside0.mk A470
              clear A470
              by_cases c48 : t389 = true
              ·
               subst c48
               have H1 : ((laws_vSame.f kj30 t388 t362).bind fun t392 => (if t392 = true then (laws_FnWordsOfTriples.j2 kj30 l1) else (some false))) = some r := by rw [if_pos rfl] at H; exact H
               clear H
               have H := H1
               clear H1
               replace H := Option.bind_eq_some_iff.mp H
               obtain ⟨t392, A490, H⟩ := H
               replace H : (if t392 = true then (laws_FnWordsOfTriples.j2 kj30 l1) else (some false)) = some r := H
               have A49 := Aside0.mk A490
               clear A490
               by_cases c50 : t392 = true
               ·
                subst c50
                have H1 : (laws_FnWordsOfTriples.j2 kj30 l1) = some r := by rw [if_pos rfl] at H; exact H
                clear H
                have H := H1
                clear H1
                have H' := Aside0.mk H
                clear H
                obtain ⟨Ao51, co51, eo51⟩ := Kd.R_slice HO_10.out
                subst eo51
                go_wp2_with (first | ((with_reducible refine gate_callee (f := 39) rfl ?_); refine gL (some 107) rfl rfl Try.func39 (by kernel_rfl) rfl #[.slice Ao51 t373.length co51] rfl ?_; (with_reducible refine (impl_PriceWord.calls kj30 _ _ t373 t388 true _ ?side1 ?side2 A47.out).mono ?_); (case side1 => repeat (first | exact (Kd.R_reads' HO_10.out).2.2 | (with_reducible refine Kd.C_alloc ?_ _) | (with_reducible refine Kd.C_drewN ?_ _) | (with_reducible refine Kd.C_drew ?_))); (case side2 => exact (Kd.R_reads' HO_10.out).2.1); rintro e w52 ⟨v390, rfl, ho0, hb⟩; refine ⟨_, rfl, ?_⟩; have n0_ := Aside0.mk (Kd.R_elder' (by (with_reducible repeat (first | apply Kd.R_alloc | apply Kd.R_drewN | apply Kd.R_drew)); exact HO_5.out) (Kd.R_base ho0) hb); have n1_ := Aside0.mk (Kd.R_elder' (by (with_reducible repeat (first | apply Kd.R_alloc | apply Kd.R_drewN | apply Kd.R_drew)); exact HO_10.out) (Kd.R_base ho0) hb); have n2_ := Aside0.mk (Kd.R_lower (Kd.R_new' (Kd.R_new' ho0 (Kd.R_lt (by (with_reducible repeat (first | apply Kd.R_alloc | apply Kd.R_drewN | apply Kd.R_drew)); exact HO_5.out))) (Kd.R_lt (by (with_reducible repeat (first | apply Kd.R_alloc | apply Kd.R_drewN | apply Kd.R_drew)); exact HO_10.out))) (below_size bq)); have n3_ := Aside0.mk (below_step bq hb); clear HO_5; clear HO_10; clear HB; have HO_5 := n0_; have HO_10 := n1_; have HO391 := n2_; have HB := n3_; clear n0_ n1_ n2_ n3_; (try clear hb); (try clear hb2); (try clear hk); (try clear hi); (try clear ho0); obtain ⟨Ao53, co53, eo53⟩ := Kd.R_slice HO391.out; subst eo53) | (go_at_call 11; (with_reducible refine (laws_vSame.calls kj30 _ _ t388 _ _ t362 true _ ?side1 ?side2 ?side3 ?side4 A49.out).mono ?_); (case side1 => repeat (first | exact (Kd.R_reads' HO391.out).2.2 | (with_reducible refine Kd.C_alloc ?_ _) | (with_reducible refine Kd.C_drewN ?_ _) | (with_reducible refine Kd.C_drew ?_))); (case side2 => exact (Kd.R_reads' HO391.out).2.1); (case side3 => repeat (first | exact (Kd.R_reads' HO_5.out).2.2 | (with_reducible refine Kd.C_alloc ?_ _) | (with_reducible refine Kd.C_drewN ?_ _) | (with_reducible refine Kd.C_drew ?_))); (case side4 => exact (Kd.R_reads' HO_5.out).2.1); rintro e w' ⟨rfl, ⟨nd, rfl⟩⟩))
                go_meet
                case rel => exact ⟨_, H', ⟨by have := HJ9.out; have := HJ30.out; first | omega | exact Nat.le_refl _⟩, ⟨bq⟩⟩
               ·
                replace c50 := Bool.eq_false_iff.mpr c50
                subst c50
                have H1 : (some false) = some r := by rw [if_neg (show ¬ (false = true) by decide)] at H; exact H
                exact absurd (H1.trans (congrArg some hrT)) (by simp)
              ·
               replace c48 := Bool.eq_false_iff.mpr c48
               subst c48
               have H1 : (some false) = some r := by rw [if_neg (show ¬ (false = true) by decide)] at H; exact H
               exact absurd (H1.trans (congrArg some hrT)) (by simp)
             ·
              replace c46 := Bool.eq_false_iff.mpr c46
              subst c46
              have H1 : (laws_FnWordsOfTriples.j2 kj30 l1) = some r := by rw [if_neg (show ¬ (false = true) by decide)] at H; exact H
              clear H
              have H := H1
              clear H1
              have H' := Aside0.mk H
              clear H
              go_wp2
              go_meet
              case rel => exact ⟨_, H', ⟨by have := HJ9.out; have := HJ30.out; first | omega | exact Nat.le_refl _⟩, ⟨bq⟩⟩
           case rest =>
            as_aux_lemma =>
             clear HC45; (try clear c1); (try clear c2); (try clear p2); (try clear c3); (try clear c4); (try clear c5); (try clear c7); (try clear c17); (try clear c17b0); (try clear c17b1); (try clear c17b2); (try clear c19); (try clear c20); (try clear c20b0); (try clear c20b1); (try clear c20b2); (try clear c30); (try clear c31); (try clear c32); (try clear c34); (try clear c35); (try clear c36); (try clear c37); (try clear c38); (try clear c39); (try clear c46); (try clear c48); (try clear c50); (try clear p2)
             obtain ⟨kq, HA, HJ44, HB⟩ := hcut
             cases kq with
             | zero => exact absurd HA.out (by simp [laws_FnWordsOfTriples.j2])
             | succ kj44 =>
              have H := HA.out
              clear HA
              simp only [laws_FnWordsOfTriples.j2] at H
              replace H := Option.bind_eq_some_iff.mp H
              obtain ⟨t393, A590, H⟩ := H
              replace H : ((impl_PriceWord.f kj44 t393).bind fun bt396 => ((spec_PriceWord.f kj44 t393).bind fun bt400 => ((impl_BergWord.f kj44 t393).bind fun bt404 => ((spec_BergWord.f kj44 t393).bind fun bt408 => (if (bt396.2 != bt400.2) = true then (laws_FnWordsOfTriples.j3 kj44 l1 t393 bt396.1 bt396.2 bt404.1 true) else ((laws_vSame.f kj44 bt396.1 bt400.1).bind fun t412 => (if t412 = true then (if (bt404.2 != bt408.2) = true then (laws_FnWordsOfTriples.j3 kj44 l1 t393 bt396.1 bt396.2 bt404.1 true) else ((laws_vSame.f kj44 bt404.1 bt408.1).bind fun t413 => (if t413 = true then ((impl_IsRight.f kj44 t393).bind fun t414 => (if (bt396.2 != t414) = true then (laws_FnWordsOfTriples.j3 kj44 l1 t393 bt396.1 bt396.2 bt404.1 true) else (laws_FnWordsOfTriples.j3 kj44 l1 t393 bt396.1 bt396.2 bt404.1 (bt404.2 != bt396.2)))) else (laws_FnWordsOfTriples.j3 kj44 l1 t393 bt396.1 bt396.2 bt404.1 true)))) else (laws_FnWordsOfTriples.j3 kj44 l1 t393 bt396.1 bt396.2 bt404.1 true)))))))) = some r := H
              have A59 := Aside0.mk A590
              clear A590
              replace H := Option.bind_eq_some_iff.mp H
              obtain ⟨⟨t396, t397⟩, A600, H⟩ := H
              replace H : ((spec_PriceWord.f kj44 t393).bind fun bt400 => ((impl_BergWord.f kj44 t393).bind fun bt404 => ((spec_BergWord.f kj44 t393).bind fun bt408 => (if (t397 != bt400.2) = true then (laws_FnWordsOfTriples.j3 kj44 l1 t393 t396 t397 bt404.1 true) else ((laws_vSame.f kj44 t396 bt400.1).bind fun t412 => (if t412 = true then (if (bt404.2 != bt408.2) = true then (laws_FnWordsOfTriples.j3 kj44 l1 t393 t396 t397 bt404.1 true) else ((laws_vSame.f kj44 bt404.1 bt408.1).bind fun t413 => (if t413 = true then ((impl_IsRight.f kj44 t393).bind fun t414 => (if (t397 != t414) = true then (laws_FnWordsOfTriples.j3 kj44 l1 t393 t396 t397 bt404.1 true) else (laws_FnWordsOfTriples.j3 kj44 l1 t393 t396 t397 bt404.1 (bt404.2 != t397)))) else (laws_FnWordsOfTriples.j3 kj44 l1 t393 t396 t397 bt404.1 true)))) else (laws_FnWordsOfTriples.j3 kj44 l1 t393 t396 t397 bt404.1 true))))))) = some r := H
              have A60 := Aside0.mk A600
              clear A600
              replace H := Option.bind_eq_some_iff.mp H
              obtain ⟨⟨t400, t401⟩, A610, H⟩ := H
              replace H : ((impl_BergWord.f kj44 t393).bind fun bt404 => ((spec_BergWord.f kj44 t393).bind fun bt408 => (if (t397 != t401) = true then (laws_FnWordsOfTriples.j3 kj44 l1 t393 t396 t397 bt404.1 true) else ((laws_vSame.f kj44 t396 t400).bind fun t412 => (if t412 = true then (if (bt404.2 != bt408.2) = true then (laws_FnWordsOfTriples.j3 kj44 l1 t393 t396 t397 bt404.1 true) else ((laws_vSame.f kj44 bt404.1 bt408.1).bind fun t413 => (if t413 = true then ((impl_IsRight.f kj44 t393).bind fun t414 => (if (t397 != t414) = true then (laws_FnWordsOfTriples.j3 kj44 l1 t393 t396 t397 bt404.1 true) else (laws_FnWordsOfTriples.j3 kj44 l1 t393 t396 t397 bt404.1 (bt404.2 != t397)))) else (laws_FnWordsOfTriples.j3 kj44 l1 t393 t396 t397 bt404.1 true)))) else (laws_FnWordsOfTriples.j3 kj44 l1 t393 t396 t397 bt404.1 true)))))) = some r := H
              have A61 := Aside0.mk A610
              clear A610
              replace H := Option.bind_eq_some_iff.mp H
              obtain ⟨⟨t404, t405⟩, A620, H⟩ := H
              replace H : ((spec_BergWord.f kj44 t393).bind fun bt408 => (if (t397 != t401) = true then (laws_FnWordsOfTriples.j3 kj44 l1 t393 t396 t397 t404 true) else ((laws_vSame.f kj44 t396 t400).bind fun t412 => (if t412 = true then (if (t405 != bt408.2) = true then (laws_FnWordsOfTriples.j3 kj44 l1 t393 t396 t397 t404 true) else ((laws_vSame.f kj44 t404 bt408.1).bind fun t413 => (if t413 = true then ((impl_IsRight.f kj44 t393).bind fun t414 => (if (t397 != t414) = true then (laws_FnWordsOfTriples.j3 kj44 l1 t393 t396 t397 t404 true) else (laws_FnWordsOfTriples.j3 kj44 l1 t393 t396 t397 t404 (t405 != t397)))) else (laws_FnWordsOfTriples.j3 kj44 l1 t393 t396 t397 t404 true)))) else (laws_FnWordsOfTriples.j3 kj44 l1 t393 t396 t397 t404 true))))) = some r := H
              have A62 := Aside0.mk A620
              clear A620
              replace H := Option.bind_eq_some_iff.mp H
              obtain ⟨⟨t408, t409⟩, A630, H⟩ := H
              replace H : (if (t397 != t401) = true then (laws_FnWordsOfTriples.j3 kj44 l1 t393 t396 t397 t404 true) else ((laws_vSame.f kj44 t396 t400).bind fun t412 => (if t412 = true then (if (t405 != t409) = true then (laws_FnWordsOfTriples.j3 kj44 l1 t393 t396 t397 t404 true) else ((laws_vSame.f kj44 t404 t408).bind fun t413 => (if t413 = true then ((impl_IsRight.f kj44 t393).bind fun t414 => (if (t397 != t414) = true then (laws_FnWordsOfTriples.j3 kj44 l1 t393 t396 t397 t404 true) else (laws_FnWordsOfTriples.j3 kj44 l1 t393 t396 t397 t404 (t405 != t397)))) else (laws_FnWordsOfTriples.j3 kj44 l1 t393 t396 t397 t404 true)))) else (laws_FnWordsOfTriples.j3 kj44 l1 t393 t396 t397 t404 true)))) = some r := H
              have A63 := Aside0.mk A630
              clear A630
              have HC64 := Aside0.mk H
              clear H
              go_upto_region 23 with (first | ((with_reducible refine gate_callee (f := 40) rfl ?_); refine gL (some 119) rfl rfl Try.func40 (by kernel_rfl) rfl #[.slice A1 l1.length c1] rfl ?_; (with_reducible refine (spec_DrawPriceWord.calls kj44 _ _ l1 t393 _ ?side1 ?side2 A59.out).mono ?_); (case side1 => repeat (first | exact (Kd.C_below HR1.out HB.out) | (with_reducible refine Kd.C_alloc ?_ _) | (with_reducible refine Kd.C_drewN ?_ _) | (with_reducible refine Kd.C_drew ?_))); (case side2 => exact HC1.out); rintro e w65 ⟨v394, rfl, ho0, hb⟩; refine ⟨_, rfl, ?_⟩; have n0_ := Aside0.mk (Kd.R_lower ho0 (below_size bq)); have n1_ := Aside0.mk (below_step bq hb); clear HB; have HO395 := n0_; have HB := n1_; clear n0_ n1_; (try clear hb); (try clear hb2); (try clear hk); (try clear hi); (try clear ho0); obtain ⟨Ao66, co66, eo66⟩ := Kd.R_slice HO395.out; subst eo66) | ((with_reducible refine gate_callee (f := 39) rfl ?_); refine gL (some 122) rfl rfl Try.func39 (by kernel_rfl) rfl #[.slice Ao66 t393.length co66] rfl ?_; (with_reducible refine (impl_PriceWord.calls kj44 _ _ t393 t396 t397 _ ?side1 ?side2 A60.out).mono ?_); (case side1 => repeat (first | exact (Kd.R_reads' HO395.out).2.2 | (with_reducible refine Kd.C_alloc ?_ _) | (with_reducible refine Kd.C_drewN ?_ _) | (with_reducible refine Kd.C_drew ?_))); (case side2 => exact (Kd.R_reads' HO395.out).2.1); rintro e w67 ⟨v398, rfl, ho0, hb⟩; refine ⟨_, rfl, ?_⟩; have n0_ := Aside0.mk (Kd.R_elder' (by (with_reducible repeat (first | apply Kd.R_alloc | apply Kd.R_drewN | apply Kd.R_drew)); exact HO395.out) (Kd.R_base ho0) hb); have n1_ := Aside0.mk (Kd.R_lower (Kd.R_new' ho0 (Kd.R_lt (by (with_reducible repeat (first | apply Kd.R_alloc | apply Kd.R_drewN | apply Kd.R_drew)); exact HO395.out))) (below_size bq)); have n2_ := Aside0.mk (below_step bq hb); clear HO395; clear HB; have HO395 := n0_; have HO399 := n1_; have HB := n2_; clear n0_ n1_ n2_; (try clear hb); (try clear hb2); (try clear hk); (try clear hi); (try clear ho0)) | ((with_reducible refine gate_callee (f := 41) rfl ?_); refine gL (some 127) rfl rfl Try.func41 (by kernel_rfl) rfl #[.slice Ao66 t393.length co66] rfl ?_; (with_reducible refine (spec_PriceWord.calls kj44 _ _ t393 t400 t401 _ ?side1 ?side2 A61.out).mono ?_); (case side1 => repeat (first | exact (Kd.R_reads' HO395.out).2.2 | (with_reducible refine Kd.C_alloc ?_ _) | (with_reducible refine Kd.C_drewN ?_ _) | (with_reducible refine Kd.C_drew ?_))); (case side2 => exact (Kd.R_reads' HO395.out).2.1); rintro e w68 ⟨v402, rfl, ho0, hb⟩; refine ⟨_, rfl, ?_⟩; have n0_ := Aside0.mk (Kd.R_elder' (by (with_reducible repeat (first | apply Kd.R_alloc | apply Kd.R_drewN | apply Kd.R_drew)); exact HO395.out) (Kd.R_base ho0) hb); have n1_ := Aside0.mk (Kd.R_elder' (by (with_reducible repeat (first | apply Kd.R_alloc | apply Kd.R_drewN | apply Kd.R_drew)); exact HO399.out) (Kd.R_base ho0) hb); have n2_ := Aside0.mk (Kd.R_lower (Kd.R_new' (Kd.R_new' ho0 (Kd.R_lt (by (with_reducible repeat (first | apply Kd.R_alloc | apply Kd.R_drewN | apply Kd.R_drew)); exact HO395.out))) (Kd.R_lt (by (with_reducible repeat (first | apply Kd.R_alloc | apply Kd.R_drewN | apply Kd.R_drew)); exact HO399.out))) (below_size bq)); have n3_ := Aside0.mk (below_step bq hb); clear HO395; clear HO399; clear HB; have HO395 := n0_; have HO399 := n1_; have HO403 := n2_; have HB := n3_; clear n0_ n1_ n2_ n3_; (try clear hb); (try clear hb2); (try clear hk); (try clear hi); (try clear ho0)) | ((with_reducible refine gate_callee (f := 31) rfl ?_); refine gL (some 132) rfl rfl Try.func31 (by kernel_rfl) rfl #[.slice Ao66 t393.length co66] rfl ?_; (with_reducible refine (impl_BergWord.calls kj44 _ _ t393 t404 t405 _ ?side1 ?side2 A62.out).mono ?_); (case side1 => repeat (first | exact (Kd.R_reads' HO395.out).2.2 | (with_reducible refine Kd.C_alloc ?_ _) | (with_reducible refine Kd.C_drewN ?_ _) | (with_reducible refine Kd.C_drew ?_))); (case side2 => exact (Kd.R_reads' HO395.out).2.1); rintro e w69 ⟨v406, rfl, ho0, hb⟩; refine ⟨_, rfl, ?_⟩; have n0_ := Aside0.mk (Kd.R_elder' (by (with_reducible repeat (first | apply Kd.R_alloc | apply Kd.R_drewN | apply Kd.R_drew)); exact HO395.out) (Kd.R_base ho0) hb); have n1_ := Aside0.mk (Kd.R_elder' (by (with_reducible repeat (first | apply Kd.R_alloc | apply Kd.R_drewN | apply Kd.R_drew)); exact HO399.out) (Kd.R_base ho0) hb); have n2_ := Aside0.mk (Kd.R_elder' (by (with_reducible repeat (first | apply Kd.R_alloc | apply Kd.R_drewN | apply Kd.R_drew)); exact HO403.out) (Kd.R_base ho0) hb); have n3_ := Aside0.mk (Kd.R_lower (Kd.R_new' (Kd.R_new' (Kd.R_new' ho0 (Kd.R_lt (by (with_reducible repeat (first | apply Kd.R_alloc | apply Kd.R_drewN | apply Kd.R_drew)); exact HO395.out))) (Kd.R_lt (by (with_reducible repeat (first | apply Kd.R_alloc | apply Kd.R_drewN | apply Kd.R_drew)); exact HO399.out))) (Kd.R_lt (by (with_reducible repeat (first | apply Kd.R_alloc | apply Kd.R_drewN | apply Kd.R_drew)); exact HO403.out))) (below_size bq)); have n4_ := Aside0.mk (below_step bq hb); clear HO395; clear HO399; clear HO403; clear HB; have HO395 := n0_; have HO399 := n1_; have HO403 := n2_; have HO407 := n3_; have HB := n4_; clear n0_ n1_ n2_ n3_ n4_; (try clear hb); (try clear hb2); (try clear hk); (try clear hi); (try clear ho0)) | ((with_reducible refine gate_callee (f := 42) rfl ?_); refine gL (some 137) rfl rfl Try.func42 (by kernel_rfl) rfl #[.slice Ao66 t393.length co66] rfl ?_; (with_reducible refine (spec_BergWord.calls kj44 _ _ t393 t408 t409 _ ?side1 ?side2 A63.out).mono ?_); (case side1 => repeat (first | exact (Kd.R_reads' HO395.out).2.2 | (with_reducible refine Kd.C_alloc ?_ _) | (with_reducible refine Kd.C_drewN ?_ _) | (with_reducible refine Kd.C_drew ?_))); (case side2 => exact (Kd.R_reads' HO395.out).2.1); rintro e w70 ⟨v410, rfl, ho0, hb⟩; refine ⟨_, rfl, ?_⟩; have n0_ := Aside0.mk (Kd.R_elder' (by (with_reducible repeat (first | apply Kd.R_alloc | apply Kd.R_drewN | apply Kd.R_drew)); exact HO395.out) (Kd.R_base ho0) hb); have n1_ := Aside0.mk (Kd.R_elder' (by (with_reducible repeat (first | apply Kd.R_alloc | apply Kd.R_drewN | apply Kd.R_drew)); exact HO399.out) (Kd.R_base ho0) hb); have n2_ := Aside0.mk (Kd.R_elder' (by (with_reducible repeat (first | apply Kd.R_alloc | apply Kd.R_drewN | apply Kd.R_drew)); exact HO403.out) (Kd.R_base ho0) hb); have n3_ := Aside0.mk (Kd.R_elder' (by (with_reducible repeat (first | apply Kd.R_alloc | apply Kd.R_drewN | apply Kd.R_drew)); exact HO407.out) (Kd.R_base ho0) hb); have n4_ := Aside0.mk (Kd.R_lower (Kd.R_new' (Kd.R_new' (Kd.R_new' (Kd.R_new' ho0 (Kd.R_lt (by (with_reducible repeat (first | apply Kd.R_alloc | apply Kd.R_drewN | apply Kd.R_drew)); exact HO395.out))) (Kd.R_lt (by (with_reducible repeat (first | apply Kd.R_alloc | apply Kd.R_drewN | apply Kd.R_drew)); exact HO399.out))) (Kd.R_lt (by (with_reducible repeat (first | apply Kd.R_alloc | apply Kd.R_drewN | apply Kd.R_drew)); exact HO403.out))) (Kd.R_lt (by (with_reducible repeat (first | apply Kd.R_alloc | apply Kd.R_drewN | apply Kd.R_drew)); exact HO407.out))) (below_size bq)); have n5_ := Aside0.mk (below_step bq hb); clear HO395; clear HO399; clear HO403; clear HO407; clear HB; have HO395 := n0_; have HO399 := n1_; have HO403 := n2_; have HO407 := n3_; have HO411 := n4_; have HB := n5_; clear n0_ n1_ n2_ n3_ n4_ n5_; (try clear hb); (try clear hb2); (try clear hk); (try clear hi); (try clear ho0)))
              (try simp only [Act.put, List.setIfInBounds_toArray, List.set_cons_zero, List.set_cons_succ])
              go_cut [170] (fun v170 wc => ∃ (kq : Nat) (x170_63 : Bool), v170 = .bool x170_63 ∧ Aside0 (laws_FnWordsOfTriples.j3 kq l1 t393 t396 t397 t404 x170_63 = some r) ∧ Aside0 (kq ≤ kj44) ∧ Aside0 (Kd.R (Kd.int .i64) 3 wc w.heap.size (fun k_ => some k_ ≠ (v398 : Value).ownBlock ∧ some k_ ≠ (v406 : Value).ownBlock) (.slice Ao66 t393.length co66) t393) ∧ Aside0 (Kd.R (Kd.int .i64) 3 wc w.heap.size (fun k_ => some k_ ≠ ((.slice Ao66 t393.length co66) : Value).ownBlock ∧ some k_ ≠ (v406 : Value).ownBlock) v398 t396) ∧ Aside0 (Kd.R (Kd.int .i64) 3 wc w.heap.size (fun k_ => some k_ ≠ ((.slice Ao66 t393.length co66) : Value).ownBlock ∧ some k_ ≠ (v398 : Value).ownBlock) v406 t404) ∧ Aside0 (Below w.heap.size w wc))
              case first =>
               as_aux_lemma =>
                have H := HC64.out
                clear HC64
                by_cases c71 : (t397 != t401) = true
                ·
                 rw [if_pos c71] at H
                 exact absurd (H.trans (congrArg some hrT)) (fun h_ => laws_FnWordsOfTriples.j3_no h_)
                ·
                 rw [if_neg c71] at H
                 have c71b0 : (t397 != t401) = false := by simpa using c71
                 (try (have c71b1 : decide (t397 = t401) = true := by simpa using c71))
                 (try (have c71b2 : (t397 == t401) = true := by simpa using c71))
                 clear c71
                 (first | rw [c71b0] | (simp only [i64_w, i32_w]; rw [c71b0]) | skip)
                 replace H := Option.bind_eq_some_iff.mp H
                 obtain ⟨t412, A720, H⟩ := H
                 replace H : (if t412 = true then (if (t405 != t409) = true then (laws_FnWordsOfTriples.j3 kj44 l1 t393 t396 t397 t404 true) else ((laws_vSame.f kj44 t404 t408).bind fun t413 => (if t413 = true then ((impl_IsRight.f kj44 t393).bind fun t414 => (if (t397 != t414) = true then (laws_FnWordsOfTriples.j3 kj44 l1 t393 t396 t397 t404 true) else (laws_FnWordsOfTriples.j3 kj44 l1 t393 t396 t397 t404 (t405 != t397)))) else (laws_FnWordsOfTriples.j3 kj44 l1 t393 t396 t397 t404 true)))) else (laws_FnWordsOfTriples.j3 kj44 l1 t393 t396 t397 t404 true)) = some r := H
                 have A72 := Aside0.mk A720
                 clear A720
                 by_cases c73 : t412 = true
                 ·
                  subst c73
                  have H1 : (if (t405 != t409) = true then (laws_FnWordsOfTriples.j3 kj44 l1 t393 t396 t397 t404 true) else ((laws_vSame.f kj44 t404 t408).bind fun t413 => (if t413 = true then ((impl_IsRight.f kj44 t393).bind fun t414 => (if (t397 != t414) = true then (laws_FnWordsOfTriples.j3 kj44 l1 t393 t396 t397 t404 true) else (laws_FnWordsOfTriples.j3 kj44 l1 t393 t396 t397 t404 (t405 != t397)))) else (laws_FnWordsOfTriples.j3 kj44 l1 t393 t396 t397 t404 true)))) = some r := by rw [if_pos rfl] at H; exact H
                  clear H
                  have H := H1
                  clear H1
                  by_cases c74 : (t405 != t409) = true
                  ·
                   rw [if_pos c74] at H
                   exact absurd (H.trans (congrArg some hrT)) (fun h_ => laws_FnWordsOfTriples.j3_no h_)
                  ·
                   rw [if_neg c74] at H
                   have c74b0 : (t405 != t409) = false := by simpa using c74
                   (try (have c74b1 : decide (t405 = t409) = true := by simpa using c74))
                   (try (have c74b2 : (t405 == t409) = true := by simpa using c74))
                   clear c74
                   replace H := Option.bind_eq_some_iff.mp H
                   obtain ⟨t413, A770, H⟩ := H
                   replace H : (if t413 = true then ((impl_IsRight.f kj44 t393).bind fun t414 => (if (t397 != t414) = true then (laws_FnWordsOfTriples.j3 kj44 l1 t393 t396 t397 t404 true) else (laws_FnWordsOfTriples.j3 kj44 l1 t393 t396 t397 t404 (t405 != t397)))) else (laws_FnWordsOfTriples.j3 kj44 l1 t393 t396 t397 t404 true)) = some r := H
                   have A77 := Aside0.mk A770
                   clear A770
                   by_cases c78 : t413 = true
                   ·
                    subst c78
                    have H1 : ((impl_IsRight.f kj44 t393).bind fun t414 => (if (t397 != t414) = true then (laws_FnWordsOfTriples.j3 kj44 l1 t393 t396 t397 t404 true) else (laws_FnWordsOfTriples.j3 kj44 l1 t393 t396 t397 t404 (t405 != t397)))) = some r := by rw [if_pos rfl] at H; exact H
                    clear H
                    have H := H1
                    clear H1
                    replace H := Option.bind_eq_some_iff.mp H
                    obtain ⟨t414, A790, H⟩ := H
                    replace H : (if (t397 != t414) = true then (laws_FnWordsOfTriples.j3 kj44 l1 t393 t396 t397 t404 true) else (laws_FnWordsOfTriples.j3 kj44 l1 t393 t396 t397 t404 (t405 != t397))) = some r := H
                    have A79 := Aside0.mk A790
                    clear A790
                    by_cases c80 : (t397 != t414) = true
                    ·
                     rw [if_pos c80] at H
                     exact absurd (H.trans (congrArg some hrT)) (fun h_ => laws_FnWordsOfTriples.j3_no h_)
                    ·
                     rw [if_neg c80] at H
                     have c80b0 : (t397 != t414) = false := by simpa using c80
                     (try (have c80b1 : decide (t397 = t414) = true := by simpa using c80))
                     (try (have c80b2 : (t397 == t414) = true := by simpa using c80))
                     clear c80
                     have H' := Aside0.mk H
                     clear H
                     obtain ⟨Ao86, co86, eo86⟩ := Kd.R_slice HO399.out
                     subst eo86
                     obtain ⟨Ao87, co87, eo87⟩ := Kd.R_slice HO403.out
                     subst eo87
                     go_wp2_with (first | (go_at_call 11; (with_reducible refine (laws_vSame.calls kj44 _ _ t396 _ _ t400 true _ ?side1 ?side2 ?side3 ?side4 A72.out).mono ?_); (case side1 => repeat (first | exact (Kd.R_reads' HO399.out).2.2 | (with_reducible refine Kd.C_alloc ?_ _) | (with_reducible refine Kd.C_drewN ?_ _) | (with_reducible refine Kd.C_drew ?_))); (case side2 => exact (Kd.R_reads' HO399.out).2.1); (case side3 => repeat (first | exact (Kd.R_reads' HO403.out).2.2 | (with_reducible refine Kd.C_alloc ?_ _) | (with_reducible refine Kd.C_drewN ?_ _) | (with_reducible refine Kd.C_drew ?_))); (case side4 => exact (Kd.R_reads' HO403.out).2.1); rintro e w' ⟨rfl, ⟨nd, rfl⟩⟩; obtain ⟨Ao88, co88, eo88⟩ := Kd.R_slice HO407.out; subst eo88; obtain ⟨Ao89, co89, eo89⟩ := Kd.R_slice HO411.out; subst eo89) | (go_at_call 11; (with_reducible refine (laws_vSame.calls kj44 _ _ t404 _ _ t408 true _ ?side1 ?side2 ?side3 ?side4 A77.out).mono ?_); (case side1 => repeat (first | exact (Kd.R_reads' HO407.out).2.2 | (with_reducible refine Kd.C_alloc ?_ _) | (with_reducible refine Kd.C_drewN ?_ _) | (with_reducible refine Kd.C_drew ?_))); (case side2 => exact (Kd.R_reads' HO407.out).2.1); (case side3 => repeat (first | exact (Kd.R_reads' HO411.out).2.2 | (with_reducible refine Kd.C_alloc ?_ _) | (with_reducible refine Kd.C_drewN ?_ _) | (with_reducible refine Kd.C_drew ?_))); (case side4 => exact (Kd.R_reads' HO411.out).2.1); rintro e w' ⟨rfl, ⟨nd, rfl⟩⟩) | (go_at_call 21; (with_reducible refine (impl_IsRight.calls kj44 _ _ t393 t414 _ ?side1 ?side2 A79.out).mono ?_); (case side1 => repeat (first | exact (Kd.R_reads' HO395.out).2.2 | (with_reducible refine Kd.C_alloc ?_ _) | (with_reducible refine Kd.C_drewN ?_ _) | (with_reducible refine Kd.C_drew ?_))); (case side2 => exact (Kd.R_reads' HO395.out).2.1); rintro e w90 ⟨rfl, hb⟩; have n0_ := Aside0.mk (Kd.R_below (by (with_reducible repeat (first | apply Kd.R_alloc | apply Kd.R_drewN | apply Kd.R_drew)); exact HO395.out) hb); have n1_ := Aside0.mk (Kd.R_below (by (with_reducible repeat (first | apply Kd.R_alloc | apply Kd.R_drewN | apply Kd.R_drew)); exact HO399.out) hb); have n2_ := Aside0.mk (Kd.R_below (by (with_reducible repeat (first | apply Kd.R_alloc | apply Kd.R_drewN | apply Kd.R_drew)); exact HO403.out) hb); have n3_ := Aside0.mk (Kd.R_below (by (with_reducible repeat (first | apply Kd.R_alloc | apply Kd.R_drewN | apply Kd.R_drew)); exact HO407.out) hb); have n4_ := Aside0.mk (Kd.R_below (by (with_reducible repeat (first | apply Kd.R_alloc | apply Kd.R_drewN | apply Kd.R_drew)); exact HO411.out) hb); have n5_ := Aside0.mk (below_step bq hb); clear HO395; clear HO399; clear HO403; clear HO407; clear HO411; clear HB; have HO395 := n0_; have HO399 := n1_; have HO403 := n2_; have HO407 := n3_; have HO411 := n4_; have HB := n5_; clear n0_ n1_ n2_ n3_ n4_ n5_; (try clear hb); (try clear hb2); (try clear hk); (try clear hi)))
                     go_meet
                     case rel => exact ⟨_, ((t405 != t397)), e2, H', ⟨by have := HJ9.out; have := HJ30.out; have := HJ44.out; first | omega | exact Nat.le_refl _⟩, ⟨by (with_reducible repeat (first | apply Kd.R_alloc | apply Kd.R_drewN | apply Kd.R_drew)); exact Kd.R_mono HO395.out (fun _ hk => ⟨hk.1.1.1.2, hk.1.2⟩)⟩, ⟨by (with_reducible repeat (first | apply Kd.R_alloc | apply Kd.R_drewN | apply Kd.R_drew)); exact Kd.R_mono HO399.out (fun _ hk => ⟨hk.1.1.1.2, hk.1.2⟩)⟩, ⟨by (with_reducible repeat (first | apply Kd.R_alloc | apply Kd.R_drewN | apply Kd.R_drew)); exact Kd.R_mono HO407.out (fun _ hk => ⟨hk.1.1.1.2, hk.1.1.2⟩)⟩, ⟨bq⟩⟩
                   ·
                    replace c78 := Bool.eq_false_iff.mpr c78
                    subst c78
                    have H1 : (laws_FnWordsOfTriples.j3 kj44 l1 t393 t396 t397 t404 true) = some r := by rw [if_neg (show ¬ (false = true) by decide)] at H; exact H
                    exact absurd (H1.trans (congrArg some hrT)) (fun h_ => laws_FnWordsOfTriples.j3_no h_)
                 ·
                  replace c73 := Bool.eq_false_iff.mpr c73
                  subst c73
                  have H1 : (laws_FnWordsOfTriples.j3 kj44 l1 t393 t396 t397 t404 true) = some r := by rw [if_neg (show ¬ (false = true) by decide)] at H; exact H
                  exact absurd (H1.trans (congrArg some hrT)) (fun h_ => laws_FnWordsOfTriples.j3_no h_)
              case rest =>
               as_aux_lemma =>
                clear HC64; (try clear c1); (try clear c2); (try clear p2); (try clear c3); (try clear c4); (try clear c5); (try clear c7); (try clear c8); (try clear c17); (try clear c17b0); (try clear c17b1); (try clear c17b2); (try clear c19); (try clear c20); (try clear c20b0); (try clear c20b1); (try clear c20b2); (try clear c30); (try clear c31); (try clear c32); (try clear c34); (try clear c35); (try clear c36); (try clear c37); (try clear c38); (try clear c39); (try clear c40); (try clear c41); (try clear c42); (try clear c46); (try clear c48); (try clear c50); (try clear c71); (try clear c71b0); (try clear c71b1); (try clear c71b2); (try clear c73); (try clear c74); (try clear c74b0); (try clear c74b1); (try clear c74b2); (try clear c78); (try clear c80); (try clear c80b0); (try clear c80b1); (try clear c80b2); (try clear p2)
                obtain ⟨kq, x170_63, rfl, HA, HJ63, HO_18, HO_19, HO_23, HB⟩ := hcut
                cases kq with
                | zero => exact absurd HA.out (by simp [laws_FnWordsOfTriples.j3])
                | succ kj63 =>
                 have H := HA.out
                 clear HA
                 simp only [laws_FnWordsOfTriples.j3] at H
                 by_cases c97 : x170_63 = true
                 ·
                  subst c97
                  have H1 : (some false) = some r := by rw [if_pos rfl] at H; exact H
                  exact absurd (H1.trans (congrArg some hrT)) (by simp)
                 ·
                  as_aux_lemma =>
                   replace c97 := Bool.eq_false_iff.mpr c97
                   subst c97
                   have H1 : (if t397 = true then ((impl_RightByPrice.f kj63 t396).bind fun bt415 => ((impl_RightByBerg.f kj63 t404).bind fun bt419 => (if (t396.length : Int) ≤ 40 then (if bt415.2 = true then ((laws_vSame.f kj63 bt415.1 t393).bind fun t423 => (if t423 = true then (if (t404.length : Int) ≤ 40 then (if bt419.2 = true then ((laws_vSame.f kj63 bt419.1 t393).bind fun t424 => (if t424 = true then (laws_FnWordsOfTriples.j4 kj63 l1) else (some false))) else (some false)) else (laws_FnWordsOfTriples.j4 kj63 l1)) else (some false))) else (some false)) else (if (t404.length : Int) ≤ 40 then (if bt419.2 = true then ((laws_vSame.f kj63 bt419.1 t393).bind fun t425 => (if t425 = true then (laws_FnWordsOfTriples.j4 kj63 l1) else (some false))) else (some false)) else (laws_FnWordsOfTriples.j4 kj63 l1))))) else (laws_FnWordsOfTriples.j4 kj63 l1)) = some r := by rw [if_neg (show ¬ (false = true) by decide)] at H; exact H
                   clear H
                   have H := H1
                   clear H1
                   have HC98 := Aside0.mk H
                   clear H
                   go_upto_if 171 with (fail)
                   go_cut [] (fun wc => ∃ (kq : Nat), Aside0 (laws_FnWordsOfTriples.j4 kq l1 = some r) ∧ Aside0 (kq ≤ kj63) ∧ Aside0 (Below w.heap.size w wc))
                   case first =>
                    as_aux_lemma =>
                     have H := HC98.out
                     clear HC98
                     by_cases c99 : t397 = true
                     ·
                      as_aux_lemma =>
                       subst c99
                       have H1 : ((impl_RightByPrice.f kj63 t396).bind fun bt415 => ((impl_RightByBerg.f kj63 t404).bind fun bt419 => (if (t396.length : Int) ≤ 40 then (if bt415.2 = true then ((laws_vSame.f kj63 bt415.1 t393).bind fun t423 => (if t423 = true then (if (t404.length : Int) ≤ 40 then (if bt419.2 = true then ((laws_vSame.f kj63 bt419.1 t393).bind fun t424 => (if t424 = true then (laws_FnWordsOfTriples.j4 kj63 l1) else (some false))) else (some false)) else (laws_FnWordsOfTriples.j4 kj63 l1)) else (some false))) else (some false)) else (if (t404.length : Int) ≤ 40 then (if bt419.2 = true then ((laws_vSame.f kj63 bt419.1 t393).bind fun t425 => (if t425 = true then (laws_FnWordsOfTriples.j4 kj63 l1) else (some false))) else (some false)) else (laws_FnWordsOfTriples.j4 kj63 l1))))) = some r := by rw [if_pos rfl] at H; exact H
                       clear H
                       have H := H1
                       clear H1
                       replace H := Option.bind_eq_some_iff.mp H
                       obtain ⟨⟨t415, t416⟩, A1000, H⟩ := H
                       replace H : ((impl_RightByBerg.f kj63 t404).bind fun bt419 => (if (t396.length : Int) ≤ 40 then (if t416 = true then ((laws_vSame.f kj63 t415 t393).bind fun t423 => (if t423 = true then (if (t404.length : Int) ≤ 40 then (if bt419.2 = true then ((laws_vSame.f kj63 bt419.1 t393).bind fun t424 => (if t424 = true then (laws_FnWordsOfTriples.j4 kj63 l1) else (some false))) else (some false)) else (laws_FnWordsOfTriples.j4 kj63 l1)) else (some false))) else (some false)) else (if (t404.length : Int) ≤ 40 then (if bt419.2 = true then ((laws_vSame.f kj63 bt419.1 t393).bind fun t425 => (if t425 = true then (laws_FnWordsOfTriples.j4 kj63 l1) else (some false))) else (some false)) else (laws_FnWordsOfTriples.j4 kj63 l1)))) = some r := H
                       have A100 := Aside0.mk A1000
                       clear A1000
                       replace H := Option.bind_eq_some_iff.mp H
                       obtain ⟨⟨t419, t420⟩, A1010, H⟩ := H
                       replace H : (if (t396.length : Int) ≤ 40 then (if t416 = true then ((laws_vSame.f kj63 t415 t393).bind fun t423 => (if t423 = true then (if (t404.length : Int) ≤ 40 then (if t420 = true then ((laws_vSame.f kj63 t419 t393).bind fun t424 => (if t424 = true then (laws_FnWordsOfTriples.j4 kj63 l1) else (some false))) else (some false)) else (laws_FnWordsOfTriples.j4 kj63 l1)) else (some false))) else (some false)) else (if (t404.length : Int) ≤ 40 then (if t420 = true then ((laws_vSame.f kj63 t419 t393).bind fun t425 => (if t425 = true then (laws_FnWordsOfTriples.j4 kj63 l1) else (some false))) else (some false)) else (laws_FnWordsOfTriples.j4 kj63 l1))) = some r := H
                       have A101 := Aside0.mk A1010
                       clear A1010
                       by_cases c102 : (t396.length : Int) ≤ 40
                       ·
                        rw [if_pos c102] at H
                        have c102b0 : decide ((t396.length : Int) ≤ 40) = true := decide_eq_true c102
                        have c102b1 : decide (t396.length ≤ 40) = true := decide_eq_true (by omega)
                        clear c102
                        (first | rw [c102b0] | (simp only [i64_w, i32_w]; rw [c102b0]) | skip)
                        by_cases c103 : t416 = true
                        ·
                         subst c103
                         have H1 : ((laws_vSame.f kj63 t415 t393).bind fun t423 => (if t423 = true then (if (t404.length : Int) ≤ 40 then (if t420 = true then ((laws_vSame.f kj63 t419 t393).bind fun t424 => (if t424 = true then (laws_FnWordsOfTriples.j4 kj63 l1) else (some false))) else (some false)) else (laws_FnWordsOfTriples.j4 kj63 l1)) else (some false))) = some r := by rw [if_pos rfl] at H; exact H
                         clear H
                         have H := H1
                         clear H1
                         replace H := Option.bind_eq_some_iff.mp H
                         obtain ⟨t423, A1040, H⟩ := H
                         replace H : (if t423 = true then (if (t404.length : Int) ≤ 40 then (if t420 = true then ((laws_vSame.f kj63 t419 t393).bind fun t424 => (if t424 = true then (laws_FnWordsOfTriples.j4 kj63 l1) else (some false))) else (some false)) else (laws_FnWordsOfTriples.j4 kj63 l1)) else (some false)) = some r := H
                         have A104 := Aside0.mk A1040
                         clear A1040
                         by_cases c105 : t423 = true
                         ·
                          subst c105
                          have H1 : (if (t404.length : Int) ≤ 40 then (if t420 = true then ((laws_vSame.f kj63 t419 t393).bind fun t424 => (if t424 = true then (laws_FnWordsOfTriples.j4 kj63 l1) else (some false))) else (some false)) else (laws_FnWordsOfTriples.j4 kj63 l1)) = some r := by rw [if_pos rfl] at H; exact H
                          clear H
                          have H := H1
                          clear H1
                          by_cases c106 : (t404.length : Int) ≤ 40
                          ·
                           rw [if_pos c106] at H
                           have c106b0 : decide ((t404.length : Int) ≤ 40) = true := decide_eq_true c106
                           have c106b1 : decide (t404.length ≤ 40) = true := decide_eq_true (by omega)
                           clear c106
                           by_cases c107 : t420 = true
                           ·
                            subst c107
                            have H1 : ((laws_vSame.f kj63 t419 t393).bind fun t424 => (if t424 = true then (laws_FnWordsOfTriples.j4 kj63 l1) else (some false))) = some r := by rw [if_pos rfl] at H; exact H
                            clear H
                            have H := H1
                            clear H1
                            replace H := Option.bind_eq_some_iff.mp H
                            obtain ⟨t424, A1080, H⟩ := H
                            replace H : (if t424 = true then (laws_FnWordsOfTriples.j4 kj63 l1) else (some false)) = some r := H
                            have A108 := Aside0.mk A1080
                            clear A1080
                            by_cases c109 : t424 = true
                            ·
                             subst c109
                             have H1 : (laws_FnWordsOfTriples.j4 kj63 l1) = some r := by rw [if_pos rfl] at H; exact H
                             clear H
                             have H := H1
                             clear H1
                             have H' := Aside0.mk H
                             clear H
                             obtain ⟨Ao110, co110, eo110⟩ := Kd.R_slice HO_19.out
                             subst eo110
                             go_wp2_with (first | ((with_reducible refine gate_callee (f := 37) rfl ?_); refine gL (some 174) rfl rfl Try.func37 (by kernel_rfl) rfl #[.slice Ao110 t396.length co110] rfl ?_; (with_reducible refine (impl_RightByPrice.calls kj63 _ _ t396 t415 true _ ?side1 ?side2 A100.out).mono ?_); (case side1 => repeat (first | exact (Kd.R_reads' HO_19.out).2.2 | (with_reducible refine Kd.C_alloc ?_ _) | (with_reducible refine Kd.C_drewN ?_ _) | (with_reducible refine Kd.C_drew ?_))); (case side2 => exact (Kd.R_reads' HO_19.out).2.1); rintro e w111 ⟨v417, rfl, ho0, hb⟩; refine ⟨_, rfl, ?_⟩; have n0_ := Aside0.mk (Kd.R_elder' (by (with_reducible repeat (first | apply Kd.R_alloc | apply Kd.R_drewN | apply Kd.R_drew)); exact HO_18.out) (Kd.R_base ho0) hb); have n1_ := Aside0.mk (Kd.R_elder' (by (with_reducible repeat (first | apply Kd.R_alloc | apply Kd.R_drewN | apply Kd.R_drew)); exact HO_19.out) (Kd.R_base ho0) hb); have n2_ := Aside0.mk (Kd.R_elder' (by (with_reducible repeat (first | apply Kd.R_alloc | apply Kd.R_drewN | apply Kd.R_drew)); exact HO_23.out) (Kd.R_base ho0) hb); have n3_ := Aside0.mk (Kd.R_lower (Kd.R_new' (Kd.R_new' (Kd.R_new' ho0 (Kd.R_lt (by (with_reducible repeat (first | apply Kd.R_alloc | apply Kd.R_drewN | apply Kd.R_drew)); exact HO_18.out))) (Kd.R_lt (by (with_reducible repeat (first | apply Kd.R_alloc | apply Kd.R_drewN | apply Kd.R_drew)); exact HO_19.out))) (Kd.R_lt (by (with_reducible repeat (first | apply Kd.R_alloc | apply Kd.R_drewN | apply Kd.R_drew)); exact HO_23.out))) (below_size bq)); have n4_ := Aside0.mk (below_step bq hb); clear HO_18; clear HO_19; clear HO_23; clear HB; have HO_18 := n0_; have HO_19 := n1_; have HO_23 := n2_; have HO418 := n3_; have HB := n4_; clear n0_ n1_ n2_ n3_ n4_; (try clear hb); (try clear hb2); (try clear hk); (try clear hi); (try clear ho0); obtain ⟨Ao112, co112, eo112⟩ := Kd.R_slice HO_23.out; subst eo112) | ((with_reducible refine gate_callee (f := 35) rfl ?_); refine gL (some 179) rfl rfl Try.func35 (by kernel_rfl) rfl #[.slice Ao112 t404.length co112] rfl ?_; (with_reducible refine (impl_RightByBerg.calls kj63 _ _ t404 t419 true _ ?side1 ?side2 A101.out).mono ?_); (case side1 => repeat (first | exact (Kd.R_reads' HO_23.out).2.2 | (with_reducible refine Kd.C_alloc ?_ _) | (with_reducible refine Kd.C_drewN ?_ _) | (with_reducible refine Kd.C_drew ?_))); (case side2 => exact (Kd.R_reads' HO_23.out).2.1); rintro e w113 ⟨v421, rfl, ho0, hb⟩; refine ⟨_, rfl, ?_⟩; have n0_ := Aside0.mk (Kd.R_elder' (by (with_reducible repeat (first | apply Kd.R_alloc | apply Kd.R_drewN | apply Kd.R_drew)); exact HO_18.out) (Kd.R_base ho0) hb); have n1_ := Aside0.mk (Kd.R_elder' (by (with_reducible repeat (first | apply Kd.R_alloc | apply Kd.R_drewN | apply Kd.R_drew)); exact HO_19.out) (Kd.R_base ho0) hb); have n2_ := Aside0.mk (Kd.R_elder' (by (with_reducible repeat (first | apply Kd.R_alloc | apply Kd.R_drewN | apply Kd.R_drew)); exact HO_23.out) (Kd.R_base ho0) hb); have n3_ := Aside0.mk (Kd.R_elder' (by (with_reducible repeat (first | apply Kd.R_alloc | apply Kd.R_drewN | apply Kd.R_drew)); exact HO418.out) (Kd.R_base ho0) hb); have n4_ := Aside0.mk (Kd.R_lower (Kd.R_new' (Kd.R_new' (Kd.R_new' (Kd.R_new' ho0 (Kd.R_lt (by (with_reducible repeat (first | apply Kd.R_alloc | apply Kd.R_drewN | apply Kd.R_drew)); exact HO_18.out))) (Kd.R_lt (by (with_reducible repeat (first | apply Kd.R_alloc | apply Kd.R_drewN | apply Kd.R_drew)); exact HO_19.out))) (Kd.R_lt (by (with_reducible repeat (first | apply Kd.R_alloc | apply Kd.R_drewN | apply Kd.R_drew)); exact HO_23.out))) (Kd.R_lt (by (with_reducible repeat (first | apply Kd.R_alloc | apply Kd.R_drewN | apply Kd.R_drew)); exact HO418.out))) (below_size bq)); have n5_ := Aside0.mk (below_step bq hb); clear HO_18; clear HO_19; clear HO_23; clear HO418; clear HB; have HO_18 := n0_; have HO_19 := n1_; have HO_23 := n2_; have HO418 := n3_; have HO422 := n4_; have HB := n5_; clear n0_ n1_ n2_ n3_ n4_ n5_; (try clear hb); (try clear hb2); (try clear hk); (try clear hi); (try clear ho0); obtain ⟨Ao114, co114, eo114⟩ := Kd.R_slice HO418.out; subst eo114) | (go_at_call 11; (with_reducible refine (laws_vSame.calls kj63 _ _ t415 _ _ t393 true _ ?side1 ?side2 ?side3 ?side4 A104.out).mono ?_); (case side1 => repeat (first | exact (Kd.R_reads' HO418.out).2.2 | (with_reducible refine Kd.C_alloc ?_ _) | (with_reducible refine Kd.C_drewN ?_ _) | (with_reducible refine Kd.C_drew ?_))); (case side2 => exact (Kd.R_reads' HO418.out).2.1); (case side3 => repeat (first | exact (Kd.R_reads' HO_18.out).2.2 | (with_reducible refine Kd.C_alloc ?_ _) | (with_reducible refine Kd.C_drewN ?_ _) | (with_reducible refine Kd.C_drew ?_))); (case side4 => exact (Kd.R_reads' HO_18.out).2.1); rintro e w' ⟨rfl, ⟨nd, rfl⟩⟩; obtain ⟨Ao115, co115, eo115⟩ := Kd.R_slice HO422.out; subst eo115) | (go_at_call 11; (with_reducible refine (laws_vSame.calls kj63 _ _ t419 _ _ t393 true _ ?side1 ?side2 ?side3 ?side4 A108.out).mono ?_); (case side1 => repeat (first | exact (Kd.R_reads' HO422.out).2.2 | (with_reducible refine Kd.C_alloc ?_ _) | (with_reducible refine Kd.C_drewN ?_ _) | (with_reducible refine Kd.C_drew ?_))); (case side2 => exact (Kd.R_reads' HO422.out).2.1); (case side3 => repeat (first | exact (Kd.R_reads' HO_18.out).2.2 | (with_reducible refine Kd.C_alloc ?_ _) | (with_reducible refine Kd.C_drewN ?_ _) | (with_reducible refine Kd.C_drew ?_))); (case side4 => exact (Kd.R_reads' HO_18.out).2.1); rintro e w' ⟨rfl, ⟨nd, rfl⟩⟩))
                             go_meet
                             case rel => exact ⟨_, H', ⟨by have := HJ9.out; have := HJ30.out; have := HJ44.out; have := HJ63.out; first | omega | exact Nat.le_refl _⟩, ⟨bq⟩⟩
                            ·
                             replace c109 := Bool.eq_false_iff.mpr c109
                             subst c109
                             have H1 : (some false) = some r := by rw [if_neg (show ¬ (false = true) by decide)] at H; exact H
                             exact absurd (H1.trans (congrArg some hrT)) (by simp)
                           ·
                            replace c107 := Bool.eq_false_iff.mpr c107
                            subst c107
                            have H1 : (some false) = some r := by rw [if_neg (show ¬ (false = true) by decide)] at H; exact H
                            exact absurd (H1.trans (congrArg some hrT)) (by simp)
                          ·
                           rw [if_neg c106] at H
                           have c106b0 : decide ((t404.length : Int) ≤ 40) = false := decide_eq_false c106
                           have c106b1 : decide (t404.length ≤ 40) = false := decide_eq_false (by omega)
                           clear c106
                           have H' := Aside0.mk H
                           clear H
                           obtain ⟨Ao127, co127, eo127⟩ := Kd.R_slice HO_19.out
                           subst eo127
                           go_wp2_with (first | ((with_reducible refine gate_callee (f := 37) rfl ?_); refine gL (some 174) rfl rfl Try.func37 (by kernel_rfl) rfl #[.slice Ao127 t396.length co127] rfl ?_; (with_reducible refine (impl_RightByPrice.calls kj63 _ _ t396 t415 true _ ?side1 ?side2 A100.out).mono ?_); (case side1 => repeat (first | exact (Kd.R_reads' HO_19.out).2.2 | (with_reducible refine Kd.C_alloc ?_ _) | (with_reducible refine Kd.C_drewN ?_ _) | (with_reducible refine Kd.C_drew ?_))); (case side2 => exact (Kd.R_reads' HO_19.out).2.1); rintro e w128 ⟨v417, rfl, ho0, hb⟩; refine ⟨_, rfl, ?_⟩; have n0_ := Aside0.mk (Kd.R_elder' (by (with_reducible repeat (first | apply Kd.R_alloc | apply Kd.R_drewN | apply Kd.R_drew)); exact HO_18.out) (Kd.R_base ho0) hb); have n1_ := Aside0.mk (Kd.R_elder' (by (with_reducible repeat (first | apply Kd.R_alloc | apply Kd.R_drewN | apply Kd.R_drew)); exact HO_19.out) (Kd.R_base ho0) hb); have n2_ := Aside0.mk (Kd.R_elder' (by (with_reducible repeat (first | apply Kd.R_alloc | apply Kd.R_drewN | apply Kd.R_drew)); exact HO_23.out) (Kd.R_base ho0) hb); have n3_ := Aside0.mk (Kd.R_lower (Kd.R_new' (Kd.R_new' (Kd.R_new' ho0 (Kd.R_lt (by (with_reducible repeat (first | apply Kd.R_alloc | apply Kd.R_drewN | apply Kd.R_drew)); exact HO_18.out))) (Kd.R_lt (by (with_reducible repeat (first | apply Kd.R_alloc | apply Kd.R_drewN | apply Kd.R_drew)); exact HO_19.out))) (Kd.R_lt (by (with_reducible repeat (first | apply Kd.R_alloc | apply Kd.R_drewN | apply Kd.R_drew)); exact HO_23.out))) (below_size bq)); have n4_ := Aside0.mk (below_step bq hb); clear HO_18; clear HO_19; clear HO_23; clear HB; have HO_18 := n0_; have HO_19 := n1_; have HO_23 := n2_; have HO418 := n3_; have HB := n4_; clear n0_ n1_ n2_ n3_ n4_; (try clear hb); (try clear hb2); (try clear hk); (try clear hi); (try clear ho0); obtain ⟨Ao129, co129, eo129⟩ := Kd.R_slice HO_23.out; subst eo129) | ((with_reducible refine gate_callee (f := 35) rfl ?_); refine gL (some 179) rfl rfl Try.func35 (by kernel_rfl) rfl #[.slice Ao129 t404.length co129] rfl ?_; (with_reducible refine (impl_RightByBerg.calls kj63 _ _ t404 t419 t420 _ ?side1 ?side2 A101.out).mono ?_); (case side1 => repeat (first | exact (Kd.R_reads' HO_23.out).2.2 | (with_reducible refine Kd.C_alloc ?_ _) | (with_reducible refine Kd.C_drewN ?_ _) | (with_reducible refine Kd.C_drew ?_))); (case side2 => exact (Kd.R_reads' HO_23.out).2.1); rintro e w130 ⟨v421, rfl, ho0, hb⟩; refine ⟨_, rfl, ?_⟩; have n0_ := Aside0.mk (Kd.R_elder' (by (with_reducible repeat (first | apply Kd.R_alloc | apply Kd.R_drewN | apply Kd.R_drew)); exact HO_18.out) (Kd.R_base ho0) hb); have n1_ := Aside0.mk (Kd.R_elder' (by (with_reducible repeat (first | apply Kd.R_alloc | apply Kd.R_drewN | apply Kd.R_drew)); exact HO_19.out) (Kd.R_base ho0) hb); have n2_ := Aside0.mk (Kd.R_elder' (by (with_reducible repeat (first | apply Kd.R_alloc | apply Kd.R_drewN | apply Kd.R_drew)); exact HO_23.out) (Kd.R_base ho0) hb); have n3_ := Aside0.mk (Kd.R_elder' (by (with_reducible repeat (first | apply Kd.R_alloc | apply Kd.R_drewN | apply Kd.R_drew)); exact HO418.out) (Kd.R_base ho0) hb); have n4_ := Aside0.mk (Kd.R_lower (Kd.R_new' (Kd.R_new' (Kd.R_new' (Kd.R_new' ho0 (Kd.R_lt (by (with_reducible repeat (first | apply Kd.R_alloc | apply Kd.R_drewN | apply Kd.R_drew)); exact HO_18.out))) (Kd.R_lt (by (with_reducible repeat (first | apply Kd.R_alloc | apply Kd.R_drewN | apply Kd.R_drew)); exact HO_19.out))) (Kd.R_lt (by (with_reducible repeat (first | apply Kd.R_alloc | apply Kd.R_drewN | apply Kd.R_drew)); exact HO_23.out))) (Kd.R_lt (by (with_reducible repeat (first | apply Kd.R_alloc | apply Kd.R_drewN | apply Kd.R_drew)); exact HO418.out))) (below_size bq)); have n5_ := Aside0.mk (below_step bq hb); clear HO_18; clear HO_19; clear HO_23; clear HO418; clear HB; have HO_18 := n0_; have HO_19 := n1_; have HO_23 := n2_; have HO418 := n3_; have HO422 := n4_; have HB := n5_; clear n0_ n1_ n2_ n3_ n4_ n5_; (try clear hb); (try clear hb2); (try clear hk); (try clear hi); (try clear ho0); obtain ⟨Ao131, co131, eo131⟩ := Kd.R_slice HO418.out; subst eo131) | (go_at_call 11; (with_reducible refine (laws_vSame.calls kj63 _ _ t415 _ _ t393 true _ ?side1 ?side2 ?side3 ?side4 A104.out).mono ?_); (case side1 => repeat (first | exact (Kd.R_reads' HO418.out).2.2 | (with_reducible refine Kd.C_alloc ?_ _) | (with_reducible refine Kd.C_drewN ?_ _) | (with_reducible refine Kd.C_drew ?_))); (case side2 => exact (Kd.R_reads' HO418.out).2.1); (case side3 => repeat (first | exact (Kd.R_reads' HO_18.out).2.2 | (with_reducible refine Kd.C_alloc ?_ _) | (with_reducible refine Kd.C_drewN ?_ _) | (with_reducible refine Kd.C_drew ?_))); (case side4 => exact (Kd.R_reads' HO_18.out).2.1); rintro e w' ⟨rfl, ⟨nd, rfl⟩⟩))
                           go_meet
                           case rel => exact ⟨_, H', ⟨by have := HJ9.out; have := HJ30.out; have := HJ44.out; have := HJ63.out; first | omega | exact Nat.le_refl _⟩, ⟨bq⟩⟩
                         ·
                          replace c105 := Bool.eq_false_iff.mpr c105
                          subst c105
                          have H1 : (some false) = some r := by rw [if_neg (show ¬ (false = true) by decide)] at H; exact H
                          exact absurd (H1.trans (congrArg some hrT)) (by simp)
                        ·
                         replace c103 := Bool.eq_false_iff.mpr c103
                         subst c103
                         have H1 : (some false) = some r := by rw [if_neg (show ¬ (false = true) by decide)] at H; exact H
                         exact absurd (H1.trans (congrArg some hrT)) (by simp)
                       ·
                        rw [if_neg c102] at H
                        have c102b0 : decide ((t396.length : Int) ≤ 40) = false := decide_eq_false c102
                        have c102b1 : decide (t396.length ≤ 40) = false := decide_eq_false (by omega)
                        clear c102
                        (first | rw [c102b0] | (simp only [i64_w, i32_w]; rw [c102b0]) | skip)
                        by_cases c141 : (t404.length : Int) ≤ 40
                        ·
                         rw [if_pos c141] at H
                         have c141b0 : decide ((t404.length : Int) ≤ 40) = true := decide_eq_true c141
                         have c141b1 : decide (t404.length ≤ 40) = true := decide_eq_true (by omega)
                         clear c141
                         by_cases c142 : t420 = true
                         ·
                          subst c142
                          have H1 : ((laws_vSame.f kj63 t419 t393).bind fun t425 => (if t425 = true then (laws_FnWordsOfTriples.j4 kj63 l1) else (some false))) = some r := by rw [if_pos rfl] at H; exact H
                          clear H
                          have H := H1
                          clear H1
                          replace H := Option.bind_eq_some_iff.mp H
                          obtain ⟨t425, A1430, H⟩ := H
                          replace H : (if t425 = true then (laws_FnWordsOfTriples.j4 kj63 l1) else (some false)) = some r := H
                          have A143 := Aside0.mk A1430
                          clear A1430
                          by_cases c144 : t425 = true
                          ·
                           subst c144
                           have H1 : (laws_FnWordsOfTriples.j4 kj63 l1) = some r := by rw [if_pos rfl] at H; exact H
                           clear H
                           have H := H1
                           clear H1
                           have H' := Aside0.mk H
                           clear H
                           obtain ⟨Ao145, co145, eo145⟩ := Kd.R_slice HO_19.out
                           subst eo145
                           go_wp2_with (first | ((with_reducible refine gate_callee (f := 37) rfl ?_); refine gL (some 174) rfl rfl Try.func37 (by kernel_rfl) rfl #[.slice Ao145 t396.length co145] rfl ?_; (with_reducible refine (impl_RightByPrice.calls kj63 _ _ t396 t415 t416 _ ?side1 ?side2 A100.out).mono ?_); (case side1 => repeat (first | exact (Kd.R_reads' HO_19.out).2.2 | (with_reducible refine Kd.C_alloc ?_ _) | (with_reducible refine Kd.C_drewN ?_ _) | (with_reducible refine Kd.C_drew ?_))); (case side2 => exact (Kd.R_reads' HO_19.out).2.1); rintro e w146 ⟨v417, rfl, ho0, hb⟩; refine ⟨_, rfl, ?_⟩; have n0_ := Aside0.mk (Kd.R_elder' (by (with_reducible repeat (first | apply Kd.R_alloc | apply Kd.R_drewN | apply Kd.R_drew)); exact HO_18.out) (Kd.R_base ho0) hb); have n1_ := Aside0.mk (Kd.R_elder' (by (with_reducible repeat (first | apply Kd.R_alloc | apply Kd.R_drewN | apply Kd.R_drew)); exact HO_19.out) (Kd.R_base ho0) hb); have n2_ := Aside0.mk (Kd.R_elder' (by (with_reducible repeat (first | apply Kd.R_alloc | apply Kd.R_drewN | apply Kd.R_drew)); exact HO_23.out) (Kd.R_base ho0) hb); have n3_ := Aside0.mk (Kd.R_lower (Kd.R_new' (Kd.R_new' (Kd.R_new' ho0 (Kd.R_lt (by (with_reducible repeat (first | apply Kd.R_alloc | apply Kd.R_drewN | apply Kd.R_drew)); exact HO_18.out))) (Kd.R_lt (by (with_reducible repeat (first | apply Kd.R_alloc | apply Kd.R_drewN | apply Kd.R_drew)); exact HO_19.out))) (Kd.R_lt (by (with_reducible repeat (first | apply Kd.R_alloc | apply Kd.R_drewN | apply Kd.R_drew)); exact HO_23.out))) (below_size bq)); have n4_ := Aside0.mk (below_step bq hb); clear HO_18; clear HO_19; clear HO_23; clear HB; have HO_18 := n0_; have HO_19 := n1_; have HO_23 := n2_; have HO418 := n3_; have HB := n4_; clear n0_ n1_ n2_ n3_ n4_; (try clear hb); (try clear hb2); (try clear hk); (try clear hi); (try clear ho0); obtain ⟨Ao147, co147, eo147⟩ := Kd.R_slice HO_23.out; subst eo147) | ((with_reducible refine gate_callee (f := 35) rfl ?_); refine gL (some 179) rfl rfl Try.func35 (by kernel_rfl) rfl #[.slice Ao147 t404.length co147] rfl ?_; (with_reducible refine (impl_RightByBerg.calls kj63 _ _ t404 t419 true _ ?side1 ?side2 A101.out).mono ?_); (case side1 => repeat (first | exact (Kd.R_reads' HO_23.out).2.2 | (with_reducible refine Kd.C_alloc ?_ _) | (with_reducible refine Kd.C_drewN ?_ _) | (with_reducible refine Kd.C_drew ?_))); (case side2 => exact (Kd.R_reads' HO_23.out).2.1); rintro e w148 ⟨v421, rfl, ho0, hb⟩; refine ⟨_, rfl, ?_⟩; have n0_ := Aside0.mk (Kd.R_elder' (by (with_reducible repeat (first | apply Kd.R_alloc | apply Kd.R_drewN | apply Kd.R_drew)); exact HO_18.out) (Kd.R_base ho0) hb); have n1_ := Aside0.mk (Kd.R_elder' (by (with_reducible repeat (first | apply Kd.R_alloc | apply Kd.R_drewN | apply Kd.R_drew)); exact HO_19.out) (Kd.R_base ho0) hb); have n2_ := Aside0.mk (Kd.R_elder' (by (with_reducible repeat (first | apply Kd.R_alloc | apply Kd.R_drewN | apply Kd.R_drew)); exact HO_23.out) (Kd.R_base ho0) hb); have n3_ := Aside0.mk (Kd.R_elder' (by (with_reducible repeat (first | apply Kd.R_alloc | apply Kd.R_drewN | apply Kd.R_drew)); exact HO418.out) (Kd.R_base ho0) hb); have n4_ := Aside0.mk (Kd.R_lower (Kd.R_new' (Kd.R_new' (Kd.R_new' (Kd.R_new' ho0 (Kd.R_lt (by (with_reducible repeat (first | apply Kd.R_alloc | apply Kd.R_drewN | apply Kd.R_drew)); exact HO_18.out))) (Kd.R_lt (by (with_reducible repeat (first | apply Kd.R_alloc | apply Kd.R_drewN | apply Kd.R_drew)); exact HO_19.out))) (Kd.R_lt (by (with_reducible repeat (first | apply Kd.R_alloc | apply Kd.R_drewN | apply Kd.R_drew)); exact HO_23.out))) (Kd.R_lt (by (with_reducible repeat (first | apply Kd.R_alloc | apply Kd.R_drewN | apply Kd.R_drew)); exact HO418.out))) (below_size bq)); have n5_ := Aside0.mk (below_step bq hb); clear HO_18; clear HO_19; clear HO_23; clear HO418; clear HB; have HO_18 := n0_; have HO_19 := n1_; have HO_23 := n2_; have HO418 := n3_; have HO422 := n4_; have HB := n5_; clear n0_ n1_ n2_ n3_ n4_ n5_; (try clear hb); (try clear hb2); (try clear hk); (try clear hi); (try clear ho0); obtain ⟨Ao149, co149, eo149⟩ := Kd.R_slice HO422.out; subst eo149) | (go_at_call 11; (with_reducible refine (laws_vSame.calls kj63 _ _ t419 _ _ t393 true _ ?side1 ?side2 ?side3 ?side4 A143.out).mono ?_); (case side1 => repeat (first | exact (Kd.R_reads' HO422.out).2.2 | (with_reducible refine Kd.C_alloc ?_ _) | (with_reducible refine Kd.C_drewN ?_ _) | (with_reducible refine Kd.C_drew ?_))); (case side2 => exact (Kd.R_reads' HO422.out).2.1); (case side3 => repeat (first | exact (Kd.R_reads' HO_18.out).2.2 | (with_reducible refine Kd.C_alloc ?_ _) | (with_reducible refine Kd.C_drewN ?_ _) | (with_reducible refine Kd.C_drew ?_))); (case side4 => exact (Kd.R_reads' HO_18.out).2.1); rintro e w' ⟨rfl, ⟨nd, rfl⟩⟩))
                           go_meet
                           case rel => exact ⟨_, H', ⟨by have := HJ9.out; have := HJ30.out; have := HJ44.out; have := HJ63.out; first | omega | exact Nat.le_refl _⟩, ⟨bq⟩⟩
                          ·
                           replace c144 := Bool.eq_false_iff.mpr c144
                           subst c144
                           have H1 : (some false) = some r := by rw [if_neg (show ¬ (false = true) by decide)] at H; exact H
                           exact absurd (H1.trans (congrArg some hrT)) (by simp)
                         ·
                          replace c142 := Bool.eq_false_iff.mpr c142
                          subst c142
                          have H1 : (some false) = some r := by rw [if_neg (show ¬ (false = true) by decide)] at H; exact H
                          exact absurd (H1.trans (congrArg some hrT)) (by simp)
                        ·
                         rw [if_neg c141] at H
                         have c141b0 : decide ((t404.length : Int) ≤ 40) = false := decide_eq_false c141
                         have c141b1 : decide (t404.length ≤ 40) = false := decide_eq_false (by omega)
                         clear c141
                         have H' := Aside0.mk H
                         clear H
                         obtain ⟨Ao159, co159, eo159⟩ := Kd.R_slice HO_19.out
                         subst eo159
                         go_wp2_with (first | ((with_reducible refine gate_callee (f := 37) rfl ?_); refine gL (some 174) rfl rfl Try.func37 (by kernel_rfl) rfl #[.slice Ao159 t396.length co159] rfl ?_; (with_reducible refine (impl_RightByPrice.calls kj63 _ _ t396 t415 t416 _ ?side1 ?side2 A100.out).mono ?_); (case side1 => repeat (first | exact (Kd.R_reads' HO_19.out).2.2 | (with_reducible refine Kd.C_alloc ?_ _) | (with_reducible refine Kd.C_drewN ?_ _) | (with_reducible refine Kd.C_drew ?_))); (case side2 => exact (Kd.R_reads' HO_19.out).2.1); rintro e w160 ⟨v417, rfl, ho0, hb⟩; refine ⟨_, rfl, ?_⟩; have n0_ := Aside0.mk (Kd.R_elder' (by (with_reducible repeat (first | apply Kd.R_alloc | apply Kd.R_drewN | apply Kd.R_drew)); exact HO_18.out) (Kd.R_base ho0) hb); have n1_ := Aside0.mk (Kd.R_elder' (by (with_reducible repeat (first | apply Kd.R_alloc | apply Kd.R_drewN | apply Kd.R_drew)); exact HO_19.out) (Kd.R_base ho0) hb); have n2_ := Aside0.mk (Kd.R_elder' (by (with_reducible repeat (first | apply Kd.R_alloc | apply Kd.R_drewN | apply Kd.R_drew)); exact HO_23.out) (Kd.R_base ho0) hb); have n3_ := Aside0.mk (Kd.R_lower (Kd.R_new' (Kd.R_new' (Kd.R_new' ho0 (Kd.R_lt (by (with_reducible repeat (first | apply Kd.R_alloc | apply Kd.R_drewN | apply Kd.R_drew)); exact HO_18.out))) (Kd.R_lt (by (with_reducible repeat (first | apply Kd.R_alloc | apply Kd.R_drewN | apply Kd.R_drew)); exact HO_19.out))) (Kd.R_lt (by (with_reducible repeat (first | apply Kd.R_alloc | apply Kd.R_drewN | apply Kd.R_drew)); exact HO_23.out))) (below_size bq)); have n4_ := Aside0.mk (below_step bq hb); clear HO_18; clear HO_19; clear HO_23; clear HB; have HO_18 := n0_; have HO_19 := n1_; have HO_23 := n2_; have HO418 := n3_; have HB := n4_; clear n0_ n1_ n2_ n3_ n4_; (try clear hb); (try clear hb2); (try clear hk); (try clear hi); (try clear ho0); obtain ⟨Ao161, co161, eo161⟩ := Kd.R_slice HO_23.out; subst eo161) | ((with_reducible refine gate_callee (f := 35) rfl ?_); refine gL (some 179) rfl rfl Try.func35 (by kernel_rfl) rfl #[.slice Ao161 t404.length co161] rfl ?_; (with_reducible refine (impl_RightByBerg.calls kj63 _ _ t404 t419 t420 _ ?side1 ?side2 A101.out).mono ?_); (case side1 => repeat (first | exact (Kd.R_reads' HO_23.out).2.2 | (with_reducible refine Kd.C_alloc ?_ _) | (with_reducible refine Kd.C_drewN ?_ _) | (with_reducible refine Kd.C_drew ?_))); (case side2 => exact (Kd.R_reads' HO_23.out).2.1); rintro e w162 ⟨v421, rfl, ho0, hb⟩; refine ⟨_, rfl, ?_⟩; have n0_ := Aside0.mk (Kd.R_elder' (by (with_reducible repeat (first | apply Kd.R_alloc | apply Kd.R_drewN | apply Kd.R_drew)); exact HO_18.out) (Kd.R_base ho0) hb); have n1_ := Aside0.mk (Kd.R_elder' (by (with_reducible repeat (first | apply Kd.R_alloc | apply Kd.R_drewN | apply Kd.R_drew)); exact HO_19.out) (Kd.R_base ho0) hb); have n2_ := Aside0.mk (Kd.R_elder' (by (with_reducible repeat (first | apply Kd.R_alloc | apply Kd.R_drewN | apply Kd.R_drew)); exact HO_23.out) (Kd.R_base ho0) hb); have n3_ := Aside0.mk (Kd.R_elder' (by (with_reducible repeat (first | apply Kd.R_alloc | apply Kd.R_drewN | apply Kd.R_drew)); exact HO418.out) (Kd.R_base ho0) hb); have n4_ := Aside0.mk (Kd.R_lower (Kd.R_new' (Kd.R_new' (Kd.R_new' (Kd.R_new' ho0 (Kd.R_lt (by (with_reducible repeat (first | apply Kd.R_alloc | apply Kd.R_drewN | apply Kd.R_drew)); exact HO_18.out))) (Kd.R_lt (by (with_reducible repeat (first | apply Kd.R_alloc | apply Kd.R_drewN | apply Kd.R_drew)); exact HO_19.out))) (Kd.R_lt (by (with_reducible repeat (first | apply Kd.R_alloc | apply Kd.R_drewN | apply Kd.R_drew)); exact HO_23.out))) (Kd.R_lt (by (with_reducible repeat (first | apply Kd.R_alloc | apply Kd.R_drewN | apply Kd.R_drew)); exact HO418.out))) (below_size bq)); have n5_ := Aside0.mk (below_step bq hb); clear HO_18; clear HO_19; clear HO_23; clear HO418; clear HB; have HO_18 := n0_; have HO_19 := n1_; have HO_23 := n2_; have HO418 := n3_; have HO422 := n4_; have HB := n5_; clear n0_ n1_ n2_ n3_ n4_ n5_; (try clear hb); (try clear hb2); (try clear hk); (try clear hi); (try clear ho0)))
                         go_meet
                         case rel => exact ⟨_, H', ⟨by have := HJ9.out; have := HJ30.out; have := HJ44.out; have := HJ63.out; first | omega | exact Nat.le_refl _⟩, ⟨bq⟩⟩
                     ·
                      replace c99 := Bool.eq_false_iff.mpr c99
                      subst c99
                      have H1 : (laws_FnWordsOfTriples.j4 kj63 l1) = some r := by rw [if_neg (show ¬ (false = true) by decide)] at H; exact H
                      clear H
                      have H := H1
                      clear H1
                      have H' := Aside0.mk H
                      clear H
                      go_wp2
                      go_meet
                      case rel => exact ⟨_, H', ⟨by have := HJ9.out; have := HJ30.out; have := HJ44.out; have := HJ63.out; first | omega | exact Nat.le_refl _⟩, ⟨bq⟩⟩
                   case rest =>
                    as_aux_lemma =>
                     clear HC98; (try clear c1); (try clear c2); (try clear p2); (try clear c3); (try clear c4); (try clear c5); (try clear c7); (try clear c8); (try clear c9); (try clear c10); (try clear c14); (try clear c17); (try clear c17b0); (try clear c17b1); (try clear c17b2); (try clear c19); (try clear c20); (try clear c20b0); (try clear c20b1); (try clear c20b2); (try clear c30); (try clear c31); (try clear c32); (try clear c34); (try clear c35); (try clear c36); (try clear c37); (try clear c38); (try clear c39); (try clear c40); (try clear c41); (try clear c42); (try clear c46); (try clear c48); (try clear c50); (try clear c71); (try clear c71b0); (try clear c71b1); (try clear c71b2); (try clear c73); (try clear c74); (try clear c74b0); (try clear c74b1); (try clear c74b2); (try clear c78); (try clear c80); (try clear c80b0); (try clear c80b1); (try clear c80b2); (try clear c97); (try clear c99); (try clear c102); (try clear c102b0); (try clear c102b1); (try clear c103); (try clear c105); (try clear c106); (try clear c106b0); (try clear c106b1); (try clear c107); (try clear c109); (try clear c141); (try clear c141b0); (try clear c141b1); (try clear c142); (try clear c144); (try clear p2)
                     obtain ⟨kq, HA, HJ97, HB⟩ := hcut
                     cases kq with
                     | zero => exact absurd HA.out (by simp [laws_FnWordsOfTriples.j4])
                     | succ kj97 =>
                      have H := HA.out
                      clear HA
                      simp only [laws_FnWordsOfTriples.j4] at H
                      replace H := Option.bind_eq_some_iff.mp H
                      obtain ⟨t426, A1630, H⟩ := H
                      replace H : ((impl_RankOfWord.f kj97 t426).bind fun bt429 => ((spec_RankOfWord.f kj97 t426).bind fun bt431 => ((spec_DrawWordOfRank.f l1).bind fun t433 => ((impl_WordOfRank.f kj97 t433).bind fun bt434 => ((spec_WordOfRank.f kj97 t433).bind fun bt438 => (if (bt429.2 != bt431.2) = true then (laws_FnWordsOfTriples.j5 kj97 t426 bt429.1 bt429.2 t433 bt434.1 bt434.2 true) else (if bt429.1 = bt431.1 then (if (bt434.2 != bt438.2) = true then (laws_FnWordsOfTriples.j5 kj97 t426 bt429.1 bt429.2 t433 bt434.1 bt434.2 true) else ((laws_vSame.f kj97 bt434.1 bt438.1).bind fun t442 => (laws_FnWordsOfTriples.j5 kj97 t426 bt429.1 bt429.2 t433 bt434.1 bt434.2 (!t442)))) else (laws_FnWordsOfTriples.j5 kj97 t426 bt429.1 bt429.2 t433 bt434.1 bt434.2 true)))))))) = some r := H
                      have A163 := Aside0.mk A1630
                      clear A1630
                      replace H := Option.bind_eq_some_iff.mp H
                      obtain ⟨⟨t429, t430⟩, A1640, H⟩ := H
                      replace H : ((spec_RankOfWord.f kj97 t426).bind fun bt431 => ((spec_DrawWordOfRank.f l1).bind fun t433 => ((impl_WordOfRank.f kj97 t433).bind fun bt434 => ((spec_WordOfRank.f kj97 t433).bind fun bt438 => (if (t430 != bt431.2) = true then (laws_FnWordsOfTriples.j5 kj97 t426 t429 t430 t433 bt434.1 bt434.2 true) else (if t429 = bt431.1 then (if (bt434.2 != bt438.2) = true then (laws_FnWordsOfTriples.j5 kj97 t426 t429 t430 t433 bt434.1 bt434.2 true) else ((laws_vSame.f kj97 bt434.1 bt438.1).bind fun t442 => (laws_FnWordsOfTriples.j5 kj97 t426 t429 t430 t433 bt434.1 bt434.2 (!t442)))) else (laws_FnWordsOfTriples.j5 kj97 t426 t429 t430 t433 bt434.1 bt434.2 true))))))) = some r := H
                      have A164 := Aside0.mk A1640
                      clear A1640
                      replace H := Option.bind_eq_some_iff.mp H
                      obtain ⟨⟨t431, t432⟩, A1650, H⟩ := H
                      replace H : ((spec_DrawWordOfRank.f l1).bind fun t433 => ((impl_WordOfRank.f kj97 t433).bind fun bt434 => ((spec_WordOfRank.f kj97 t433).bind fun bt438 => (if (t430 != t432) = true then (laws_FnWordsOfTriples.j5 kj97 t426 t429 t430 t433 bt434.1 bt434.2 true) else (if t429 = t431 then (if (bt434.2 != bt438.2) = true then (laws_FnWordsOfTriples.j5 kj97 t426 t429 t430 t433 bt434.1 bt434.2 true) else ((laws_vSame.f kj97 bt434.1 bt438.1).bind fun t442 => (laws_FnWordsOfTriples.j5 kj97 t426 t429 t430 t433 bt434.1 bt434.2 (!t442)))) else (laws_FnWordsOfTriples.j5 kj97 t426 t429 t430 t433 bt434.1 bt434.2 true)))))) = some r := H
                      have A165 := Aside0.mk A1650
                      clear A1650
                      replace H := Option.bind_eq_some_iff.mp H
                      obtain ⟨t433, A1660, H⟩ := H
                      replace H : ((impl_WordOfRank.f kj97 t433).bind fun bt434 => ((spec_WordOfRank.f kj97 t433).bind fun bt438 => (if (t430 != t432) = true then (laws_FnWordsOfTriples.j5 kj97 t426 t429 t430 t433 bt434.1 bt434.2 true) else (if t429 = t431 then (if (bt434.2 != bt438.2) = true then (laws_FnWordsOfTriples.j5 kj97 t426 t429 t430 t433 bt434.1 bt434.2 true) else ((laws_vSame.f kj97 bt434.1 bt438.1).bind fun t442 => (laws_FnWordsOfTriples.j5 kj97 t426 t429 t430 t433 bt434.1 bt434.2 (!t442)))) else (laws_FnWordsOfTriples.j5 kj97 t426 t429 t430 t433 bt434.1 bt434.2 true))))) = some r := H
                      have A166 := Aside0.mk A1660
                      clear A1660
                      replace H := Option.bind_eq_some_iff.mp H
                      obtain ⟨⟨t434, t435⟩, A1670, H⟩ := H
                      replace H : ((spec_WordOfRank.f kj97 t433).bind fun bt438 => (if (t430 != t432) = true then (laws_FnWordsOfTriples.j5 kj97 t426 t429 t430 t433 t434 t435 true) else (if t429 = t431 then (if (t435 != bt438.2) = true then (laws_FnWordsOfTriples.j5 kj97 t426 t429 t430 t433 t434 t435 true) else ((laws_vSame.f kj97 t434 bt438.1).bind fun t442 => (laws_FnWordsOfTriples.j5 kj97 t426 t429 t430 t433 t434 t435 (!t442)))) else (laws_FnWordsOfTriples.j5 kj97 t426 t429 t430 t433 t434 t435 true)))) = some r := H
                      have A167 := Aside0.mk A1670
                      clear A1670
                      replace H := Option.bind_eq_some_iff.mp H
                      obtain ⟨⟨t438, t439⟩, A1680, H⟩ := H
                      replace H : (if (t430 != t432) = true then (laws_FnWordsOfTriples.j5 kj97 t426 t429 t430 t433 t434 t435 true) else (if t429 = t431 then (if (t435 != t439) = true then (laws_FnWordsOfTriples.j5 kj97 t426 t429 t430 t433 t434 t435 true) else ((laws_vSame.f kj97 t434 t438).bind fun t442 => (laws_FnWordsOfTriples.j5 kj97 t426 t429 t430 t433 t434 t435 (!t442)))) else (laws_FnWordsOfTriples.j5 kj97 t426 t429 t430 t433 t434 t435 true))) = some r := H
                      have A168 := Aside0.mk A1680
                      clear A1680
                      have HC169 := Aside0.mk H
                      clear H
                      go_upto_region 36 with (first | ((with_reducible refine gate_callee (f := 43) rfl ?_); refine gL (some 211) rfl rfl Try.func43 (by kernel_rfl) rfl #[.slice A1 l1.length c1] rfl ?_; (with_reducible refine (spec_DrawRankOfWord.calls kj97 _ _ l1 t426 _ ?side1 ?side2 A163.out).mono ?_); (case side1 => repeat (first | exact (Kd.C_below HR1.out HB.out) | (with_reducible refine Kd.C_alloc ?_ _) | (with_reducible refine Kd.C_drewN ?_ _) | (with_reducible refine Kd.C_drew ?_))); (case side2 => exact HC1.out); rintro e w170 ⟨v427, rfl, ho0, hb⟩; refine ⟨_, rfl, ?_⟩; have n0_ := Aside0.mk (Kd.R_lower ho0 (below_size bq)); have n1_ := Aside0.mk (below_step bq hb); clear HB; have HO428 := n0_; have HB := n1_; clear n0_ n1_; (try clear hb); (try clear hb2); (try clear hk); (try clear hi); (try clear ho0); obtain ⟨Ao171, co171, eo171⟩ := Kd.R_slice HO428.out; subst eo171) | ((with_reducible refine gate_callee (f := 44) rfl ?_); refine gL (some 214) rfl rfl Try.func44 (by kernel_rfl) rfl #[.slice Ao171 t426.length co171] rfl ?_; (with_reducible refine (impl_RankOfWord.calls kj97 _ _ t426 t429 t430 _ ?side1 ?side2 A164.out).mono ?_); (case side1 => repeat (first | exact (Kd.R_reads' HO428.out).2.2 | (with_reducible refine Kd.C_alloc ?_ _) | (with_reducible refine Kd.C_drewN ?_ _) | (with_reducible refine Kd.C_drew ?_))); (case side2 => exact (Kd.R_reads' HO428.out).2.1); rintro e w172 ⟨rfl, hb⟩; refine ⟨_, rfl, ?_⟩; have n0_ := Aside0.mk (Kd.R_below (by (with_reducible repeat (first | apply Kd.R_alloc | apply Kd.R_drewN | apply Kd.R_drew)); exact HO428.out) hb); have n1_ := Aside0.mk (below_step bq hb); clear HO428; clear HB; have HO428 := n0_; have HB := n1_; clear n0_ n1_; (try clear hb); (try clear hb2); (try clear hk); (try clear hi)) | ((with_reducible refine gate_callee (f := 45) rfl ?_); refine gL (some 219) rfl rfl Try.func45 (by kernel_rfl) rfl #[.slice Ao171 t426.length co171] rfl ?_; (with_reducible refine (spec_RankOfWord.calls kj97 _ _ t426 t431 t432 _ ?side1 ?side2 A165.out).mono ?_); (case side1 => repeat (first | exact (Kd.R_reads' HO428.out).2.2 | (with_reducible refine Kd.C_alloc ?_ _) | (with_reducible refine Kd.C_drewN ?_ _) | (with_reducible refine Kd.C_drew ?_))); (case side2 => exact (Kd.R_reads' HO428.out).2.1); rintro e w' ⟨rfl, ⟨nd, rfl⟩⟩; refine ⟨_, rfl, ?_⟩) | ((with_reducible refine gate_callee (f := 46) rfl ?_); refine gL (some 223) rfl rfl Try.func46 (by kernel_rfl) rfl #[.slice A1 l1.length c1] rfl ?_; (with_reducible refine (spec_DrawWordOfRank.calls _ _ l1 t433 _ ?side1 ?side2 A166.out).mono ?_); (case side1 => repeat (first | exact (Kd.C_below HR1.out bq) | (with_reducible refine Kd.C_alloc ?_ _) | (with_reducible refine Kd.C_drewN ?_ _) | (with_reducible refine Kd.C_drew ?_))); (case side2 => exact HC1.out); rintro e w173 ⟨rfl, hb⟩; refine ⟨_, rfl, ?_⟩; have n0_ := Aside0.mk (Kd.R_below (by (with_reducible repeat (first | apply Kd.R_alloc | apply Kd.R_drewN | apply Kd.R_drew)); exact HO428.out) hb); have n1_ := Aside0.mk (below_step bq hb); clear HO428; clear HB; have HO428 := n0_; have HB := n1_; clear n0_ n1_; (try clear hb); (try clear hb2); (try clear hk); (try clear hi)) | ((with_reducible refine gate_callee (f := 47) rfl ?_); refine gL (some 226) rfl rfl Try.func47 (by kernel_rfl) rfl #[.int .i64 t433] rfl ?_; (with_reducible refine (impl_WordOfRank.calls kj97 t433 t434 t435 _ A167.out).mono ?_); rintro e w174 ⟨v436, rfl, ho0, hb⟩; refine ⟨_, rfl, ?_⟩; have n0_ := Aside0.mk (Kd.R_elder' (by (with_reducible repeat (first | apply Kd.R_alloc | apply Kd.R_drewN | apply Kd.R_drew)); exact HO428.out) (Kd.R_base ho0) hb); have n1_ := Aside0.mk (Kd.R_lower (Kd.R_new' ho0 (Kd.R_lt (by (with_reducible repeat (first | apply Kd.R_alloc | apply Kd.R_drewN | apply Kd.R_drew)); exact HO428.out))) (below_size bq)); have n2_ := Aside0.mk (below_step bq hb); clear HO428; clear HB; have HO428 := n0_; have HO437 := n1_; have HB := n2_; clear n0_ n1_ n2_; (try clear hb); (try clear hb2); (try clear hk); (try clear hi); (try clear ho0)) | ((with_reducible refine gate_callee (f := 48) rfl ?_); refine gL (some 231) rfl rfl Try.func48 (by kernel_rfl) rfl #[.int .i64 t433] rfl ?_; (with_reducible refine (spec_WordOfRank.calls kj97 t433 t438 t439 _ A168.out).mono ?_); rintro e w175 ⟨v440, rfl, ho0, hb⟩; refine ⟨_, rfl, ?_⟩; have n0_ := Aside0.mk (Kd.R_elder' (by (with_reducible repeat (first | apply Kd.R_alloc | apply Kd.R_drewN | apply Kd.R_drew)); exact HO428.out) (Kd.R_base ho0) hb); have n1_ := Aside0.mk (Kd.R_elder' (by (with_reducible repeat (first | apply Kd.R_alloc | apply Kd.R_drewN | apply Kd.R_drew)); exact HO437.out) (Kd.R_base ho0) hb); have n2_ := Aside0.mk (Kd.R_lower (Kd.R_new' (Kd.R_new' ho0 (Kd.R_lt (by (with_reducible repeat (first | apply Kd.R_alloc | apply Kd.R_drewN | apply Kd.R_drew)); exact HO428.out))) (Kd.R_lt (by (with_reducible repeat (first | apply Kd.R_alloc | apply Kd.R_drewN | apply Kd.R_drew)); exact HO437.out))) (below_size bq)); have n3_ := Aside0.mk (below_step bq hb); clear HO428; clear HO437; clear HB; have HO428 := n0_; have HO437 := n1_; have HO441 := n2_; have HB := n3_; clear n0_ n1_ n2_ n3_; (try clear hb); (try clear hb2); (try clear hk); (try clear hi); (try clear ho0)))
                      (try simp only [Act.put, List.setIfInBounds_toArray, List.set_cons_zero, List.set_cons_succ])
                      go_cut [252] (fun v252 wc => ∃ (kq : Nat) (x252_168 : Bool), v252 = .bool x252_168 ∧ Aside0 (laws_FnWordsOfTriples.j5 kq t426 t429 t430 t433 t434 t435 x252_168 = some r) ∧ Aside0 (kq ≤ kj97) ∧ Aside0 (Kd.R (Kd.int .i64) 3 wc w.heap.size (fun k_ => some k_ ≠ (v436 : Value).ownBlock) (.slice Ao171 t426.length co171) t426) ∧ Aside0 (Kd.R (Kd.int .i64) 3 wc w.heap.size (fun k_ => some k_ ≠ ((.slice Ao171 t426.length co171) : Value).ownBlock) v436 t434) ∧ Aside0 (Below w.heap.size w wc))
                      case first =>
                       as_aux_lemma =>
                        have H := HC169.out
                        clear HC169
                        by_cases c176 : (t430 != t432) = true
                        ·
                         rw [if_pos c176] at H
                         exact absurd (H.trans (congrArg some hrT)) (fun h_ => laws_FnWordsOfTriples.j5_no h_)
                        ·
                         rw [if_neg c176] at H
                         have c176b0 : (t430 != t432) = false := by simpa using c176
                         (try (have c176b1 : decide (t430 = t432) = true := by simpa using c176))
                         (try (have c176b2 : (t430 == t432) = true := by simpa using c176))
                         clear c176
                         (first | rw [c176b0] | (simp only [i64_w, i32_w]; rw [c176b0]) | skip)
                         by_cases c177 : t429 = t431
                         ·
                          rw [if_pos c177] at H
                          have c177b0 : (t429 == t431) = true := beq_iff_eq.mpr c177
                          have c177b1 : (t429 != t431) = false := bne_eq_false_iff_eq.mpr c177
                          clear c177
                          by_cases c178 : (t435 != t439) = true
                          ·
                           rw [if_pos c178] at H
                           exact absurd (H.trans (congrArg some hrT)) (fun h_ => laws_FnWordsOfTriples.j5_no h_)
                          ·
                           rw [if_neg c178] at H
                           have c178b0 : (t435 != t439) = false := by simpa using c178
                           (try (have c178b1 : decide (t435 = t439) = true := by simpa using c178))
                           (try (have c178b2 : (t435 == t439) = true := by simpa using c178))
                           clear c178
                           replace H := Option.bind_eq_some_iff.mp H
                           obtain ⟨t442, A1790, H⟩ := H
                           replace H : (laws_FnWordsOfTriples.j5 kj97 t426 t429 t430 t433 t434 t435 (!t442)) = some r := H
                           have A179 := Aside0.mk A1790
                           clear A1790
                           have H' := Aside0.mk H
                           clear H
                           obtain ⟨Ao180, co180, eo180⟩ := Kd.R_slice HO437.out
                           subst eo180
                           obtain ⟨Ao181, co181, eo181⟩ := Kd.R_slice HO441.out
                           subst eo181
                           go_wp2_with (first | (go_at_call 11; (with_reducible refine (laws_vSame.calls kj97 _ _ t434 _ _ t438 t442 _ ?side1 ?side2 ?side3 ?side4 A179.out).mono ?_); (case side1 => repeat (first | exact (Kd.R_reads' HO437.out).2.2 | (with_reducible refine Kd.C_alloc ?_ _) | (with_reducible refine Kd.C_drewN ?_ _) | (with_reducible refine Kd.C_drew ?_))); (case side2 => exact (Kd.R_reads' HO437.out).2.1); (case side3 => repeat (first | exact (Kd.R_reads' HO441.out).2.2 | (with_reducible refine Kd.C_alloc ?_ _) | (with_reducible refine Kd.C_drewN ?_ _) | (with_reducible refine Kd.C_drew ?_))); (case side4 => exact (Kd.R_reads' HO441.out).2.1); rintro e w' ⟨rfl, ⟨nd, rfl⟩⟩))
                           go_meet
                           case rel => exact ⟨_, (!t442), e2, H', ⟨by have := HJ9.out; have := HJ30.out; have := HJ44.out; have := HJ63.out; have := HJ97.out; first | omega | exact Nat.le_refl _⟩, ⟨by (with_reducible repeat (first | apply Kd.R_alloc | apply Kd.R_drewN | apply Kd.R_drew)); exact Kd.R_mono HO428.out (fun _ hk => hk.1.2)⟩, ⟨by (with_reducible repeat (first | apply Kd.R_alloc | apply Kd.R_drewN | apply Kd.R_drew)); exact Kd.R_mono HO437.out (fun _ hk => hk.1.2)⟩, ⟨bq⟩⟩
                         ·
                          rw [if_neg c177] at H
                          exact absurd (H.trans (congrArg some hrT)) (fun h_ => laws_FnWordsOfTriples.j5_no h_)
                      case rest =>
                       as_aux_lemma =>
                        clear HC169; (try clear c1); (try clear c2); (try clear p2); (try clear c3); (try clear c4); (try clear c5); (try clear c7); (try clear c8); (try clear c9); (try clear c10); (try clear c14); (try clear c17); (try clear c17b0); (try clear c17b1); (try clear c17b2); (try clear c19); (try clear c20); (try clear c20b0); (try clear c20b1); (try clear c20b2); (try clear c30); (try clear c31); (try clear c32); (try clear c34); (try clear c35); (try clear c36); (try clear c37); (try clear c38); (try clear c39); (try clear c40); (try clear c41); (try clear c42); (try clear c43); (try clear c44); (try clear c45); (try clear c46); (try clear c47); (try clear c48); (try clear c50); (try clear c71); (try clear c71b0); (try clear c71b1); (try clear c71b2); (try clear c73); (try clear c74); (try clear c74b0); (try clear c74b1); (try clear c74b2); (try clear c78); (try clear c80); (try clear c80b0); (try clear c80b1); (try clear c80b2); (try clear c97); (try clear c99); (try clear c102); (try clear c102b0); (try clear c102b1); (try clear c103); (try clear c105); (try clear c106); (try clear c106b0); (try clear c106b1); (try clear c107); (try clear c109); (try clear c141); (try clear c141b0); (try clear c141b1); (try clear c142); (try clear c144); (try clear c176); (try clear c176b0); (try clear c176b1); (try clear c176b2); (try clear c177); (try clear c177b0); (try clear c177b1); (try clear c178); (try clear c178b0); (try clear c178b1); (try clear c178b2); (try clear p2)
                        obtain ⟨kq, x252_168, rfl, HA, HJ168, HO_31, HO_37, HB⟩ := hcut
                        cases kq with
                        | zero => exact absurd HA.out (by simp [laws_FnWordsOfTriples.j5])
                        | succ kj168 =>
                         have H := HA.out
                         clear HA
                         simp only [laws_FnWordsOfTriples.j5] at H
                         by_cases c182 : x252_168 = true
                         ·
                          subst c182
                          have H1 : (some false) = some r := by rw [if_pos rfl] at H; exact H
                          exact absurd (H1.trans (congrArg some hrT)) (by simp)
                         ·
                          as_aux_lemma =>
                           replace c182 := Bool.eq_false_iff.mpr c182
                           subst c182
                           have H1 : (if t430 = true then ((impl_WordOfRank.f kj168 t429).bind fun bt443 => (if bt443.2 = true then ((laws_vSame.f kj168 bt443.1 t426).bind fun t447 => (laws_FnWordsOfTriples.j6 kj168 t433 t434 t435 (!t447))) else (laws_FnWordsOfTriples.j6 kj168 t433 t434 t435 true))) else (if t435 = true then ((impl_RankOfWord.f kj168 t434).bind fun bt450 => (if bt450.2 = true then (some (bt450.1 == t433)) else (some false))) else (some true))) = some r := by rw [if_neg (show ¬ (false = true) by decide)] at H; exact H
                           clear H
                           have H := H1
                           clear H1
                           by_cases c183 : t430 = true
                           ·
                            as_aux_lemma =>
                             subst c183
                             have H1 : ((impl_WordOfRank.f kj168 t429).bind fun bt443 => (if bt443.2 = true then ((laws_vSame.f kj168 bt443.1 t426).bind fun t447 => (laws_FnWordsOfTriples.j6 kj168 t433 t434 t435 (!t447))) else (laws_FnWordsOfTriples.j6 kj168 t433 t434 t435 true))) = some r := by rw [if_pos rfl] at H; exact H
                             clear H
                             have H := H1
                             clear H1
                             replace H := Option.bind_eq_some_iff.mp H
                             obtain ⟨⟨t443, t444⟩, A1840, H⟩ := H
                             replace H : (if t444 = true then ((laws_vSame.f kj168 t443 t426).bind fun t447 => (laws_FnWordsOfTriples.j6 kj168 t433 t434 t435 (!t447))) else (laws_FnWordsOfTriples.j6 kj168 t433 t434 t435 true)) = some r := H
                             have A184 := Aside0.mk A1840
                             clear A1840
                             have HC185 := Aside0.mk H
                             clear H
                             go_upto_region 40 with (first | ((with_reducible refine gate_callee (f := 47) rfl ?_); refine gL (some 256) rfl rfl Try.func47 (by kernel_rfl) rfl #[.int .i64 t429] rfl ?_; (with_reducible refine (impl_WordOfRank.calls kj168 t429 t443 t444 _ A184.out).mono ?_); rintro e w186 ⟨v445, rfl, ho0, hb⟩; refine ⟨_, rfl, ?_⟩; have n0_ := Aside0.mk (Kd.R_elder' (by (with_reducible repeat (first | apply Kd.R_alloc | apply Kd.R_drewN | apply Kd.R_drew)); exact HO_31.out) (Kd.R_base ho0) hb); have n1_ := Aside0.mk (Kd.R_elder' (by (with_reducible repeat (first | apply Kd.R_alloc | apply Kd.R_drewN | apply Kd.R_drew)); exact HO_37.out) (Kd.R_base ho0) hb); have n2_ := Aside0.mk (Kd.R_lower (Kd.R_new' (Kd.R_new' ho0 (Kd.R_lt (by (with_reducible repeat (first | apply Kd.R_alloc | apply Kd.R_drewN | apply Kd.R_drew)); exact HO_31.out))) (Kd.R_lt (by (with_reducible repeat (first | apply Kd.R_alloc | apply Kd.R_drewN | apply Kd.R_drew)); exact HO_37.out))) (below_size bq)); have n3_ := Aside0.mk (below_step bq hb); clear HO_31; clear HO_37; clear HB; have HO_31 := n0_; have HO_37 := n1_; have HO446 := n2_; have HB := n3_; clear n0_ n1_ n2_ n3_; (try clear hb); (try clear hb2); (try clear hk); (try clear hi); (try clear ho0)))
                             (try simp only [Act.put, List.setIfInBounds_toArray, List.set_cons_zero, List.set_cons_succ])
                             go_cut [266] (fun v266 wc => ∃ (kq : Nat) (x266_184 : Bool), v266 = .bool x266_184 ∧ Aside0 (laws_FnWordsOfTriples.j6 kq t433 t434 t435 x266_184 = some r) ∧ Aside0 (kq ≤ kj168) ∧ Aside0 (Kd.R (Kd.int .i64) 3 wc w.heap.size (fun _ => True) v436 t434) ∧ Aside0 (Below w.heap.size w wc))
                             case first =>
                              as_aux_lemma =>
                               have H := HC185.out
                               clear HC185
                               by_cases c187 : t444 = true
                               ·
                                subst c187
                                have H1 : ((laws_vSame.f kj168 t443 t426).bind fun t447 => (laws_FnWordsOfTriples.j6 kj168 t433 t434 t435 (!t447))) = some r := by rw [if_pos rfl] at H; exact H
                                clear H
                                have H := H1
                                clear H1
                                replace H := Option.bind_eq_some_iff.mp H
                                obtain ⟨t447, A1880, H⟩ := H
                                replace H : (laws_FnWordsOfTriples.j6 kj168 t433 t434 t435 (!t447)) = some r := H
                                have A188 := Aside0.mk A1880
                                clear A1880
                                have H' := Aside0.mk H
                                clear H
                                obtain ⟨Ao189, co189, eo189⟩ := Kd.R_slice HO446.out
                                subst eo189
                                go_wp2_with (first | (go_at_call 11; (with_reducible refine (laws_vSame.calls kj168 _ _ t443 _ _ t426 t447 _ ?side1 ?side2 ?side3 ?side4 A188.out).mono ?_); (case side1 => repeat (first | exact (Kd.R_reads' HO446.out).2.2 | (with_reducible refine Kd.C_alloc ?_ _) | (with_reducible refine Kd.C_drewN ?_ _) | (with_reducible refine Kd.C_drew ?_))); (case side2 => exact (Kd.R_reads' HO446.out).2.1); (case side3 => repeat (first | exact (Kd.R_reads' HO_31.out).2.2 | (with_reducible refine Kd.C_alloc ?_ _) | (with_reducible refine Kd.C_drewN ?_ _) | (with_reducible refine Kd.C_drew ?_))); (case side4 => exact (Kd.R_reads' HO_31.out).2.1); rintro e w' ⟨rfl, ⟨nd, rfl⟩⟩))
                                go_meet
                                case rel => exact ⟨_, (!t447), e2, H', ⟨by have := HJ9.out; have := HJ30.out; have := HJ44.out; have := HJ63.out; have := HJ97.out; have := HJ168.out; first | omega | exact Nat.le_refl _⟩, ⟨by (with_reducible repeat (first | apply Kd.R_alloc | apply Kd.R_drewN | apply Kd.R_drew)); exact Kd.R_mono HO_37.out (fun _ hk => trivial)⟩, ⟨bq⟩⟩
                               ·
                                replace c187 := Bool.eq_false_iff.mpr c187
                                subst c187
                                have H1 : (laws_FnWordsOfTriples.j6 kj168 t433 t434 t435 true) = some r := by rw [if_neg (show ¬ (false = true) by decide)] at H; exact H
                                exact absurd (H1.trans (congrArg some hrT)) (fun h_ => laws_FnWordsOfTriples.j6_no h_)
                             case rest =>
                              as_aux_lemma =>
                               clear HC185; (try clear c1); (try clear c2); (try clear p2); (try clear c3); (try clear c4); (try clear c5); (try clear c7); (try clear c8); (try clear c9); (try clear c10); (try clear c14); (try clear c17); (try clear c17b0); (try clear c17b1); (try clear c17b2); (try clear c18); (try clear c19); (try clear c20); (try clear c20b0); (try clear c20b1); (try clear c20b2); (try clear c30); (try clear c31); (try clear c32); (try clear c34); (try clear c35); (try clear c36); (try clear c37); (try clear c38); (try clear c39); (try clear c40); (try clear c41); (try clear c42); (try clear c43); (try clear c44); (try clear c45); (try clear c46); (try clear c47); (try clear c48); (try clear c50); (try clear c71); (try clear c71b0); (try clear c71b1); (try clear c71b2); (try clear c73); (try clear c74); (try clear c74b0); (try clear c74b1); (try clear c74b2); (try clear c78); (try clear c80); (try clear c80b0); (try clear c80b1); (try clear c80b2); (try clear c97); (try clear c99); (try clear c102); (try clear c102b0); (try clear c102b1); (try clear c103); (try clear c105); (try clear c106); (try clear c106b0); (try clear c106b1); (try clear c107); (try clear c109); (try clear c141); (try clear c141b0); (try clear c141b1); (try clear c142); (try clear c144); (try clear c176); (try clear c176b0); (try clear c176b1); (try clear c176b2); (try clear c177); (try clear c177b0); (try clear c177b1); (try clear c178); (try clear c178b0); (try clear c178b1); (try clear c178b2); (try clear c182); (try clear c183); (try clear c187); (try clear p2)
                               obtain ⟨kq, x266_184, rfl, HA, HJ184, HO_37, HB⟩ := hcut
                               cases kq with
                               | zero => exact absurd HA.out (by simp [laws_FnWordsOfTriples.j6])
                               | succ kj184 =>
                                have H := HA.out
                                clear HA
                                simp only [laws_FnWordsOfTriples.j6] at H
                                by_cases c190 : x266_184 = true
                                ·
                                 subst c190
                                 have H1 : (some false) = some r := by rw [if_pos rfl] at H; exact H
                                 exact absurd (H1.trans (congrArg some hrT)) (by simp)
                                ·
                                 replace c190 := Bool.eq_false_iff.mpr c190
                                 subst c190
                                 have H1 : (if t435 = true then ((impl_RankOfWord.f kj184 t434).bind fun bt448 => (if bt448.2 = true then (some (bt448.1 == t433)) else (some false))) else (some true)) = some r := by rw [if_neg (show ¬ (false = true) by decide)] at H; exact H
                                 clear H
                                 have H := H1
                                 clear H1
                                 by_cases c191 : t435 = true
                                 ·
                                  subst c191
                                  have H1 : ((impl_RankOfWord.f kj184 t434).bind fun bt448 => (if bt448.2 = true then (some (bt448.1 == t433)) else (some false))) = some r := by rw [if_pos rfl] at H; exact H
                                  clear H
                                  have H := H1
                                  clear H1
                                  replace H := Option.bind_eq_some_iff.mp H
                                  obtain ⟨⟨t448, t449⟩, A1920, H⟩ := H
                                  replace H : (if t449 = true then (some (t448 == t433)) else (some false)) = some r := H
                                  have A192 := Aside0.mk A1920
                                  clear A1920
                                  by_cases c193 : t449 = true
                                  ·
                                   subst c193
                                   have H1 : (some (t448 == t433)) = some r := by rw [if_pos rfl] at H; exact H
                                   clear H
                                   have H := H1
                                   clear H1
                                   obtain rfl := Option.some.inj H
                                   obtain ⟨Ao194, co194, eo194⟩ := Kd.R_slice HO_37.out
                                   subst eo194
                                   go_wp2_with (first | ((with_reducible refine gate_callee (f := 44) rfl ?_); refine gL (some 270) rfl rfl Try.func44 (by kernel_rfl) rfl #[.slice Ao194 t434.length co194] rfl ?_; (with_reducible refine (impl_RankOfWord.calls kj184 _ _ t434 t448 true _ ?side1 ?side2 A192.out).mono ?_); (case side1 => repeat (first | exact (Kd.R_reads' HO_37.out).2.2 | (with_reducible refine Kd.C_alloc ?_ _) | (with_reducible refine Kd.C_drewN ?_ _) | (with_reducible refine Kd.C_drew ?_))); (case side2 => exact (Kd.R_reads' HO_37.out).2.1); rintro e w195 ⟨rfl, hb⟩; refine ⟨_, rfl, ?_⟩; have n0_ := Aside0.mk (Kd.R_below (by (with_reducible repeat (first | apply Kd.R_alloc | apply Kd.R_drewN | apply Kd.R_drew)); exact HO_37.out) hb); have n1_ := Aside0.mk (below_step bq hb); clear HO_37; clear HB; have HO_37 := n0_; have HB := n1_; clear n0_ n1_; (try clear hb); (try clear hb2); (try clear hk); (try clear hi)))
                                   go_ret
                                   exact ⟨e1, bq⟩
                                  ·
                                   replace c193 := Bool.eq_false_iff.mpr c193
                                   subst c193
                                   have H1 : (some false) = some r := by rw [if_neg (show ¬ (false = true) by decide)] at H; exact H
                                   exact absurd (H1.trans (congrArg some hrT)) (by simp)
                                 ·
                                  replace c191 := Bool.eq_false_iff.mpr c191
                                  subst c191
                                  have H1 : (some true) = some r := by rw [if_neg (show ¬ (false = true) by decide)] at H; exact H
                                  clear H
                                  have H := H1
                                  clear H1
                                  obtain rfl := Option.some.inj H
                                  go_wp2
                                  go_ret
                                  exact ⟨e1, bq⟩
                           ·
                            replace c183 := Bool.eq_false_iff.mpr c183
                            subst c183
                            have H1 : (if t435 = true then ((impl_RankOfWord.f kj168 t434).bind fun bt450 => (if bt450.2 = true then (some (bt450.1 == t433)) else (some false))) else (some true)) = some r := by rw [if_neg (show ¬ (false = true) by decide)] at H; exact H
                            clear H
                            have H := H1
                            clear H1
                            by_cases c198 : t435 = true
                            ·
                             subst c198
                             have H1 : ((impl_RankOfWord.f kj168 t434).bind fun bt450 => (if bt450.2 = true then (some (bt450.1 == t433)) else (some false))) = some r := by rw [if_pos rfl] at H; exact H
                             clear H
                             have H := H1
                             clear H1
                             replace H := Option.bind_eq_some_iff.mp H
                             obtain ⟨⟨t450, t451⟩, A1990, H⟩ := H
                             replace H : (if t451 = true then (some (t450 == t433)) else (some false)) = some r := H
                             have A199 := Aside0.mk A1990
                             clear A1990
                             by_cases c200 : t451 = true
                             ·
                              subst c200
                              have H1 : (some (t450 == t433)) = some r := by rw [if_pos rfl] at H; exact H
                              clear H
                              have H := H1
                              clear H1
                              obtain rfl := Option.some.inj H
                              obtain ⟨Ao201, co201, eo201⟩ := Kd.R_slice HO_37.out
                              subst eo201
                              go_wp2_with (first | ((with_reducible refine gate_callee (f := 44) rfl ?_); refine gL (some 270) rfl rfl Try.func44 (by kernel_rfl) rfl #[.slice Ao201 t434.length co201] rfl ?_; (with_reducible refine (impl_RankOfWord.calls kj168 _ _ t434 t450 true _ ?side1 ?side2 A199.out).mono ?_); (case side1 => repeat (first | exact (Kd.R_reads' HO_37.out).2.2 | (with_reducible refine Kd.C_alloc ?_ _) | (with_reducible refine Kd.C_drewN ?_ _) | (with_reducible refine Kd.C_drew ?_))); (case side2 => exact (Kd.R_reads' HO_37.out).2.1); rintro e w202 ⟨rfl, hb⟩; refine ⟨_, rfl, ?_⟩; have n0_ := Aside0.mk (Kd.R_below (by (with_reducible repeat (first | apply Kd.R_alloc | apply Kd.R_drewN | apply Kd.R_drew)); exact HO_31.out) hb); have n1_ := Aside0.mk (Kd.R_below (by (with_reducible repeat (first | apply Kd.R_alloc | apply Kd.R_drewN | apply Kd.R_drew)); exact HO_37.out) hb); have n2_ := Aside0.mk (below_step bq hb); clear HO_31; clear HO_37; clear HB; have HO_31 := n0_; have HO_37 := n1_; have HB := n2_; clear n0_ n1_ n2_; (try clear hb); (try clear hb2); (try clear hk); (try clear hi)))
                              go_ret
                              exact ⟨e1, bq⟩
                             ·
                              replace c200 := Bool.eq_false_iff.mpr c200
                              subst c200
                              have H1 : (some false) = some r := by rw [if_neg (show ¬ (false = true) by decide)] at H; exact H
                              exact absurd (H1.trans (congrArg some hrT)) (by simp)
                            ·
                             replace c198 := Bool.eq_false_iff.mpr c198
                             subst c198
                             have H1 : (some true) = some r := by rw [if_neg (show ¬ (false = true) by decide)] at H; exact H
                             clear H
                             have H := H1
                             clear H1
                             obtain rfl := Option.some.inj H
                             go_wp2
                             go_ret
                             exact ⟨e1, bq⟩

/-- THE ONE PURE STATEMENT of laws_FnWordsOfTriples: yours. -/
def laws_FnWordsOfTriples.Pure : Prop := ∀ (l0 : List Int) (l1 : List Int), l0.length ≤ maxLen → l0.length * 1 ≤ 140737488351232 → (∀ x ∈ l0, (Lit.int .u8 x).wf = true) → l1.length ≤ maxLen → l1.length * 1 ≤ 140737488351232 → (∀ x ∈ l1, (Lit.int .u8 x).wf = true) → ∃ k, laws_FnWordsOfTriples.f k l0 l1 = some true
theorem laws_FnWordsOfTriples.walk (P : laws_FnWordsOfTriples.Pure) (a0 : Option Addr) (len0 cap0 : Nat) (z0 : List Int) (a1 : Option Addr) (len1 cap1 : Nat) (z1 : List Int) (w : World) (w0 : (a0 = none ∧ len0 = 0 ∧ cap0 = 0 ∧ z0 = []) ∨ ∃ x, a0 = some x ∧ len0 ≤ cap0 ∧ cap0 ≤ maxLen ∧ z0.length = cap0 ∧ (∀ i, i < z0.length → w.cell? (x.add i) = some (.int .u8 (z0.getD i 0))) ∧ ∀ n ∈ z0, (Lit.int .u8 n).wf = true) (y0 : len0 * 1 ≤ 140737488351232) (w1 : (a1 = none ∧ len1 = 0 ∧ cap1 = 0 ∧ z1 = []) ∨ ∃ x, a1 = some x ∧ len1 ≤ cap1 ∧ cap1 ≤ maxLen ∧ z1.length = cap1 ∧ (∀ i, i < z1.length → w.cell? (x.add i) = some (.int .u8 (z1.getD i 0))) ∧ ∀ n ∈ z1, (Lit.int .u8 n).wf = true) (y1 : len1 * 1 ≤ 140737488351232) :
 Calls Try.prog 5 #[.slice a0 len0 cap0, .slice a1 len1 cap1] w fun e w' => e = .returned (.bool true) ∧ Below w.heap.size w w' := by
 obtain ⟨l0, rfl, hr0, hm0, hw0, hc0⟩ := ReadsInt.ofRowC w0
 obtain ⟨l1, rfl, hr1, hm1, hw1, hc1⟩ := ReadsInt.ofRowC w1
 obtain ⟨k, h⟩ := P l0 l1 hm0 y0 hw0 hm1 y1 hw1
 refine (laws_FnWordsOfTriples.calls k _ _ l0 _ _ l1 true w (Kd.C_of_reads (d := (0 : Int)) (h1 := fun _ => rfl) hr0) hc0 (Kd.C_of_reads (d := (0 : Int)) (h1 := fun _ => rfl) hr1) hc1 h rfl).mono ?_
 rintro e w' ⟨rfl, hd⟩
 exact ⟨rfl, hd⟩

end Go.Proofs.Ytnfbkakblnppaaa.P
