-- written by wip/mkprint.py of this work
import Derived.Test.YtlbioffpcoikaaaPWx0
import Derived.Test.YtlbioffpcoikaaaPWx26
import Derived.Test.YtlbioffpcoikaaaEGetMsg
import Derived.Test.YtlbioffpcoikaaaELive
import Derived.Test.YtlbioffpcoikaaaEPutMsg
namespace Go.Proofs.Ytlbioffpcoikaaa.PW
open Go.RowKit Go.Proofs.YtlbioffpcoikaaaW.PrintWords Go.Proofs.YtlbioffpcoikaaaW.PrintLast Go.Proofs.YtlbioffpcoikaaaW.PrintMore
attribute [local go_sem] max2_int min2_int max_two min_two max_three min_three max_four min_four   -- for this text's walks alone
set_option linter.unusedVariables false
set_option linter.unusedSimpArgs false

/-! ### tollgatelaw02_WireOwn: function 13 -/
mutual
def tollgatelaw02_WireOwn.l0 : Nat → List Int → Int → Int → Int → Int → Int → Int → Int → Int → Int → Int → Int → Bool → List (S34) → List Int → Int → Int → Int → Int → Int → Int → Int → Int → Int → Bool → List (S34) → List Int → Option (Bool)
 | 0, _, _, _, _, _, _, _, _, _, _, _, _, _, _, _, _, _, _, _, _, _, _, _, _, _, _, _ => none
 | k + 1, x3, x6, x7, x528000, x528001, x528002, x528003, x528004, x528005, x528006, x528007, x528008, x528009, x528010, x528011, x551000, x551001, x551002, x551003, x551004, x551005, x551006, x551007, x551008, x551009, x551010, x551011 => if x7 < (x3.length : Int) then (if 0 ≤ x7 then (tollgatelaw02_WireOwn.l0 k (x3.set (x7 : Int).toNat (Go.bits .xor .u8 (rd x3 x7) 255)) x6 (wrap64 (x7 + 1)) x528000 x528001 x528002 x528003 x528004 x528005 x528006 x528007 x528008 x528009 x528010 x528011 x551000 x551001 x551002 x551003 x551004 x551005 x551006 x551007 x551008 x551009 x551010 x551011) else (none)) else (if x6 = 0 then ((tollgateref02_SameMsg.f k x551000 x551001 x551002 x551003 x551004 x551005 x551006 x551007 x551008 x551009 x551010 x551011 x528000 x528001 x528002 x528003 x528004 x528005 x528006 x528007 x528008 x528009 x528010 x528011).bind fun t553 => (tollgatelaw02_WireOwn.j1 k (!t553) x528000 x528001 x528002 x528003 x528004 x528005 x528006 x528007 x528008 x528009 x528010 x528011 x551000 x551001 x551002 x551003 x551004 x551005 x551006 x551007 x551008 x551009 x551010 x551011)) else (tollgatelaw02_WireOwn.j1 k true x528000 x528001 x528002 x528003 x528004 x528005 x528006 x528007 x528008 x528009 x528010 x528011 x551000 x551001 x551002 x551003 x551004 x551005 x551006 x551007 x551008 x551009 x551010 x551011))
def tollgatelaw02_WireOwn.j1 : Nat → Bool → Int → Int → Int → Int → Int → Int → Int → Int → Int → Bool → List (S34) → List Int → Int → Int → Int → Int → Int → Int → Int → Int → Int → Bool → List (S34) → List Int → Option (Bool)
 | 0, _, _, _, _, _, _, _, _, _, _, _, _, _, _, _, _, _, _, _, _, _, _, _, _, _ => none
 | k + 1, x43, x528000, x528001, x528002, x528003, x528004, x528005, x528006, x528007, x528008, x528009, x528010, x528011, x551000, x551001, x551002, x551003, x551004, x551005, x551006, x551007, x551008, x551009, x551010, x551011 => if x43 = true then (some false) else (tollgatelaw02_WireOwn.l1 k 0 x528000 x528001 x528002 x528003 x528004 x528005 x528006 x528007 x528008 x528009 x528010 x528011 x551000 x551001 x551002 x551003 x551004 x551005 x551006 x551007 x551008 x551009 x551010 x551011)
def tollgatelaw02_WireOwn.l1 : Nat → Int → Int → Int → Int → Int → Int → Int → Int → Int → Int → Bool → List (S34) → List Int → Int → Int → Int → Int → Int → Int → Int → Int → Int → Bool → List (S34) → List Int → Option (Bool)
 | 0, _, _, _, _, _, _, _, _, _, _, _, _, _, _, _, _, _, _, _, _, _, _, _, _, _ => none
 | k + 1, x8, x528000, x528001, x528002, x528003, x528004, x528005, x528006, x528007, x528008, x528009, x528010, x528011, x551000, x551001, x551002, x551003, x551004, x551005, x551006, x551007, x551008, x551009, x551010, x551011 => if x8 < (x551010.length : Int) then (if 0 ≤ x8 then (if ((rd_T34 x551010 x8).f3).length < 140737488355328 then (tollgatelaw02_WireOwn.l1 k (wrap64 (x8 + 1)) x528000 x528001 x528002 x528003 x528004 x528005 x528006 x528007 x528008 x528009 x528010 x528011 x551000 x551001 x551002 x551003 x551004 x551005 x551006 x551007 x551008 x551009 (x551010.set (x8 : Int).toNat (⟨(rd_T34 x551010 x8).f0, (rd_T34 x551010 x8).f1, (rd_T34 x551010 x8).f2, (((rd_T34 x551010 x8).f3) ++ [9])⟩ : S34)) x551011) else (none)) else (none)) else (if x551011.length < 140737488355328 then (tollgatelaw02_WireOwn.l2 k 0 x528000 x528001 x528002 x528003 x528004 x528005 x528006 x528007 x528008 x528009 x528010 x528011 x551000 x551001 x551002 x551003 x551004 x551005 x551006 x551007 x551008 x551009 x551010 (x551011 ++ [9])) else (none))
def tollgatelaw02_WireOwn.l2 : Nat → Int → Int → Int → Int → Int → Int → Int → Int → Int → Int → Bool → List (S34) → List Int → Int → Int → Int → Int → Int → Int → Int → Int → Int → Bool → List (S34) → List Int → Option (Bool)
 | 0, _, _, _, _, _, _, _, _, _, _, _, _, _, _, _, _, _, _, _, _, _, _, _, _, _ => none
 | k + 1, x9, x528000, x528001, x528002, x528003, x528004, x528005, x528006, x528007, x528008, x528009, x528010, x528011, x551000, x551001, x551002, x551003, x551004, x551005, x551006, x551007, x551008, x551009, x551010, x551011 => if x9 < (x551010.length : Int) then (tollgatelaw02_WireOwn.j4 k x9 (decide (x9 < (x528010.length : Int))) x528000 x528001 x528002 x528003 x528004 x528005 x528006 x528007 x528008 x528009 x528010 x528011 x551000 x551001 x551002 x551003 x551004 x551005 x551006 x551007 x551008 x551009 x551010 x551011) else (tollgatelaw02_WireOwn.j4 k x9 false x528000 x528001 x528002 x528003 x528004 x528005 x528006 x528007 x528008 x528009 x528010 x528011 x551000 x551001 x551002 x551003 x551004 x551005 x551006 x551007 x551008 x551009 x551010 x551011)
def tollgatelaw02_WireOwn.j4 : Nat → Int → Bool → Int → Int → Int → Int → Int → Int → Int → Int → Int → Bool → List (S34) → List Int → Int → Int → Int → Int → Int → Int → Int → Int → Int → Bool → List (S34) → List Int → Option (Bool)
 | 0, _, _, _, _, _, _, _, _, _, _, _, _, _, _, _, _, _, _, _, _, _, _, _, _, _, _ => none
 | k + 1, x9, x80, x528000, x528001, x528002, x528003, x528004, x528005, x528006, x528007, x528008, x528009, x528010, x528011, x551000, x551001, x551002, x551003, x551004, x551005, x551006, x551007, x551008, x551009, x551010, x551011 => if x80 = true then (if 0 ≤ x9 then (if x9 < (x551010.length : Int) then (if x9 < (x528010.length : Int) then (if (((rd_T34 x551010 x9).f3).length : Int) = (wrap64 ((((rd_T34 x528010 x9).f3).length : Int) + 1)) then (if 0 ≤ (wrap64 ((((rd_T34 x551010 x9).f3).length : Int) - 1)) then (if (wrap64 ((((rd_T34 x551010 x9).f3).length : Int) - 1)) ≤ (((rd_T34 x551010 x9).f3).length : Int) then (if (strOfNums (((rd_T34 x551010 x9).f3).take ((wrap64 ((((rd_T34 x551010 x9).f3).length : Int) - 1)) : Int).toNat)).toList = (strOfNums ((rd_T34 x528010 x9).f3)).toList then (tollgatelaw02_WireOwn.l2 k (wrap64 (x9 + 1)) x528000 x528001 x528002 x528003 x528004 x528005 x528006 x528007 x528008 x528009 x528010 x528011 x551000 x551001 x551002 x551003 x551004 x551005 x551006 x551007 x551008 x551009 x551010 x551011) else (some false)) else (none)) else (none)) else (some false)) else (none)) else (none)) else (none)) else ((tollgatelaw02_live.f).bind fun t570 => (some t570))
end
def tollgatelaw02_WireOwn.f (k : Nat) (a0_0 : Int) (a0_1 : Int) (a0_2 : Int) (a0_3 : Int) (a0_4 : Int) (a0_5 : Int) (a0_6 : Int) (a0_7 : Int) (a0_8 : Int) (a0_9 : Bool) (l0_10 : List (S34)) (l0_11 : List Int) : Option (Bool) := (wire_PutMsg.f a0_0 a0_1 a0_2 a0_3 a0_4 a0_5 a0_6 a0_7 a0_8 a0_9 l0_10 l0_11).bind fun bt528 => (if bt528.2 = 0 then ((wire_GetMsg.f bt528.1).bind fun bt533 => (tollgatelaw02_WireOwn.l0 k bt528.1 bt533.2.2.2.2.2.2.2.2.2.2.2.2 0 a0_0 a0_1 a0_2 a0_3 a0_4 a0_5 a0_6 a0_7 a0_8 a0_9 l0_10 l0_11 bt533.1 bt533.2.1 bt533.2.2.1 bt533.2.2.2.1 bt533.2.2.2.2.1 bt533.2.2.2.2.2.1 bt533.2.2.2.2.2.2.1 bt533.2.2.2.2.2.2.2.1 bt533.2.2.2.2.2.2.2.2.1 bt533.2.2.2.2.2.2.2.2.2.1 bt533.2.2.2.2.2.2.2.2.2.2.1 bt533.2.2.2.2.2.2.2.2.2.2.2.1)) else ((tollgatelaw02_live.f).bind fun t532 => (some t532)))
theorem tollgatelaw02_WireOwn.mono_l : ∀ k, (∀ y0 y1 y2 y3 y4 y5 y6 y7 y8 y9 y10 y11 y12 y13 y14 y15 y16 y17 y18 y19 y20 y21 y22 y23 y24 y25 y26, LeO (tollgatelaw02_WireOwn.l0 k y0 y1 y2 y3 y4 y5 y6 y7 y8 y9 y10 y11 y12 y13 y14 y15 y16 y17 y18 y19 y20 y21 y22 y23 y24 y25 y26) (tollgatelaw02_WireOwn.l0 (k + 1) y0 y1 y2 y3 y4 y5 y6 y7 y8 y9 y10 y11 y12 y13 y14 y15 y16 y17 y18 y19 y20 y21 y22 y23 y24 y25 y26)) ∧ (∀ y0 y1 y2 y3 y4 y5 y6 y7 y8 y9 y10 y11 y12 y13 y14 y15 y16 y17 y18 y19 y20 y21 y22 y23 y24, LeO (tollgatelaw02_WireOwn.j1 k y0 y1 y2 y3 y4 y5 y6 y7 y8 y9 y10 y11 y12 y13 y14 y15 y16 y17 y18 y19 y20 y21 y22 y23 y24) (tollgatelaw02_WireOwn.j1 (k + 1) y0 y1 y2 y3 y4 y5 y6 y7 y8 y9 y10 y11 y12 y13 y14 y15 y16 y17 y18 y19 y20 y21 y22 y23 y24)) ∧ (∀ y0 y1 y2 y3 y4 y5 y6 y7 y8 y9 y10 y11 y12 y13 y14 y15 y16 y17 y18 y19 y20 y21 y22 y23 y24, LeO (tollgatelaw02_WireOwn.l1 k y0 y1 y2 y3 y4 y5 y6 y7 y8 y9 y10 y11 y12 y13 y14 y15 y16 y17 y18 y19 y20 y21 y22 y23 y24) (tollgatelaw02_WireOwn.l1 (k + 1) y0 y1 y2 y3 y4 y5 y6 y7 y8 y9 y10 y11 y12 y13 y14 y15 y16 y17 y18 y19 y20 y21 y22 y23 y24)) ∧ (∀ y0 y1 y2 y3 y4 y5 y6 y7 y8 y9 y10 y11 y12 y13 y14 y15 y16 y17 y18 y19 y20 y21 y22 y23 y24, LeO (tollgatelaw02_WireOwn.l2 k y0 y1 y2 y3 y4 y5 y6 y7 y8 y9 y10 y11 y12 y13 y14 y15 y16 y17 y18 y19 y20 y21 y22 y23 y24) (tollgatelaw02_WireOwn.l2 (k + 1) y0 y1 y2 y3 y4 y5 y6 y7 y8 y9 y10 y11 y12 y13 y14 y15 y16 y17 y18 y19 y20 y21 y22 y23 y24)) ∧ (∀ y0 y1 y2 y3 y4 y5 y6 y7 y8 y9 y10 y11 y12 y13 y14 y15 y16 y17 y18 y19 y20 y21 y22 y23 y24 y25, LeO (tollgatelaw02_WireOwn.j4 k y0 y1 y2 y3 y4 y5 y6 y7 y8 y9 y10 y11 y12 y13 y14 y15 y16 y17 y18 y19 y20 y21 y22 y23 y24 y25) (tollgatelaw02_WireOwn.j4 (k + 1) y0 y1 y2 y3 y4 y5 y6 y7 y8 y9 y10 y11 y12 y13 y14 y15 y16 y17 y18 y19 y20 y21 y22 y23 y24 y25))
 | 0 => ⟨fun _ _ _ _ _ _ _ _ _ _ _ _ _ _ _ _ _ _ _ _ _ _ _ _ _ _ _ r h => by simp [tollgatelaw02_WireOwn.l0] at h, fun _ _ _ _ _ _ _ _ _ _ _ _ _ _ _ _ _ _ _ _ _ _ _ _ _ r h => by simp [tollgatelaw02_WireOwn.j1] at h, fun _ _ _ _ _ _ _ _ _ _ _ _ _ _ _ _ _ _ _ _ _ _ _ _ _ r h => by simp [tollgatelaw02_WireOwn.l1] at h, fun _ _ _ _ _ _ _ _ _ _ _ _ _ _ _ _ _ _ _ _ _ _ _ _ _ r h => by simp [tollgatelaw02_WireOwn.l2] at h, fun _ _ _ _ _ _ _ _ _ _ _ _ _ _ _ _ _ _ _ _ _ _ _ _ _ _ r h => by simp [tollgatelaw02_WireOwn.j4] at h⟩
 | k + 1 => by
  obtain ⟨ih0, ih1, ih2, ih3, ih4⟩ := tollgatelaw02_WireOwn.mono_l k
  refine ⟨?_, ?_, ?_, ?_, ?_⟩
  ·intro y0 y1 y2 y3 y4 y5 y6 y7 y8 y9 y10 y11 y12 y13 y14 y15 y16 y17 y18 y19 y20 y21 y22 y23 y24 y25 y26
   unfold tollgatelaw02_WireOwn.l0
   repeat' first
   | (with_reducible exact ih0 _ _ _ _ _ _ _ _ _ _ _ _ _ _ _ _ _ _ _ _ _ _ _ _ _ _ _)
   | (with_reducible exact ih1 _ _ _ _ _ _ _ _ _ _ _ _ _ _ _ _ _ _ _ _ _ _ _ _ _)
   | (with_reducible exact ih2 _ _ _ _ _ _ _ _ _ _ _ _ _ _ _ _ _ _ _ _ _ _ _ _ _)
   | (with_reducible exact ih3 _ _ _ _ _ _ _ _ _ _ _ _ _ _ _ _ _ _ _ _ _ _ _ _ _)
   | (with_reducible exact ih4 _ _ _ _ _ _ _ _ _ _ _ _ _ _ _ _ _ _ _ _ _ _ _ _ _ _)
   | (with_reducible exact tollgateref02_SameMsg.mono _ _ _ _ _ _ _ _ _ _ _ _ _ _ _ _ _ _ _ _ _ _ _ _ _)
   | (with_reducible exact LeO.refl _)
   | (with_reducible exact LeO.none _)
   | (with_reducible refine LeO.ite ?_ ?_)
   | (with_reducible refine LeO.bind ?_ (fun _ => ?_))
   | exact ih0 _ _ _ _ _ _ _ _ _ _ _ _ _ _ _ _ _ _ _ _ _ _ _ _ _ _ _
   | exact ih1 _ _ _ _ _ _ _ _ _ _ _ _ _ _ _ _ _ _ _ _ _ _ _ _ _
   | exact ih2 _ _ _ _ _ _ _ _ _ _ _ _ _ _ _ _ _ _ _ _ _ _ _ _ _
   | exact ih3 _ _ _ _ _ _ _ _ _ _ _ _ _ _ _ _ _ _ _ _ _ _ _ _ _
   | exact ih4 _ _ _ _ _ _ _ _ _ _ _ _ _ _ _ _ _ _ _ _ _ _ _ _ _ _
   | exact tollgateref02_SameMsg.mono _ _ _ _ _ _ _ _ _ _ _ _ _ _ _ _ _ _ _ _ _ _ _ _ _
   | exact LeO.none _
   | refine LeO.ite ?_ ?_
   | refine LeO.bind ?_ (fun _ => ?_)
  ·intro y0 y1 y2 y3 y4 y5 y6 y7 y8 y9 y10 y11 y12 y13 y14 y15 y16 y17 y18 y19 y20 y21 y22 y23 y24
   unfold tollgatelaw02_WireOwn.j1
   repeat' first
   | (with_reducible exact ih0 _ _ _ _ _ _ _ _ _ _ _ _ _ _ _ _ _ _ _ _ _ _ _ _ _ _ _)
   | (with_reducible exact ih1 _ _ _ _ _ _ _ _ _ _ _ _ _ _ _ _ _ _ _ _ _ _ _ _ _)
   | (with_reducible exact ih2 _ _ _ _ _ _ _ _ _ _ _ _ _ _ _ _ _ _ _ _ _ _ _ _ _)
   | (with_reducible exact ih3 _ _ _ _ _ _ _ _ _ _ _ _ _ _ _ _ _ _ _ _ _ _ _ _ _)
   | (with_reducible exact ih4 _ _ _ _ _ _ _ _ _ _ _ _ _ _ _ _ _ _ _ _ _ _ _ _ _ _)
   | (with_reducible exact tollgateref02_SameMsg.mono _ _ _ _ _ _ _ _ _ _ _ _ _ _ _ _ _ _ _ _ _ _ _ _ _)
   | (with_reducible exact LeO.refl _)
   | (with_reducible exact LeO.none _)
   | (with_reducible refine LeO.ite ?_ ?_)
   | (with_reducible refine LeO.bind ?_ (fun _ => ?_))
   | exact ih0 _ _ _ _ _ _ _ _ _ _ _ _ _ _ _ _ _ _ _ _ _ _ _ _ _ _ _
   | exact ih1 _ _ _ _ _ _ _ _ _ _ _ _ _ _ _ _ _ _ _ _ _ _ _ _ _
   | exact ih2 _ _ _ _ _ _ _ _ _ _ _ _ _ _ _ _ _ _ _ _ _ _ _ _ _
   | exact ih3 _ _ _ _ _ _ _ _ _ _ _ _ _ _ _ _ _ _ _ _ _ _ _ _ _
   | exact ih4 _ _ _ _ _ _ _ _ _ _ _ _ _ _ _ _ _ _ _ _ _ _ _ _ _ _
   | exact tollgateref02_SameMsg.mono _ _ _ _ _ _ _ _ _ _ _ _ _ _ _ _ _ _ _ _ _ _ _ _ _
   | exact LeO.none _
   | refine LeO.ite ?_ ?_
   | refine LeO.bind ?_ (fun _ => ?_)
  ·intro y0 y1 y2 y3 y4 y5 y6 y7 y8 y9 y10 y11 y12 y13 y14 y15 y16 y17 y18 y19 y20 y21 y22 y23 y24
   unfold tollgatelaw02_WireOwn.l1
   repeat' first
   | (with_reducible exact ih0 _ _ _ _ _ _ _ _ _ _ _ _ _ _ _ _ _ _ _ _ _ _ _ _ _ _ _)
   | (with_reducible exact ih1 _ _ _ _ _ _ _ _ _ _ _ _ _ _ _ _ _ _ _ _ _ _ _ _ _)
   | (with_reducible exact ih2 _ _ _ _ _ _ _ _ _ _ _ _ _ _ _ _ _ _ _ _ _ _ _ _ _)
   | (with_reducible exact ih3 _ _ _ _ _ _ _ _ _ _ _ _ _ _ _ _ _ _ _ _ _ _ _ _ _)
   | (with_reducible exact ih4 _ _ _ _ _ _ _ _ _ _ _ _ _ _ _ _ _ _ _ _ _ _ _ _ _ _)
   | (with_reducible exact tollgateref02_SameMsg.mono _ _ _ _ _ _ _ _ _ _ _ _ _ _ _ _ _ _ _ _ _ _ _ _ _)
   | (with_reducible exact LeO.refl _)
   | (with_reducible exact LeO.none _)
   | (with_reducible refine LeO.ite ?_ ?_)
   | (with_reducible refine LeO.bind ?_ (fun _ => ?_))
   | exact ih0 _ _ _ _ _ _ _ _ _ _ _ _ _ _ _ _ _ _ _ _ _ _ _ _ _ _ _
   | exact ih1 _ _ _ _ _ _ _ _ _ _ _ _ _ _ _ _ _ _ _ _ _ _ _ _ _
   | exact ih2 _ _ _ _ _ _ _ _ _ _ _ _ _ _ _ _ _ _ _ _ _ _ _ _ _
   | exact ih3 _ _ _ _ _ _ _ _ _ _ _ _ _ _ _ _ _ _ _ _ _ _ _ _ _
   | exact ih4 _ _ _ _ _ _ _ _ _ _ _ _ _ _ _ _ _ _ _ _ _ _ _ _ _ _
   | exact tollgateref02_SameMsg.mono _ _ _ _ _ _ _ _ _ _ _ _ _ _ _ _ _ _ _ _ _ _ _ _ _
   | exact LeO.none _
   | refine LeO.ite ?_ ?_
   | refine LeO.bind ?_ (fun _ => ?_)
  ·intro y0 y1 y2 y3 y4 y5 y6 y7 y8 y9 y10 y11 y12 y13 y14 y15 y16 y17 y18 y19 y20 y21 y22 y23 y24
   unfold tollgatelaw02_WireOwn.l2
   repeat' first
   | (with_reducible exact ih0 _ _ _ _ _ _ _ _ _ _ _ _ _ _ _ _ _ _ _ _ _ _ _ _ _ _ _)
   | (with_reducible exact ih1 _ _ _ _ _ _ _ _ _ _ _ _ _ _ _ _ _ _ _ _ _ _ _ _ _)
   | (with_reducible exact ih2 _ _ _ _ _ _ _ _ _ _ _ _ _ _ _ _ _ _ _ _ _ _ _ _ _)
   | (with_reducible exact ih3 _ _ _ _ _ _ _ _ _ _ _ _ _ _ _ _ _ _ _ _ _ _ _ _ _)
   | (with_reducible exact ih4 _ _ _ _ _ _ _ _ _ _ _ _ _ _ _ _ _ _ _ _ _ _ _ _ _ _)
   | (with_reducible exact tollgateref02_SameMsg.mono _ _ _ _ _ _ _ _ _ _ _ _ _ _ _ _ _ _ _ _ _ _ _ _ _)
   | (with_reducible exact LeO.refl _)
   | (with_reducible exact LeO.none _)
   | (with_reducible refine LeO.ite ?_ ?_)
   | (with_reducible refine LeO.bind ?_ (fun _ => ?_))
   | exact ih0 _ _ _ _ _ _ _ _ _ _ _ _ _ _ _ _ _ _ _ _ _ _ _ _ _ _ _
   | exact ih1 _ _ _ _ _ _ _ _ _ _ _ _ _ _ _ _ _ _ _ _ _ _ _ _ _
   | exact ih2 _ _ _ _ _ _ _ _ _ _ _ _ _ _ _ _ _ _ _ _ _ _ _ _ _
   | exact ih3 _ _ _ _ _ _ _ _ _ _ _ _ _ _ _ _ _ _ _ _ _ _ _ _ _
   | exact ih4 _ _ _ _ _ _ _ _ _ _ _ _ _ _ _ _ _ _ _ _ _ _ _ _ _ _
   | exact tollgateref02_SameMsg.mono _ _ _ _ _ _ _ _ _ _ _ _ _ _ _ _ _ _ _ _ _ _ _ _ _
   | exact LeO.none _
   | refine LeO.ite ?_ ?_
   | refine LeO.bind ?_ (fun _ => ?_)
  ·intro y0 y1 y2 y3 y4 y5 y6 y7 y8 y9 y10 y11 y12 y13 y14 y15 y16 y17 y18 y19 y20 y21 y22 y23 y24 y25
   unfold tollgatelaw02_WireOwn.j4
   repeat' first
   | (with_reducible exact ih0 _ _ _ _ _ _ _ _ _ _ _ _ _ _ _ _ _ _ _ _ _ _ _ _ _ _ _)
   | (with_reducible exact ih1 _ _ _ _ _ _ _ _ _ _ _ _ _ _ _ _ _ _ _ _ _ _ _ _ _)
   | (with_reducible exact ih2 _ _ _ _ _ _ _ _ _ _ _ _ _ _ _ _ _ _ _ _ _ _ _ _ _)
   | (with_reducible exact ih3 _ _ _ _ _ _ _ _ _ _ _ _ _ _ _ _ _ _ _ _ _ _ _ _ _)
   | (with_reducible exact ih4 _ _ _ _ _ _ _ _ _ _ _ _ _ _ _ _ _ _ _ _ _ _ _ _ _ _)
   | (with_reducible exact tollgateref02_SameMsg.mono _ _ _ _ _ _ _ _ _ _ _ _ _ _ _ _ _ _ _ _ _ _ _ _ _)
   | (with_reducible exact LeO.refl _)
   | (with_reducible exact LeO.none _)
   | (with_reducible refine LeO.ite ?_ ?_)
   | (with_reducible refine LeO.bind ?_ (fun _ => ?_))
   | exact ih0 _ _ _ _ _ _ _ _ _ _ _ _ _ _ _ _ _ _ _ _ _ _ _ _ _ _ _
   | exact ih1 _ _ _ _ _ _ _ _ _ _ _ _ _ _ _ _ _ _ _ _ _ _ _ _ _
   | exact ih2 _ _ _ _ _ _ _ _ _ _ _ _ _ _ _ _ _ _ _ _ _ _ _ _ _
   | exact ih3 _ _ _ _ _ _ _ _ _ _ _ _ _ _ _ _ _ _ _ _ _ _ _ _ _
   | exact ih4 _ _ _ _ _ _ _ _ _ _ _ _ _ _ _ _ _ _ _ _ _ _ _ _ _ _
   | exact tollgateref02_SameMsg.mono _ _ _ _ _ _ _ _ _ _ _ _ _ _ _ _ _ _ _ _ _ _ _ _ _
   | exact LeO.none _
   | refine LeO.ite ?_ ?_
   | refine LeO.bind ?_ (fun _ => ?_)
theorem tollgatelaw02_WireOwn.mono : ∀ a0 a1 a2 a3 a4 a5 a6 a7 a8 a9 a10 a11 k, LeO (tollgatelaw02_WireOwn.f k a0 a1 a2 a3 a4 a5 a6 a7 a8 a9 a10 a11) (tollgatelaw02_WireOwn.f (k + 1) a0 a1 a2 a3 a4 a5 a6 a7 a8 a9 a10 a11) := by
 intro a0 a1 a2 a3 a4 a5 a6 a7 a8 a9 a10 a11 k
 obtain ⟨ih0, ih1, ih2, ih3, ih4⟩ := tollgatelaw02_WireOwn.mono_l k
 unfold tollgatelaw02_WireOwn.f
 repeat' first
   | (with_reducible exact ih0 _ _ _ _ _ _ _ _ _ _ _ _ _ _ _ _ _ _ _ _ _ _ _ _ _ _ _)
   | (with_reducible exact ih1 _ _ _ _ _ _ _ _ _ _ _ _ _ _ _ _ _ _ _ _ _ _ _ _ _)
   | (with_reducible exact ih2 _ _ _ _ _ _ _ _ _ _ _ _ _ _ _ _ _ _ _ _ _ _ _ _ _)
   | (with_reducible exact ih3 _ _ _ _ _ _ _ _ _ _ _ _ _ _ _ _ _ _ _ _ _ _ _ _ _)
   | (with_reducible exact ih4 _ _ _ _ _ _ _ _ _ _ _ _ _ _ _ _ _ _ _ _ _ _ _ _ _ _)
   | (with_reducible exact tollgateref02_SameMsg.mono _ _ _ _ _ _ _ _ _ _ _ _ _ _ _ _ _ _ _ _ _ _ _ _ _)
   | (with_reducible exact LeO.refl _)
   | (with_reducible exact LeO.none _)
   | (with_reducible refine LeO.ite ?_ ?_)
   | (with_reducible refine LeO.bind ?_ (fun _ => ?_))
   | exact ih0 _ _ _ _ _ _ _ _ _ _ _ _ _ _ _ _ _ _ _ _ _ _ _ _ _ _ _
   | exact ih1 _ _ _ _ _ _ _ _ _ _ _ _ _ _ _ _ _ _ _ _ _ _ _ _ _
   | exact ih2 _ _ _ _ _ _ _ _ _ _ _ _ _ _ _ _ _ _ _ _ _ _ _ _ _
   | exact ih3 _ _ _ _ _ _ _ _ _ _ _ _ _ _ _ _ _ _ _ _ _ _ _ _ _
   | exact ih4 _ _ _ _ _ _ _ _ _ _ _ _ _ _ _ _ _ _ _ _ _ _ _ _ _ _
   | exact tollgateref02_SameMsg.mono _ _ _ _ _ _ _ _ _ _ _ _ _ _ _ _ _ _ _ _ _ _ _ _ _
   | exact LeO.none _
   | refine LeO.ite ?_ ?_
   | refine LeO.bind ?_ (fun _ => ?_)
def tollgatelaw02_WireOwn.T14 : Bool × List (List Nat × List Nat) := (true, [([], []), ([0], [0]), ([], []), ([], []), ([3], [3]), ([], []), ([4, 5], [4, 5]), ([6], [6]), ([7], [7]), ([], []), ([8, 9], [8, 9]), ([1, 2, 0, 1, 2, 3, 4, 5, 6, 7, 8, 9, 10], [1, 2]), ([11, 0, 1, 2, 3, 4, 5, 6, 7, 8, 9, 10], [11]), ([12, 10, 10, 0, 1, 2, 3, 4, 5, 6, 7, 8, 9, 10], [10, 12])])
def tollgatelaw02_WireOwn.B14 : List Nat := [0, 1, 0, 0, 8, 0, 56, 120, 248, 0, 1016, 2047, 4095, 8191]
theorem tollgatelaw02_WireOwn.tab14 : rtab .any (opsOf Try.f13 14) = tollgatelaw02_WireOwn.T14 := by kernel_rfl
theorem tollgatelaw02_WireOwn.bits14 : waitsOk tollgatelaw02_WireOwn.T14.2 tollgatelaw02_WireOwn.B14 = true := by kernel_rfl
def tollgatelaw02_WireOwn.T20 : Bool × List (List Nat × List Nat) := (true, [([], []), ([], []), ([1], [1]), ([], []), ([2, 3], [2, 3]), ([4], [4]), ([5], [5]), ([6], [6]), ([7], [7]), ([0, 8], [0, 8]), ([9], [9]), ([10], [10]), ([11, 10], [10, 11]), ([10], [10]), ([12, 13, 10], [10, 12, 13]), ([14, 10], [10, 14]), ([15, 10], [10, 15]), ([10], [10]), ([17, 10], [10, 17]), ([16, 18, 10], [10, 16, 18]), ([19, 10], [10, 19]), ([10], [10]), ([21, 10], [10, 21]), ([10], [10]), ([22, 23, 10], [10, 22, 23]), ([24, 10], [10, 24]), ([25, 10], [10, 25]), ([26, 10], [10, 26]), ([20, 27, 10], [10, 20, 27]), ([10, 28], [10, 28])])
def tollgatelaw02_WireOwn.B20 : List Nat := [0, 0, 2, 0, 14, 30, 62, 126, 254, 511, 1023, 2047, 4095, 2047, 16383, 32767, 65535, 2047, 133119, 524287, 1048575, 2047, 2099199, 2047, 14682111, 31459327, 65013759, 132122623, 268435455, 536870911]
theorem tollgatelaw02_WireOwn.tab20 : rtab .any (opsOf Try.f13 20) = tollgatelaw02_WireOwn.T20 := by kernel_rfl
theorem tollgatelaw02_WireOwn.bits20 : waitsOk tollgatelaw02_WireOwn.T20.2 tollgatelaw02_WireOwn.B20 = true := by kernel_rfl
set_option maxHeartbeats 8000000 in
set_option maxRecDepth 100000 in
theorem tollgatelaw02_WireOwn.calls (k : Nat) (a0_0 : Int) (a0_1 : Int) (a0_2 : Int) (a0_3 : Int) (a0_4 : Int) (a0_5 : Int) (a0_6 : Int) (a0_7 : Int) (a0_8 : Int) (a0_9 : Bool) (A0_10 : Option Addr) (c0_10 : Nat) (l0_10 : List (S34)) (A0_11 : Option Addr) (c0_11 : Nat) (l0_11 : List Int) (r : Bool) (w : World) (hr0_10 : Kd.C k34 w A0_10 l0_10.length l0_10) (hc0_10 : l0_10.length ≤ c0_10) (hr0_11 : Kd.C (Kd.int .u8) w A0_11 l0_11.length l0_11) (hc0_11 : l0_11.length ≤ c0_11) (h : tollgatelaw02_WireOwn.f k a0_0 a0_1 a0_2 a0_3 a0_4 a0_5 a0_6 a0_7 a0_8 a0_9 l0_10 l0_11 = some r) :
  Calls Try.prog 13 #[.agg #[.int .i64 a0_0, .int .i64 a0_1, .int .i64 a0_2, .int .i64 a0_3, .int .i64 a0_4, .int .i64 a0_5, .int .i64 a0_6, .int .i64 a0_7, .int .i64 a0_8, .bool a0_9, .slice A0_10 l0_10.length c0_10, .slice A0_11 l0_11.length c0_11]] w fun e w' => e = .returned (.bool r) ∧ Below w.heap.size w w' := by
 have hu40 := Try.underlying40
 have HR0_10 := Aside0.mk hr0_10
 have HC0_10 := Aside0.mk hc0_10
 clear hr0_10 hc0_10
 have HR0_11 := Aside0.mk hr0_11
 have HC0_11 := Aside0.mk hc0_11
 clear hr0_11 hc0_11
 have HB := Aside0.mk (Below.refl w.heap.size w)
 have H : ((wire_PutMsg.f a0_0 a0_1 a0_2 a0_3 a0_4 a0_5 a0_6 a0_7 a0_8 a0_9 l0_10 l0_11).bind fun bt528 => (if bt528.2 = 0 then ((wire_GetMsg.f bt528.1).bind fun bt533 => (tollgatelaw02_WireOwn.l0 k bt528.1 bt533.2.2.2.2.2.2.2.2.2.2.2.2 0 a0_0 a0_1 a0_2 a0_3 a0_4 a0_5 a0_6 a0_7 a0_8 a0_9 l0_10 l0_11 bt533.1 bt533.2.1 bt533.2.2.1 bt533.2.2.2.1 bt533.2.2.2.2.1 bt533.2.2.2.2.2.1 bt533.2.2.2.2.2.2.1 bt533.2.2.2.2.2.2.2.1 bt533.2.2.2.2.2.2.2.2.1 bt533.2.2.2.2.2.2.2.2.2.1 bt533.2.2.2.2.2.2.2.2.2.2.1 bt533.2.2.2.2.2.2.2.2.2.2.2.1)) else ((tollgatelaw02_live.f).bind fun t532 => (some t532)))) = some r := h
 clear h
 replace H := Option.bind_eq_some_iff.mp H
 obtain ⟨⟨t528, t531⟩, A20, H⟩ := H
 replace H : (if t531 = 0 then ((wire_GetMsg.f t528).bind fun bt533 => (tollgatelaw02_WireOwn.l0 k t528 bt533.2.2.2.2.2.2.2.2.2.2.2.2 0 a0_0 a0_1 a0_2 a0_3 a0_4 a0_5 a0_6 a0_7 a0_8 a0_9 l0_10 l0_11 bt533.1 bt533.2.1 bt533.2.2.1 bt533.2.2.2.1 bt533.2.2.2.2.1 bt533.2.2.2.2.2.1 bt533.2.2.2.2.2.2.1 bt533.2.2.2.2.2.2.2.1 bt533.2.2.2.2.2.2.2.2.1 bt533.2.2.2.2.2.2.2.2.2.1 bt533.2.2.2.2.2.2.2.2.2.2.1 bt533.2.2.2.2.2.2.2.2.2.2.2.1)) else ((tollgatelaw02_live.f).bind fun t532 => (some t532))) = some r := H
 have A2 := Aside0.mk A20
 clear A20
 by_cases c3 : t531 = 0
 ·rw [if_pos c3] at H
  have c3b0 : (t531 == 0) = true := beq_iff_eq.mpr c3
  have c3b1 : (t531 != 0) = false := bne_eq_false_iff_eq.mpr c3
  clear c3
  replace H := Option.bind_eq_some_iff.mp H
  obtain ⟨⟨t533, t534, t535, t536, t537, t538, t539, t540, t541, t542, t543, t546, t549⟩, A40, H⟩ := H
  replace H : (tollgatelaw02_WireOwn.l0 k t528 t549 0 a0_0 a0_1 a0_2 a0_3 a0_4 a0_5 a0_6 a0_7 a0_8 a0_9 l0_10 l0_11 t533 t534 t535 t536 t537 t538 t539 t540 t541 t542 t543 t546) = some r := H
  have A4 := Aside0.mk A40
  clear A40
  have H' := Aside0.mk H
  clear H
  go_enter Try.func13, Try.ntmps13
  go_wp2_with (first | ((with_reducible refine gate_dst (N := 1) rfl ?_); (try (refine gate_guard (by rfl) ?_; dsimp only)); refine box_event ?hg (N := 1) ?hd (cs := #[.int .i64 a0_0, .int .i64 a0_1, .int .i64 a0_2, .int .i64 a0_3, .int .i64 a0_4, .int .i64 a0_5, .int .i64 a0_6, .int .i64 a0_7, .int .i64 a0_8, .bool a0_9, .slice A0_10 l0_10.length c0_10, .slice A0_11 l0_11.length c0_11]) (t := 40) ?hr ?_; (case hd => rfl); (case hg => rfl); (case hr => first | (go_simp; done) | (go_simp; rfl)); intro gb527 hg w5 hbox hb; have n0_ := Aside0.mk (below_step (by repeat (first | (with_reducible first | exact HB.out | apply below_alloc | apply pw_below_drewN | apply below_drew1) | exact HB.out)) hb); have n1_ := Aside0.mk (hbox); have n2_ := Aside0.mk ((by rw [hg]; exact (below_size (by repeat (first | (with_reducible first | exact HB.out | apply below_alloc | apply pw_below_drewN | apply below_drew1) | exact HB.out))) : w.heap.size ≤ gb527)); have n3_ := Aside0.mk ((by rw [hg]; exact (below_size (by repeat (first | (with_reducible first | exact HB.out | apply below_alloc | apply pw_below_drewN | apply below_drew1) | exact HB.out))) : w.heap.size ≤ gb527)); clear HB; have HB := n0_; have BK527 := n1_; have GW527 := n2_; have GE527 := n3_; clear n0_ n1_ n2_ n3_; clear hb hbox hg; have hcz6_0 : w5.cell? ⟨gb527, 0, none⟩ = some (.int .i64 a0_0) := (blk_cell BK527.out 0).trans rfl; have hcz6_1 : w5.cell? ⟨gb527, 1, none⟩ = some (.int .i64 a0_1) := (blk_cell BK527.out 1).trans rfl; have hcz6_2 : w5.cell? ⟨gb527, 2, none⟩ = some (.int .i64 a0_2) := (blk_cell BK527.out 2).trans rfl; have hcz6_3 : w5.cell? ⟨gb527, 3, none⟩ = some (.int .i64 a0_3) := (blk_cell BK527.out 3).trans rfl; have hcz6_4 : w5.cell? ⟨gb527, 4, none⟩ = some (.int .i64 a0_4) := (blk_cell BK527.out 4).trans rfl; have hcz6_5 : w5.cell? ⟨gb527, 5, none⟩ = some (.int .i64 a0_5) := (blk_cell BK527.out 5).trans rfl; have hcz6_6 : w5.cell? ⟨gb527, 6, none⟩ = some (.int .i64 a0_6) := (blk_cell BK527.out 6).trans rfl; have hcz6_7 : w5.cell? ⟨gb527, 7, none⟩ = some (.int .i64 a0_7) := (blk_cell BK527.out 7).trans rfl; have hcz6_8 : w5.cell? ⟨gb527, 8, none⟩ = some (.int .i64 a0_8) := (blk_cell BK527.out 8).trans rfl; have hcz6_9 : w5.cell? ⟨gb527, 9, none⟩ = some (.bool a0_9) := (blk_cell BK527.out 9).trans rfl; have hcz6_10 : w5.cell? ⟨gb527, 10, none⟩ = some (.slice A0_10 l0_10.length c0_10) := (blk_cell BK527.out 10).trans rfl; have hcz6_11 : w5.cell? ⟨gb527, 11, none⟩ = some (.slice A0_11 l0_11.length c0_11) := (blk_cell BK527.out 11).trans rfl; have hfz6_0 := blk_frozen BK527.out 0; have hfz6_1 := blk_frozen BK527.out 1; have hfz6_2 := blk_frozen BK527.out 2; have hfz6_3 := blk_frozen BK527.out 3; have hfz6_4 := blk_frozen BK527.out 4; have hfz6_5 := blk_frozen BK527.out 5; have hfz6_6 := blk_frozen BK527.out 6; have hfz6_7 := blk_frozen BK527.out 7; have hfz6_8 := blk_frozen BK527.out 8; have hfz6_9 := blk_frozen BK527.out 9; have hfz6_10 := blk_frozen BK527.out 10; have hfz6_11 := blk_frozen BK527.out 11) | ((with_reducible refine gate_callee (f := 22) rfl ?_); refine goesL_ (some 13) rfl rfl Try.func22 (by kernel_rfl) rfl #[.agg #[.int .i64 a0_0, .int .i64 a0_1, .int .i64 a0_2, .int .i64 a0_3, .int .i64 a0_4, .int .i64 a0_5, .int .i64 a0_6, .int .i64 a0_7, .int .i64 a0_8, .bool a0_9, .slice A0_10 l0_10.length c0_10, .slice A0_11 l0_11.length c0_11]] rfl (by (try simp only [List.map_toArray, List.map_cons, List.map_nil]); first | done | rfl | (simp only [List.length_drop, List.length_take]; rfl)) ?_; (with_reducible refine (wire_PutMsg.calls a0_0 a0_1 a0_2 a0_3 a0_4 a0_5 a0_6 a0_7 a0_8 a0_9 _ _ l0_10 _ _ l0_11 t528 t531 _ ?side1 ?side2 ?side3 ?side4 A2.out).mono ?_); (case side1 => repeat (first | exact (Kd.C_below HR0_10.out HB.out) | (with_reducible refine Kd.C_alloc ?_ _) | (with_reducible refine Kd.C_drewN ?_ _) | (with_reducible refine Kd.C_drew ?_))); (case side2 => exact HC0_10.out); (case side3 => repeat (first | exact (Kd.C_below HR0_11.out HB.out) | (with_reducible refine Kd.C_alloc ?_ _) | (with_reducible refine Kd.C_drewN ?_ _) | (with_reducible refine Kd.C_drew ?_))); (case side4 => exact HC0_11.out); rintro e w7 ⟨v529, rfl, ho0, hb⟩; refine ⟨_, rfl, ?_⟩; have n0_ := Aside0.mk (Kd.R_lower ho0 (below_size (by repeat (first | (with_reducible first | exact HB.out | apply below_alloc | apply pw_below_drewN | apply below_drew1 | refine below_set ?_ GE527.out) | exact HB.out)))); have n1_ := Aside0.mk (blk_below (g := gb527) (o := .cells #[.int .i64 a0_0, .int .i64 a0_1, .int .i64 a0_2, .int .i64 a0_3, .int .i64 a0_4, .int .i64 a0_5, .int .i64 a0_6, .int .i64 a0_7, .int .i64 a0_8, .bool a0_9, .slice A0_10 l0_10.length c0_10, .slice A0_11 l0_11.length c0_11] 40 (0, 0)) (by (with_reducible repeat (first | refine blk_drewN ?_ _ | refine blk_drew ?_ | refine blk_alloc ?_ _)); exact BK527.out) hb); have n2_ := Aside0.mk (below_step (by repeat (first | (with_reducible first | exact HB.out | apply below_alloc | apply pw_below_drewN | apply below_drew1 | refine below_set ?_ GE527.out) | exact HB.out)) hb); clear BK527; clear HB; have HO530 := n0_; have BK527 := n1_; have HB := n2_; clear n0_ n1_ n2_; (try clear hb); (try clear hb2); (try clear hk); (try clear hi); (try clear ho0); obtain ⟨Ao8, co8, eo8⟩ := Kd.R_slice HO530.out; subst eo8) | ((with_reducible refine gate_callee (f := 29) rfl ?_); refine goesL_ (some 21) rfl rfl Try.func29 (by kernel_rfl) rfl #[.slice Ao8 t528.length co8] rfl (by (try simp only [List.map_toArray, List.map_cons, List.map_nil]); first | done | rfl | (simp only [List.length_drop, List.length_take]; rfl)) ?_; (with_reducible refine (wire_GetMsg.calls _ _ t528 t533 t534 t535 t536 t537 t538 t539 t540 t541 t542 t543 t546 t549 _ ?side1 ?side2 A4.out).mono ?_); (case side1 => repeat (first | exact (Kd.R_reads' HO530.out).2.2 | (with_reducible refine Kd.C_alloc ?_ _) | (with_reducible refine Kd.C_drewN ?_ _) | (with_reducible refine Kd.C_drew ?_))); (case side2 => exact (Kd.R_reads' HO530.out).2.1); rintro e w9 ⟨v544, v547, rfl, ho0, ho1, hb⟩; refine ⟨_, rfl, ?_⟩; have n0_ := Aside0.mk (Kd.R_elder' (by (with_reducible repeat (first | apply Kd.R_alloc | apply Kd.R_drewN | apply Kd.R_drew)); exact HO530.out) (Kd.R_base ho1) hb); have n1_ := Aside0.mk (Kd.S_lower (Kd.S_new' ho0 (Kd.R_lt (by (with_reducible repeat (first | apply Kd.R_alloc | apply Kd.R_drewN | apply Kd.R_drew)); exact HO530.out))) (below_size (by repeat (first | (with_reducible first | exact HB.out | apply below_alloc | apply pw_below_drewN | apply below_drew1 | refine below_set ?_ GE527.out) | exact HB.out)))); have n2_ := Aside0.mk (Kd.R_lower (Kd.R_new' ho1 (Kd.R_lt (by (with_reducible repeat (first | apply Kd.R_alloc | apply Kd.R_drewN | apply Kd.R_drew)); exact HO530.out))) (below_size (by repeat (first | (with_reducible first | exact HB.out | apply below_alloc | apply pw_below_drewN | apply below_drew1 | refine below_set ?_ GE527.out) | exact HB.out)))); have n3_ := Aside0.mk (blk_below (g := gb527) (o := .cells #[.int .i64 a0_0, .int .i64 a0_1, .int .i64 a0_2, .int .i64 a0_3, .int .i64 a0_4, .int .i64 a0_5, .int .i64 a0_6, .int .i64 a0_7, .int .i64 a0_8, .bool a0_9, .slice A0_10 l0_10.length c0_10, .slice A0_11 l0_11.length c0_11] 40 (0, 0)) (by (with_reducible repeat (first | refine blk_drewN ?_ _ | refine blk_drew ?_ | refine blk_alloc ?_ _)); exact BK527.out) hb); have n4_ := Aside0.mk (below_step (by repeat (first | (with_reducible first | exact HB.out | apply below_alloc | apply pw_below_drewN | apply below_drew1 | refine below_set ?_ GE527.out) | exact HB.out)) hb); clear HO530; clear BK527; clear HB; have HO530 := n0_; have HO545 := n1_; have HO548 := n2_; have BK527 := n3_; have HB := n4_; clear n0_ n1_ n2_ n3_ n4_; (try clear hb); (try clear hb2); (try clear hk); (try clear hi); (try clear ho0); (try clear ho1)) | ((with_reducible refine gate_dst (N := 5) rfl ?_); (try (refine gate_guard (by rfl) ?_; dsimp only)); refine box_event ?hg (N := 5) ?hd (cs := #[.int .i64 0, .int .i64 0, .int .i64 0, .int .i64 0, .int .i64 0, .int .i64 0, .int .i64 0, .int .i64 0, .int .i64 0, .bool false, .slice none 0 0, .slice none 0 0]) (t := 40) ?hr ?_; (case hd => rfl); (case hg => rfl); (case hr => first | (go_simp; done) | (go_simp; rfl)); intro gb550 hg w10 hbox hb; have n0_ := Aside0.mk (Kd.R_below (by (with_reducible repeat (first | apply Kd.R_alloc | apply Kd.R_drewN | apply Kd.R_drew)); exact HO530.out) hb); have n1_ := Aside0.mk (Kd.S_below (by (with_reducible repeat (first | apply Kd.S_alloc | apply Kd.S_drewN | apply Kd.S_drew)); exact HO545.out) hb); have n2_ := Aside0.mk (Kd.R_below (by (with_reducible repeat (first | apply Kd.R_alloc | apply Kd.R_drewN | apply Kd.R_drew)); exact HO548.out) hb); have n3_ := Aside0.mk (blk_below (g := gb527) (o := .cells #[.int .i64 a0_0, .int .i64 a0_1, .int .i64 a0_2, .int .i64 a0_3, .int .i64 a0_4, .int .i64 a0_5, .int .i64 a0_6, .int .i64 a0_7, .int .i64 a0_8, .bool a0_9, .slice A0_10 l0_10.length c0_10, .slice A0_11 l0_11.length c0_11] 40 (0, 0)) (by (with_reducible repeat (first | refine blk_drewN ?_ _ | refine blk_drew ?_ | refine blk_alloc ?_ _)); exact BK527.out) hb); have n4_ := Aside0.mk (below_step (by repeat (first | (with_reducible first | exact HB.out | apply below_alloc | apply pw_below_drewN | apply below_drew1 | refine below_set ?_ GE527.out) | exact HB.out)) hb); have n5_ := Aside0.mk (hbox); have n6_ := Aside0.mk ((by rw [hg]; exact (below_size (by repeat (first | (with_reducible first | exact HB.out | apply below_alloc | apply pw_below_drewN | apply below_drew1 | refine below_set ?_ GE527.out) | exact HB.out))) : w.heap.size ≤ gb550)); have n7_ := Aside0.mk ((by rw [hg]; exact (below_size (by repeat (first | (with_reducible first | exact HB.out | apply below_alloc | apply pw_below_drewN | apply below_drew1 | refine below_set ?_ GE527.out) | exact HB.out))) : w.heap.size ≤ gb550)); have n8_ := Aside0.mk ((by rw [hg]; exact Nat.ne_of_lt (blk_lt (g := gb527) (o := .cells #[.int .i64 a0_0, .int .i64 a0_1, .int .i64 a0_2, .int .i64 a0_3, .int .i64 a0_4, .int .i64 a0_5, .int .i64 a0_6, .int .i64 a0_7, .int .i64 a0_8, .bool a0_9, .slice A0_10 l0_10.length c0_10, .slice A0_11 l0_11.length c0_11] 40 (0, 0)) (by (with_reducible repeat (first | refine blk_drewN ?_ _ | refine blk_drew ?_ | refine blk_alloc ?_ _)); exact BK527.out)) : gb527 ≠ gb550)); have n9_ := Aside0.mk ((by rw [hg]; exact Nat.ne_of_gt (blk_lt (g := gb527) (o := .cells #[.int .i64 a0_0, .int .i64 a0_1, .int .i64 a0_2, .int .i64 a0_3, .int .i64 a0_4, .int .i64 a0_5, .int .i64 a0_6, .int .i64 a0_7, .int .i64 a0_8, .bool a0_9, .slice A0_10 l0_10.length c0_10, .slice A0_11 l0_11.length c0_11] 40 (0, 0)) (by (with_reducible repeat (first | refine blk_drewN ?_ _ | refine blk_drew ?_ | refine blk_alloc ?_ _)); exact BK527.out)) : gb550 ≠ gb527)); clear HO530; clear HO545; clear HO548; clear BK527; clear HB; have HO530 := n0_; have HO545 := n1_; have HO548 := n2_; have BK527 := n3_; have HB := n4_; have BK550 := n5_; have GW550 := n6_; have GE550 := n7_; have NB527_550 := n8_; have NB550_527 := n9_; clear n0_ n1_ n2_ n3_ n4_ n5_ n6_ n7_ n8_ n9_; clear hb hbox hg; have hnb11 := NB550_527.out; have hnc11 := NB527_550.out; have hcz12_0 : w10.cell? ⟨gb550, 0, none⟩ = some (.int .i64 0) := (blk_cell BK550.out 0).trans rfl; have hcz12_1 : w10.cell? ⟨gb550, 1, none⟩ = some (.int .i64 0) := (blk_cell BK550.out 1).trans rfl; have hcz12_2 : w10.cell? ⟨gb550, 2, none⟩ = some (.int .i64 0) := (blk_cell BK550.out 2).trans rfl; have hcz12_3 : w10.cell? ⟨gb550, 3, none⟩ = some (.int .i64 0) := (blk_cell BK550.out 3).trans rfl; have hcz12_4 : w10.cell? ⟨gb550, 4, none⟩ = some (.int .i64 0) := (blk_cell BK550.out 4).trans rfl; have hcz12_5 : w10.cell? ⟨gb550, 5, none⟩ = some (.int .i64 0) := (blk_cell BK550.out 5).trans rfl; have hcz12_6 : w10.cell? ⟨gb550, 6, none⟩ = some (.int .i64 0) := (blk_cell BK550.out 6).trans rfl; have hcz12_7 : w10.cell? ⟨gb550, 7, none⟩ = some (.int .i64 0) := (blk_cell BK550.out 7).trans rfl; have hcz12_8 : w10.cell? ⟨gb550, 8, none⟩ = some (.int .i64 0) := (blk_cell BK550.out 8).trans rfl; have hcz12_9 : w10.cell? ⟨gb550, 9, none⟩ = some (.bool false) := (blk_cell BK550.out 9).trans rfl; have hcz12_10 : w10.cell? ⟨gb550, 10, none⟩ = some (.slice none 0 0) := (blk_cell BK550.out 10).trans rfl; have hcz12_11 : w10.cell? ⟨gb550, 11, none⟩ = some (.slice none 0 0) := (blk_cell BK550.out 11).trans rfl; have hfz12_0 := blk_frozen BK550.out 0; have hfz12_1 := blk_frozen BK550.out 1; have hfz12_2 := blk_frozen BK550.out 2; have hfz12_3 := blk_frozen BK550.out 3; have hfz12_4 := blk_frozen BK550.out 4; have hfz12_5 := blk_frozen BK550.out 5; have hfz12_6 := blk_frozen BK550.out 6; have hfz12_7 := blk_frozen BK550.out 7; have hfz12_8 := blk_frozen BK550.out 8; have hfz12_9 := blk_frozen BK550.out 9; have hfz12_10 := blk_frozen BK550.out 10; have hfz12_11 := blk_frozen BK550.out 11; obtain ⟨Ao13, co13, eo13⟩ := Kd.S_slice HO545.out; subst eo13; obtain ⟨Ao14, co14, eo14⟩ := Kd.R_slice HO548.out; subst eo14))
  go_loopg [7] k (fun kq v7 w' => ∃ (x3_1 : List Int) (x7_1 : Int), v7 = .int .i64 x7_1 ∧ Aside0 (tollgatelaw02_WireOwn.l0 kq x3_1 t549 x7_1 a0_0 a0_1 a0_2 a0_3 a0_4 a0_5 a0_6 a0_7 a0_8 a0_9 l0_10 l0_11 t533 t534 t535 t536 t537 t538 t539 t540 t541 t542 t543 t546 = some r) ∧ Aside0 (kq ≤ k) ∧ Aside0 (Kd.R (Kd.int .u8) 5 w' w.heap.size (fun k_ => some k_ ≠ ((.slice Ao14 t546.length co14) : Value).ownBlock) (.slice Ao8 t528.length co8) x3_1) ∧ Aside0 (Kd.S k34 34 w' w.heap.size (fun k_ => some k_ ≠ ((.slice Ao8 t528.length co8) : Value).ownBlock ∧ some k_ ≠ ((.slice Ao14 t546.length co14) : Value).ownBlock) (.slice Ao13 t543.length co13) t543) ∧ Aside0 (Kd.R (Kd.int .u8) 5 w' w.heap.size (fun k_ => some k_ ≠ ((.slice Ao8 t528.length co8) : Value).ownBlock) (.slice Ao14 t546.length co14) t546) ∧ Aside0 (w'.heap[gb527]? = some (.cells #[.int .i64 a0_0, .int .i64 a0_1, .int .i64 a0_2, .int .i64 a0_3, .int .i64 a0_4, .int .i64 a0_5, .int .i64 a0_6, .int .i64 a0_7, .int .i64 a0_8, .bool a0_9, (.slice A0_10 l0_10.length c0_10), (.slice A0_11 l0_11.length c0_11)] 40 (0, 0))) ∧ Aside0 (w'.heap[gb550]? = some (.cells #[.int .i64 t533, .int .i64 t534, .int .i64 t535, .int .i64 t536, .int .i64 t537, .int .i64 t538, .int .i64 t539, .int .i64 t540, .int .i64 t541, .bool t542, (.slice Ao13 t543.length co13), (.slice Ao14 t546.length co14)] 40 (0, 0))) ∧ Aside0 (Below w.heap.size w w'))
  case atStart => exact ⟨(t528), (0), (by first | rfl | (simp; done) | (simp [*]; done)), H', ⟨Nat.le_refl _⟩, ⟨by (with_reducible repeat (first | apply Kd.R_alloc | apply Kd.R_drewN | apply Kd.R_drew)); exact Kd.R_mono (Kd.R_far (p := ⟨gb550, 11, none⟩) (Kd.R_far (p := ⟨gb550, 10, none⟩) (Kd.R_far (p := ⟨gb550, 9, none⟩) (Kd.R_far (p := ⟨gb550, 8, none⟩) (Kd.R_far (p := ⟨gb550, 7, none⟩) (Kd.R_far (p := ⟨gb550, 6, none⟩) (Kd.R_far (p := ⟨gb550, 5, none⟩) (Kd.R_far (p := ⟨gb550, 4, none⟩) (Kd.R_far (p := ⟨gb550, 3, none⟩) (Kd.R_far (p := ⟨gb550, 2, none⟩) (Kd.R_far (p := ⟨gb550, 1, none⟩) (Kd.R_far (p := ⟨gb550, 0, none⟩) (Kd.R_types HO530.out BK550.out (by decide)) (fun _ hk => hk.2) (.int .i64 t533)) (fun _ hk => hk.2) (.int .i64 t534)) (fun _ hk => hk.2) (.int .i64 t535)) (fun _ hk => hk.2) (.int .i64 t536)) (fun _ hk => hk.2) (.int .i64 t537)) (fun _ hk => hk.2) (.int .i64 t538)) (fun _ hk => hk.2) (.int .i64 t539)) (fun _ hk => hk.2) (.int .i64 t540)) (fun _ hk => hk.2) (.int .i64 t541)) (fun _ hk => hk.2) (.bool t542)) (fun _ hk => hk.2) (.slice Ao13 t543.length co13)) (fun _ hk => hk.2) (.slice Ao14 t546.length co14)) (fun _ hk => hk.1.2)⟩, ⟨by (with_reducible repeat (first | apply Kd.S_alloc | apply Kd.S_drewN | apply Kd.S_drew)); exact Kd.S_mono (Kd.S_far (p := ⟨gb550, 11, none⟩) (Kd.S_far (p := ⟨gb550, 10, none⟩) (Kd.S_far (p := ⟨gb550, 9, none⟩) (Kd.S_far (p := ⟨gb550, 8, none⟩) (Kd.S_far (p := ⟨gb550, 7, none⟩) (Kd.S_far (p := ⟨gb550, 6, none⟩) (Kd.S_far (p := ⟨gb550, 5, none⟩) (Kd.S_far (p := ⟨gb550, 4, none⟩) (Kd.S_far (p := ⟨gb550, 3, none⟩) (Kd.S_far (p := ⟨gb550, 2, none⟩) (Kd.S_far (p := ⟨gb550, 1, none⟩) (Kd.S_far (p := ⟨gb550, 0, none⟩) (Kd.S_types HO545.out BK550.out (by decide)) (fun _ hk => hk.2) (.int .i64 t533)) (fun _ hk => hk.2) (.int .i64 t534)) (fun _ hk => hk.2) (.int .i64 t535)) (fun _ hk => hk.2) (.int .i64 t536)) (fun _ hk => hk.2) (.int .i64 t537)) (fun _ hk => hk.2) (.int .i64 t538)) (fun _ hk => hk.2) (.int .i64 t539)) (fun _ hk => hk.2) (.int .i64 t540)) (fun _ hk => hk.2) (.int .i64 t541)) (fun _ hk => hk.2) (.bool t542)) (fun _ hk => hk.2) (.slice Ao13 t543.length co13)) (fun _ hk => hk.2) (.slice Ao14 t546.length co14)) (fun _ hk => ⟨hk.1.2, hk.1.1⟩)⟩, ⟨by (with_reducible repeat (first | apply Kd.R_alloc | apply Kd.R_drewN | apply Kd.R_drew)); exact Kd.R_mono (Kd.R_far (p := ⟨gb550, 11, none⟩) (Kd.R_far (p := ⟨gb550, 10, none⟩) (Kd.R_far (p := ⟨gb550, 9, none⟩) (Kd.R_far (p := ⟨gb550, 8, none⟩) (Kd.R_far (p := ⟨gb550, 7, none⟩) (Kd.R_far (p := ⟨gb550, 6, none⟩) (Kd.R_far (p := ⟨gb550, 5, none⟩) (Kd.R_far (p := ⟨gb550, 4, none⟩) (Kd.R_far (p := ⟨gb550, 3, none⟩) (Kd.R_far (p := ⟨gb550, 2, none⟩) (Kd.R_far (p := ⟨gb550, 1, none⟩) (Kd.R_far (p := ⟨gb550, 0, none⟩) (Kd.R_types HO548.out BK550.out (by decide)) (fun _ hk => hk.2) (.int .i64 t533)) (fun _ hk => hk.2) (.int .i64 t534)) (fun _ hk => hk.2) (.int .i64 t535)) (fun _ hk => hk.2) (.int .i64 t536)) (fun _ hk => hk.2) (.int .i64 t537)) (fun _ hk => hk.2) (.int .i64 t538)) (fun _ hk => hk.2) (.int .i64 t539)) (fun _ hk => hk.2) (.int .i64 t540)) (fun _ hk => hk.2) (.int .i64 t541)) (fun _ hk => hk.2) (.bool t542)) (fun _ hk => hk.2) (.slice Ao13 t543.length co13)) (fun _ hk => hk.2) (.slice Ao14 t546.length co14)) (fun _ hk => hk.1.2)⟩, ⟨by (with_reducible repeat (first | refine blk_drewN ?_ _ | refine blk_drew ?_ | refine blk_alloc ?_ _)); refine blk_far ?_ NB527_550.out _; (with_reducible repeat (first | refine blk_drewN ?_ _ | refine blk_drew ?_ | refine blk_alloc ?_ _)); refine blk_far ?_ NB527_550.out _; (with_reducible repeat (first | refine blk_drewN ?_ _ | refine blk_drew ?_ | refine blk_alloc ?_ _)); refine blk_far ?_ NB527_550.out _; (with_reducible repeat (first | refine blk_drewN ?_ _ | refine blk_drew ?_ | refine blk_alloc ?_ _)); refine blk_far ?_ NB527_550.out _; (with_reducible repeat (first | refine blk_drewN ?_ _ | refine blk_drew ?_ | refine blk_alloc ?_ _)); refine blk_far ?_ NB527_550.out _; (with_reducible repeat (first | refine blk_drewN ?_ _ | refine blk_drew ?_ | refine blk_alloc ?_ _)); refine blk_far ?_ NB527_550.out _; (with_reducible repeat (first | refine blk_drewN ?_ _ | refine blk_drew ?_ | refine blk_alloc ?_ _)); refine blk_far ?_ NB527_550.out _; (with_reducible repeat (first | refine blk_drewN ?_ _ | refine blk_drew ?_ | refine blk_alloc ?_ _)); refine blk_far ?_ NB527_550.out _; (with_reducible repeat (first | refine blk_drewN ?_ _ | refine blk_drew ?_ | refine blk_alloc ?_ _)); refine blk_far ?_ NB527_550.out _; (with_reducible repeat (first | refine blk_drewN ?_ _ | refine blk_drew ?_ | refine blk_alloc ?_ _)); refine blk_far ?_ NB527_550.out _; (with_reducible repeat (first | refine blk_drewN ?_ _ | refine blk_drew ?_ | refine blk_alloc ?_ _)); refine blk_far ?_ NB527_550.out _; (with_reducible repeat (first | refine blk_drewN ?_ _ | refine blk_drew ?_ | refine blk_alloc ?_ _)); refine blk_far ?_ NB527_550.out _; (with_reducible repeat (first | refine blk_drewN ?_ _ | refine blk_drew ?_ | refine blk_alloc ?_ _)); exact BK527.out⟩, ⟨by (with_reducible repeat (first | refine blk_drewN ?_ _ | refine blk_drew ?_ | refine blk_alloc ?_ _)); refine blk_put (cs := #[.int .i64 t533, .int .i64 t534, .int .i64 t535, .int .i64 t536, .int .i64 t537, .int .i64 t538, .int .i64 t539, .int .i64 t540, .int .i64 t541, .bool t542, .slice Ao13 t543.length co13, .slice none 0 0]) ?_ 11 _ rfl; (with_reducible repeat (first | refine blk_drewN ?_ _ | refine blk_drew ?_ | refine blk_alloc ?_ _)); refine blk_put (cs := #[.int .i64 t533, .int .i64 t534, .int .i64 t535, .int .i64 t536, .int .i64 t537, .int .i64 t538, .int .i64 t539, .int .i64 t540, .int .i64 t541, .bool t542, .slice none 0 0, .slice none 0 0]) ?_ 10 _ rfl; (with_reducible repeat (first | refine blk_drewN ?_ _ | refine blk_drew ?_ | refine blk_alloc ?_ _)); refine blk_put (cs := #[.int .i64 t533, .int .i64 t534, .int .i64 t535, .int .i64 t536, .int .i64 t537, .int .i64 t538, .int .i64 t539, .int .i64 t540, .int .i64 t541, .bool false, .slice none 0 0, .slice none 0 0]) ?_ 9 _ rfl; (with_reducible repeat (first | refine blk_drewN ?_ _ | refine blk_drew ?_ | refine blk_alloc ?_ _)); refine blk_put (cs := #[.int .i64 t533, .int .i64 t534, .int .i64 t535, .int .i64 t536, .int .i64 t537, .int .i64 t538, .int .i64 t539, .int .i64 t540, .int .i64 0, .bool false, .slice none 0 0, .slice none 0 0]) ?_ 8 _ rfl; (with_reducible repeat (first | refine blk_drewN ?_ _ | refine blk_drew ?_ | refine blk_alloc ?_ _)); refine blk_put (cs := #[.int .i64 t533, .int .i64 t534, .int .i64 t535, .int .i64 t536, .int .i64 t537, .int .i64 t538, .int .i64 t539, .int .i64 0, .int .i64 0, .bool false, .slice none 0 0, .slice none 0 0]) ?_ 7 _ rfl; (with_reducible repeat (first | refine blk_drewN ?_ _ | refine blk_drew ?_ | refine blk_alloc ?_ _)); refine blk_put (cs := #[.int .i64 t533, .int .i64 t534, .int .i64 t535, .int .i64 t536, .int .i64 t537, .int .i64 t538, .int .i64 0, .int .i64 0, .int .i64 0, .bool false, .slice none 0 0, .slice none 0 0]) ?_ 6 _ rfl; (with_reducible repeat (first | refine blk_drewN ?_ _ | refine blk_drew ?_ | refine blk_alloc ?_ _)); refine blk_put (cs := #[.int .i64 t533, .int .i64 t534, .int .i64 t535, .int .i64 t536, .int .i64 t537, .int .i64 0, .int .i64 0, .int .i64 0, .int .i64 0, .bool false, .slice none 0 0, .slice none 0 0]) ?_ 5 _ rfl; (with_reducible repeat (first | refine blk_drewN ?_ _ | refine blk_drew ?_ | refine blk_alloc ?_ _)); refine blk_put (cs := #[.int .i64 t533, .int .i64 t534, .int .i64 t535, .int .i64 t536, .int .i64 0, .int .i64 0, .int .i64 0, .int .i64 0, .int .i64 0, .bool false, .slice none 0 0, .slice none 0 0]) ?_ 4 _ rfl; (with_reducible repeat (first | refine blk_drewN ?_ _ | refine blk_drew ?_ | refine blk_alloc ?_ _)); refine blk_put (cs := #[.int .i64 t533, .int .i64 t534, .int .i64 t535, .int .i64 0, .int .i64 0, .int .i64 0, .int .i64 0, .int .i64 0, .int .i64 0, .bool false, .slice none 0 0, .slice none 0 0]) ?_ 3 _ rfl; (with_reducible repeat (first | refine blk_drewN ?_ _ | refine blk_drew ?_ | refine blk_alloc ?_ _)); refine blk_put (cs := #[.int .i64 t533, .int .i64 t534, .int .i64 0, .int .i64 0, .int .i64 0, .int .i64 0, .int .i64 0, .int .i64 0, .int .i64 0, .bool false, .slice none 0 0, .slice none 0 0]) ?_ 2 _ rfl; (with_reducible repeat (first | refine blk_drewN ?_ _ | refine blk_drew ?_ | refine blk_alloc ?_ _)); refine blk_put (cs := #[.int .i64 t533, .int .i64 0, .int .i64 0, .int .i64 0, .int .i64 0, .int .i64 0, .int .i64 0, .int .i64 0, .int .i64 0, .bool false, .slice none 0 0, .slice none 0 0]) ?_ 1 _ rfl; (with_reducible repeat (first | refine blk_drewN ?_ _ | refine blk_drew ?_ | refine blk_alloc ?_ _)); refine blk_put (cs := #[.int .i64 0, .int .i64 0, .int .i64 0, .int .i64 0, .int .i64 0, .int .i64 0, .int .i64 0, .int .i64 0, .int .i64 0, .bool false, .slice none 0 0, .slice none 0 0]) ?_ 0 _ rfl; (with_reducible repeat (first | refine blk_drewN ?_ _ | refine blk_drew ?_ | refine blk_alloc ?_ _)); exact BK550.out⟩, ⟨by repeat (first | (with_reducible first | exact HB.out | apply below_alloc | apply pw_below_drewN | apply below_drew1 | refine below_set ?_ GE527.out | refine below_set ?_ GE550.out) | exact HB.out)⟩⟩
  case round =>
   clear H'
   try clear c1
   try clear c2
   try clear p2
   try clear c3
   try clear c3b0
   try clear c3b1
   try clear c11
   try clear c13
   try clear hcz12_0
   try clear hcz12_1
   try clear hcz12_10
   try clear hcz12_11
   try clear hcz12_2
   try clear hcz12_3
   try clear hcz12_4
   try clear hcz12_5
   try clear hcz12_6
   try clear hcz12_7
   try clear hcz12_8
   try clear hcz12_9
   try clear hcz6_0
   try clear hcz6_1
   try clear hcz6_10
   try clear hcz6_11
   try clear hcz6_2
   try clear hcz6_3
   try clear hcz6_4
   try clear hcz6_5
   try clear hcz6_6
   try clear hcz6_7
   try clear hcz6_8
   try clear hcz6_9
   try clear hfz12_0
   try clear hfz12_1
   try clear hfz12_10
   try clear hfz12_11
   try clear hfz12_2
   try clear hfz12_3
   try clear hfz12_4
   try clear hfz12_5
   try clear hfz12_6
   try clear hfz12_7
   try clear hfz12_8
   try clear hfz12_9
   try clear hfz6_0
   try clear hfz6_1
   try clear hfz6_10
   try clear hfz6_11
   try clear hfz6_2
   try clear hfz6_3
   try clear hfz6_4
   try clear hfz6_5
   try clear hfz6_6
   try clear hfz6_7
   try clear hfz6_8
   try clear hfz6_9
   obtain ⟨x3_1, x7_1, rfl, HA, HK1, HO_3, HO_551010, HO_551011, BK527, BK550, HB⟩ := hrel
   have hl3_1 := (Kd.R_reads' HO_3.out).1
   rw [hl3_1] at HO_3
   (try simp only [hl3_1])
   (try simp only [hl3_1] at BK527)
   (try simp only [hl3_1] at BK550)
   (try simp only [hl3_1] at HO_551010)
   (try simp only [hl3_1] at HO_551011)
   cases gk with
   | zero => exact absurd HA.out (by simp [tollgatelaw02_WireOwn.l0])
   | succ k1 =>
    have H := HA.out
    clear HA
    simp only [tollgatelaw02_WireOwn.l0] at H
    by_cases c15 : x7_1 < (x3_1.length : Int)
    ·rw [if_pos c15] at H
     have c15b0 : decide (x7_1 < (x3_1.length : Int)) = true := decide_eq_true c15
     clear c15
     by_cases c16 : 0 ≤ x7_1
     ·rw [if_pos c16] at H
      have c16b0 : decide (0 ≤ x7_1) = true := decide_eq_true c16
      clear c16
      obtain ⟨y552, hy552⟩ : ∃ y_ : List Int, y_ = (x3_1.set (x7_1 : Int).toNat (Go.bits .xor .u8 (rd x3_1 x7_1) 255)) := ⟨_, rfl⟩
      replace H : (tollgatelaw02_WireOwn.l0 k1 y552 t549 (wrap64 (x7_1 + 1)) a0_0 a0_1 a0_2 a0_3 a0_4 a0_5 a0_6 a0_7 a0_8 a0_9 l0_10 l0_11 t533 t534 t535 t536 t537 t538 t539 t540 t541 t542 t543 t546) = some r := by first | (rw [hy552]; with_reducible exact H) | (have H2_ := (Option.bind_some _ _).symm.trans H; rw [hy552]; with_reducible exact H2_) | (have H2_ := (Option.bind_some _ _).symm.trans H; with_reducible exact H2_) | with_reducible exact H | (rw [hy552]; exact H) | exact H
      have Ny552 := Aside0.mk hy552
      clear hy552
      have H' := Aside0.mk H
      clear H
      have p551 : 0 ≤ (x7_1 : Int) := of_decide_eq_true (by first | (with_reducible assumption) | assumption)
      have q551 : x7_1 < (x3_1.length : Int) := of_decide_eq_true (by first | (with_reducible assumption) | assumption)
      obtain ⟨ad551, e551, hx551_0⟩ := Kd.at_int (Kd.R_reads' HO_3.out).2.2 x7_1 p551 q551
      cases e551
      replace p551 := eq_true p551
      replace q551 := eq_true q551
      have p17 : 0 ≤ (x7_1 : Int) := of_decide_eq_true (by first | (with_reducible assumption) | assumption)
      have q17 : (x7_1 : Int) < ((x3_1.length : Int) : Int) := of_decide_eq_true (by first | (with_reducible assumption) | assumption)
      obtain ⟨go17, co17, eo17, gb17, gl17, cl17, HG17⟩ := Kd.R_form HO_3.out (by omega)
      (first | cases eo17 | (injection eo17 with ea_ en_ ec_; (first | subst ea_ | (injection ea_ with ea_; subst ea_)); subst ec_; clear en_))
      have GB17 := Aside0.mk gb17
      have GG17 := Aside0.mk HG17
      clear gb17 gl17 HG17
      (first | simp only [add_plain] at hx551_0 | skip)
      obtain ⟨hx17_0, hf17_0⟩ := Kd.R_celln 0 HO_3.out (x7_1 : Int) p17 q17
      replace p17 := eq_true p17
      replace q17 := eq_true q17
      have HP18 := Kd.R_putg HO_3.out (x7_1 : Int) (Go.bits .xor .u8 (rd x3_1 x7_1) 255)
      go_wp2_with (first | ((with_reducible refine gate_store (t := 5) (p := 35) rfl ?_); refine store_event (t := 5) (p := 35) (v := ?vo_w19) (w1 := (wr.setCell ⟨go17, (x7_1 : Int).toNat, none⟩ (.int .u8 (Go.bits .xor .u8 (rd x3_1 x7_1) 255)))) ?hg ?ho ?hn ?hr ?_; (case ho => rfl); (case hg => rfl); (case hn => rfl); (case hr => first | (go_simp; done) | (go_simp; rfl)); intro w19 hw; have hg : wr.grownBy w19 (some go17) := (by rw [hw]; exact HP18.2); have hp_ : Kd.R (Kd.int .u8) 5 w19 w.heap.size (fun k_ => some k_ ≠ (.slice Ao14 t546.length co14 : Value).ownBlock) (.slice (some ⟨go17, 0, none⟩) x3_1.length co8) y552 := (by rw [hw, Ny552.out]; exact HP18.1); clear HP18; have n0_ := Aside0.mk (hp_); have n1_ := Aside0.mk (Kd.S_after (v := (.slice (some ⟨go17, 0, none⟩) x3_1.length co8)) (v1 := (.slice (some ⟨go17, 0, none⟩) x3_1.length co8)) (ok := (fun k_ => some k_ ≠ (.slice Ao14 t546.length co14 : Value).ownBlock)) (by (with_reducible repeat (first | apply Kd.S_alloc | apply Kd.S_drewN | apply Kd.S_drew)); exact Kd.S_mono HO_551010.out (fun _ hk => ⟨hk.2, hk.1⟩)) hg (.inl rfl)); have n2_ := Aside0.mk (Kd.R_after (v := (.slice (some ⟨go17, 0, none⟩) x3_1.length co8)) (v1 := (.slice (some ⟨go17, 0, none⟩) x3_1.length co8)) (ok := (fun _ => True)) (by (with_reducible repeat (first | apply Kd.R_alloc | apply Kd.R_drewN | apply Kd.R_drew)); exact Kd.R_mono HO_551011.out (fun _ hk => ⟨trivial, hk⟩)) hg (.inl rfl)); have n3_ := Aside0.mk (blk_grown (g := gb527) (o := .cells #[.int .i64 a0_0, .int .i64 a0_1, .int .i64 a0_2, .int .i64 a0_3, .int .i64 a0_4, .int .i64 a0_5, .int .i64 a0_6, .int .i64 a0_7, .int .i64 a0_8, .bool a0_9, .slice A0_10 l0_10.length c0_10, .slice A0_11 l0_11.length c0_11] 40 (0, 0)) (by (with_reducible repeat (first | refine blk_drewN ?_ _ | refine blk_drew ?_ | refine blk_alloc ?_ _)); exact BK527.out) hg (Kd.R_ne HO_3.out BK527.out (by decide))); have n4_ := Aside0.mk (blk_grown (g := gb550) (o := .cells #[.int .i64 t533, .int .i64 t534, .int .i64 t535, .int .i64 t536, .int .i64 t537, .int .i64 t538, .int .i64 t539, .int .i64 t540, .int .i64 t541, .bool t542, .slice Ao13 t543.length co13, .slice Ao14 t546.length co14] 40 (0, 0)) (by (with_reducible repeat (first | refine blk_drewN ?_ _ | refine blk_drew ?_ | refine blk_alloc ?_ _)); exact BK550.out) hg (Kd.R_ne HO_3.out BK550.out (by decide))); have n5_ := Aside0.mk ((by rw [hw]; exact below_set (HB.out) GB17.out : Below w.heap.size w w19)); clear HO_3; clear HO_551010; clear HO_551011; clear BK527; clear BK550; clear HB; have HO_3 := n0_; have HO_551010 := n1_; have HO_551011 := n2_; have BK527 := n3_; have BK550 := n4_; have HB := n5_; clear n0_ n1_ n2_ n3_ n4_ n5_; clear hg hw hp_))
      (try simp only [← hl3_1])
      go_roundg k1
      case measure => have := HK1.out; omega
      case rel => exact ⟨(y552), (wrap64 (x7_1 + 1)), (by first | rfl | (simp; done) | (simp [*]; done)), H', ⟨by have := HK1.out; omega⟩, ⟨by (try simp only [hl3_1]); (with_reducible repeat (first | apply Kd.R_alloc | apply Kd.R_drewN | apply Kd.R_drew)); exact HO_3.out⟩, ⟨by (try simp only [hl3_1]); (with_reducible repeat (first | apply Kd.S_alloc | apply Kd.S_drewN | apply Kd.S_drew)); exact Kd.S_mono HO_551010.out (fun _ hk => ⟨hk.2, hk.1⟩)⟩, ⟨by (try simp only [hl3_1]); (with_reducible repeat (first | apply Kd.R_alloc | apply Kd.R_drewN | apply Kd.R_drew)); exact Kd.R_mono HO_551011.out (fun _ hk => hk.2)⟩, ⟨by (try simp only [hl3_1]); (with_reducible repeat (first | refine blk_drewN ?_ _ | refine blk_drew ?_ | refine blk_alloc ?_ _)); exact BK527.out⟩, ⟨by (try simp only [hl3_1]); (with_reducible repeat (first | refine blk_drewN ?_ _ | refine blk_drew ?_ | refine blk_alloc ?_ _)); exact BK550.out⟩, ⟨by repeat (first | (with_reducible first | exact HB.out | apply below_alloc | apply pw_below_drewN | apply below_drew1 | refine below_set ?_ GE527.out | refine below_set ?_ GE550.out) | exact HB.out)⟩⟩
     ·rw [if_neg c16] at H
      exact absurd H (by simp)
    ·rw [if_neg c15] at H
     have c15b0 : decide (x7_1 < (x3_1.length : Int)) = false := decide_eq_false c15
     clear c15
     have HC20 := Aside0.mk H
     clear H
     go_upto_region 9 with (fail)
     go_cut [43] (fun v43 wc => ∃ (kq : Nat) (x43_19 : Bool), v43 = .bool x43_19 ∧ Aside0 (tollgatelaw02_WireOwn.j1 kq x43_19 a0_0 a0_1 a0_2 a0_3 a0_4 a0_5 a0_6 a0_7 a0_8 a0_9 l0_10 l0_11 t533 t534 t535 t536 t537 t538 t539 t540 t541 t542 t543 t546 = some r) ∧ Aside0 (kq ≤ k1) ∧ Aside0 (Kd.S k34 34 wc w.heap.size (fun k_ => some k_ ≠ ((.slice Ao14 t546.length co14) : Value).ownBlock) (.slice Ao13 t543.length co13) t543) ∧ Aside0 (Kd.R (Kd.int .u8) 5 wc w.heap.size (fun _ => True) (.slice Ao14 t546.length co14) t546) ∧ Aside0 (wc.heap[gb527]? = some (.cells #[.int .i64 a0_0, .int .i64 a0_1, .int .i64 a0_2, .int .i64 a0_3, .int .i64 a0_4, .int .i64 a0_5, .int .i64 a0_6, .int .i64 a0_7, .int .i64 a0_8, .bool a0_9, (.slice A0_10 l0_10.length c0_10), (.slice A0_11 l0_11.length c0_11)] 40 (0, 0))) ∧ Aside0 (wc.heap[gb550]? = some (.cells #[.int .i64 t533, .int .i64 t534, .int .i64 t535, .int .i64 t536, .int .i64 t537, .int .i64 t538, .int .i64 t539, .int .i64 t540, .int .i64 t541, .bool t542, (.slice Ao13 t543.length co13), (.slice Ao14 t546.length co14)] 40 (0, 0))) ∧ Aside0 (Below w.heap.size w wc))
     case first =>
      have H := HC20.out
      clear HC20
      by_cases c21 : t549 = 0
      ·rw [if_pos c21] at H
       have c21b0 : (t549 == 0) = true := beq_iff_eq.mpr c21
       have c21b1 : (t549 != 0) = false := bne_eq_false_iff_eq.mpr c21
       clear c21
       (first | rw [c21b0] | (simp only [i64_w, i32_w]; rw [c21b0]) | skip)
       replace H := Option.bind_eq_some_iff.mp H
       obtain ⟨t553, A220, H⟩ := H
       replace H : (tollgatelaw02_WireOwn.j1 k1 (!t553) a0_0 a0_1 a0_2 a0_3 a0_4 a0_5 a0_6 a0_7 a0_8 a0_9 l0_10 l0_11 t533 t534 t535 t536 t537 t538 t539 t540 t541 t542 t543 t546) = some r := H
       have A22 := Aside0.mk A220
       clear A220
       have H' := Aside0.mk H
       clear H
       have hnb23 := NB550_527.out
       have hnc23 := NB527_550.out
       have hcz24_0 : wr.cell? ⟨gb550, 0, none⟩ = some (.int .i64 t533) := (blk_cell BK550.out 0).trans rfl
       have hcz24_1 : wr.cell? ⟨gb550, 1, none⟩ = some (.int .i64 t534) := (blk_cell BK550.out 1).trans rfl
       have hcz24_2 : wr.cell? ⟨gb550, 2, none⟩ = some (.int .i64 t535) := (blk_cell BK550.out 2).trans rfl
       have hcz24_3 : wr.cell? ⟨gb550, 3, none⟩ = some (.int .i64 t536) := (blk_cell BK550.out 3).trans rfl
       have hcz24_4 : wr.cell? ⟨gb550, 4, none⟩ = some (.int .i64 t537) := (blk_cell BK550.out 4).trans rfl
       have hcz24_5 : wr.cell? ⟨gb550, 5, none⟩ = some (.int .i64 t538) := (blk_cell BK550.out 5).trans rfl
       have hcz24_6 : wr.cell? ⟨gb550, 6, none⟩ = some (.int .i64 t539) := (blk_cell BK550.out 6).trans rfl
       have hcz24_7 : wr.cell? ⟨gb550, 7, none⟩ = some (.int .i64 t540) := (blk_cell BK550.out 7).trans rfl
       have hcz24_8 : wr.cell? ⟨gb550, 8, none⟩ = some (.int .i64 t541) := (blk_cell BK550.out 8).trans rfl
       have hcz24_9 : wr.cell? ⟨gb550, 9, none⟩ = some (.bool t542) := (blk_cell BK550.out 9).trans rfl
       have hcz24_10 : wr.cell? ⟨gb550, 10, none⟩ = some (.slice Ao13 t543.length co13) := (blk_cell BK550.out 10).trans rfl
       have hcz24_11 : wr.cell? ⟨gb550, 11, none⟩ = some (.slice Ao14 t546.length co14) := (blk_cell BK550.out 11).trans rfl
       have hfz24_0 := blk_frozen BK550.out 0
       have hfz24_1 := blk_frozen BK550.out 1
       have hfz24_2 := blk_frozen BK550.out 2
       have hfz24_3 := blk_frozen BK550.out 3
       have hfz24_4 := blk_frozen BK550.out 4
       have hfz24_5 := blk_frozen BK550.out 5
       have hfz24_6 := blk_frozen BK550.out 6
       have hfz24_7 := blk_frozen BK550.out 7
       have hfz24_8 := blk_frozen BK550.out 8
       have hfz24_9 := blk_frozen BK550.out 9
       have hfz24_10 := blk_frozen BK550.out 10
       have hfz24_11 := blk_frozen BK550.out 11
       have hcz25_0 : wr.cell? ⟨gb527, 0, none⟩ = some (.int .i64 a0_0) := (blk_cell BK527.out 0).trans rfl
       have hcz25_1 : wr.cell? ⟨gb527, 1, none⟩ = some (.int .i64 a0_1) := (blk_cell BK527.out 1).trans rfl
       have hcz25_2 : wr.cell? ⟨gb527, 2, none⟩ = some (.int .i64 a0_2) := (blk_cell BK527.out 2).trans rfl
       have hcz25_3 : wr.cell? ⟨gb527, 3, none⟩ = some (.int .i64 a0_3) := (blk_cell BK527.out 3).trans rfl
       have hcz25_4 : wr.cell? ⟨gb527, 4, none⟩ = some (.int .i64 a0_4) := (blk_cell BK527.out 4).trans rfl
       have hcz25_5 : wr.cell? ⟨gb527, 5, none⟩ = some (.int .i64 a0_5) := (blk_cell BK527.out 5).trans rfl
       have hcz25_6 : wr.cell? ⟨gb527, 6, none⟩ = some (.int .i64 a0_6) := (blk_cell BK527.out 6).trans rfl
       have hcz25_7 : wr.cell? ⟨gb527, 7, none⟩ = some (.int .i64 a0_7) := (blk_cell BK527.out 7).trans rfl
       have hcz25_8 : wr.cell? ⟨gb527, 8, none⟩ = some (.int .i64 a0_8) := (blk_cell BK527.out 8).trans rfl
       have hcz25_9 : wr.cell? ⟨gb527, 9, none⟩ = some (.bool a0_9) := (blk_cell BK527.out 9).trans rfl
       have hcz25_10 : wr.cell? ⟨gb527, 10, none⟩ = some (.slice A0_10 l0_10.length c0_10) := (blk_cell BK527.out 10).trans rfl
       have hcz25_11 : wr.cell? ⟨gb527, 11, none⟩ = some (.slice A0_11 l0_11.length c0_11) := (blk_cell BK527.out 11).trans rfl
       have hfz25_0 := blk_frozen BK527.out 0
       have hfz25_1 := blk_frozen BK527.out 1
       have hfz25_2 := blk_frozen BK527.out 2
       have hfz25_3 := blk_frozen BK527.out 3
       have hfz25_4 := blk_frozen BK527.out 4
       have hfz25_5 := blk_frozen BK527.out 5
       have hfz25_6 := blk_frozen BK527.out 6
       have hfz25_7 := blk_frozen BK527.out 7
       have hfz25_8 := blk_frozen BK527.out 8
       have hfz25_9 := blk_frozen BK527.out 9
       have hfz25_10 := blk_frozen BK527.out 10
       have hfz25_11 := blk_frozen BK527.out 11
       go_wp2_with (first | (go_at_call 24; (with_reducible refine (tollgateref02_SameMsg.calls k1 t533 t534 t535 t536 t537 t538 t539 t540 t541 t542 _ _ t543 _ _ t546 a0_0 a0_1 a0_2 a0_3 a0_4 a0_5 a0_6 a0_7 a0_8 a0_9 _ _ l0_10 _ _ l0_11 t553 _ ?side1 ?side2 ?side3 ?side4 ?side5 ?side6 ?side7 ?side8 A22.out).mono ?_); (case side1 => repeat (first | exact (Kd.S_reads' HO_551010.out).2.2 | (with_reducible refine Kd.C_alloc ?_ _) | (with_reducible refine Kd.C_drewN ?_ _) | (with_reducible refine Kd.C_drew ?_))); (case side2 => exact (Kd.S_reads' HO_551010.out).2.1); (case side3 => repeat (first | exact (Kd.R_reads' HO_551011.out).2.2 | (with_reducible refine Kd.C_alloc ?_ _) | (with_reducible refine Kd.C_drewN ?_ _) | (with_reducible refine Kd.C_drew ?_))); (case side4 => exact (Kd.R_reads' HO_551011.out).2.1); (case side5 => repeat (first | exact (Kd.C_below HR0_10.out HB.out) | (with_reducible refine Kd.C_alloc ?_ _) | (with_reducible refine Kd.C_drewN ?_ _) | (with_reducible refine Kd.C_drew ?_))); (case side6 => exact HC0_10.out); (case side7 => repeat (first | exact (Kd.C_below HR0_11.out HB.out) | (with_reducible refine Kd.C_alloc ?_ _) | (with_reducible refine Kd.C_drewN ?_ _) | (with_reducible refine Kd.C_drew ?_))); (case side8 => exact HC0_11.out); rintro e w26 ⟨rfl, hb⟩; have n0_ := Aside0.mk (Kd.R_below (by (with_reducible repeat (first | apply Kd.R_alloc | apply Kd.R_drewN | apply Kd.R_drew)); exact HO_3.out) hb); have n1_ := Aside0.mk (Kd.S_below (by (with_reducible repeat (first | apply Kd.S_alloc | apply Kd.S_drewN | apply Kd.S_drew)); exact HO_551010.out) hb); have n2_ := Aside0.mk (Kd.R_below (by (with_reducible repeat (first | apply Kd.R_alloc | apply Kd.R_drewN | apply Kd.R_drew)); exact HO_551011.out) hb); have n3_ := Aside0.mk (blk_below (g := gb527) (o := .cells #[.int .i64 a0_0, .int .i64 a0_1, .int .i64 a0_2, .int .i64 a0_3, .int .i64 a0_4, .int .i64 a0_5, .int .i64 a0_6, .int .i64 a0_7, .int .i64 a0_8, .bool a0_9, .slice A0_10 l0_10.length c0_10, .slice A0_11 l0_11.length c0_11] 40 (0, 0)) (by (with_reducible repeat (first | refine blk_drewN ?_ _ | refine blk_drew ?_ | refine blk_alloc ?_ _)); exact BK527.out) hb); have n4_ := Aside0.mk (blk_below (g := gb550) (o := .cells #[.int .i64 t533, .int .i64 t534, .int .i64 t535, .int .i64 t536, .int .i64 t537, .int .i64 t538, .int .i64 t539, .int .i64 t540, .int .i64 t541, .bool t542, .slice Ao13 t543.length co13, .slice Ao14 t546.length co14] 40 (0, 0)) (by (with_reducible repeat (first | refine blk_drewN ?_ _ | refine blk_drew ?_ | refine blk_alloc ?_ _)); exact BK550.out) hb); have n5_ := Aside0.mk (below_step (by repeat (first | (with_reducible first | exact HB.out | apply below_alloc | apply pw_below_drewN | apply below_drew1 | refine below_set ?_ GE527.out | refine below_set ?_ GE550.out) | exact HB.out)) hb); clear HO_3; clear HO_551010; clear HO_551011; clear BK527; clear BK550; clear HB; have HO_3 := n0_; have HO_551010 := n1_; have HO_551011 := n2_; have BK527 := n3_; have BK550 := n4_; have HB := n5_; clear n0_ n1_ n2_ n3_ n4_ n5_; (try clear hb); (try clear hb2); (try clear hk); (try clear hi)))
       go_meet
       case rel => exact ⟨_, (!t553), (by first | rfl | (simp; done) | (simp [*]; done)), H', ⟨by have := HK1.out; first | omega | exact Nat.le_refl _⟩, ⟨by (try simp only [hl3_1]); (with_reducible repeat (first | apply Kd.S_alloc | apply Kd.S_drewN | apply Kd.S_drew)); exact Kd.S_mono HO_551010.out (fun _ hk => hk.2)⟩, ⟨by (try simp only [hl3_1]); (with_reducible repeat (first | apply Kd.R_alloc | apply Kd.R_drewN | apply Kd.R_drew)); exact Kd.R_mono HO_551011.out (fun _ hk => trivial)⟩, ⟨by (try simp only [hl3_1]); (with_reducible repeat (first | refine blk_drewN ?_ _ | refine blk_drew ?_ | refine blk_alloc ?_ _)); exact BK527.out⟩, ⟨by (try simp only [hl3_1]); (with_reducible repeat (first | refine blk_drewN ?_ _ | refine blk_drew ?_ | refine blk_alloc ?_ _)); exact BK550.out⟩, ⟨by repeat (first | (with_reducible first | exact HB.out | apply below_alloc | apply pw_below_drewN | apply below_drew1 | refine below_set ?_ GE527.out | refine below_set ?_ GE550.out) | exact HB.out)⟩⟩
      ·rw [if_neg c21] at H
       have c21b0 : (t549 == 0) = false := beq_eq_false_iff_ne.mpr c21
       have c21b1 : (t549 != 0) = true := bne_iff_ne.mpr c21
       (first | rw [c21b0] | (simp only [i64_w, i32_w]; rw [c21b0]) | skip)
       have H' := Aside0.mk H
       clear H
       go_wp2
       go_meet
       case rel => exact ⟨_, (true), (by first | rfl | (simp; done) | (simp [*]; done)), H', ⟨by have := HK1.out; first | omega | exact Nat.le_refl _⟩, ⟨by (try simp only [hl3_1]); (with_reducible repeat (first | apply Kd.S_alloc | apply Kd.S_drewN | apply Kd.S_drew)); exact Kd.S_mono HO_551010.out (fun _ hk => hk.2)⟩, ⟨by (try simp only [hl3_1]); (with_reducible repeat (first | apply Kd.R_alloc | apply Kd.R_drewN | apply Kd.R_drew)); exact Kd.R_mono HO_551011.out (fun _ hk => trivial)⟩, ⟨by (try simp only [hl3_1]); (with_reducible repeat (first | refine blk_drewN ?_ _ | refine blk_drew ?_ | refine blk_alloc ?_ _)); exact BK527.out⟩, ⟨by (try simp only [hl3_1]); (with_reducible repeat (first | refine blk_drewN ?_ _ | refine blk_drew ?_ | refine blk_alloc ?_ _)); exact BK550.out⟩, ⟨by repeat (first | (with_reducible first | exact HB.out | apply below_alloc | apply pw_below_drewN | apply below_drew1 | refine below_set ?_ GE527.out | refine below_set ?_ GE550.out) | exact HB.out)⟩⟩
     case rest =>
      clear HC20
      try clear c1
      try clear p1
      try clear q1
      try clear hx1
      try clear hf1
      try clear c2
      try clear p2
      try clear c3
      try clear c3b0
      try clear c3b1
      try clear p5
      try clear q5
      try clear hx5
      try clear p6
      try clear c11
      try clear c13
      try clear c15
      try clear c15b0
      try clear c16
      try clear c16b0
      try clear p17
      try clear q17
      try clear hx17
      try clear hf17
      try clear c21
      try clear c21b0
      try clear c21b1
      try clear c22
      try clear c23
      try clear hcz12_0
      try clear hcz12_1
      try clear hcz12_10
      try clear hcz12_11
      try clear hcz12_2
      try clear hcz12_3
      try clear hcz12_4
      try clear hcz12_5
      try clear hcz12_6
      try clear hcz12_7
      try clear hcz12_8
      try clear hcz12_9
      try clear hcz24_0
      try clear hcz24_1
      try clear hcz24_10
      try clear hcz24_11
      try clear hcz24_2
      try clear hcz24_3
      try clear hcz24_4
      try clear hcz24_5
      try clear hcz24_6
      try clear hcz24_7
      try clear hcz24_8
      try clear hcz24_9
      try clear hcz25_0
      try clear hcz25_1
      try clear hcz25_10
      try clear hcz25_11
      try clear hcz25_2
      try clear hcz25_3
      try clear hcz25_4
      try clear hcz25_5
      try clear hcz25_6
      try clear hcz25_7
      try clear hcz25_8
      try clear hcz25_9
      try clear hcz6_0
      try clear hcz6_1
      try clear hcz6_10
      try clear hcz6_11
      try clear hcz6_2
      try clear hcz6_3
      try clear hcz6_4
      try clear hcz6_5
      try clear hcz6_6
      try clear hcz6_7
      try clear hcz6_8
      try clear hcz6_9
      try clear hfz12_0
      try clear hfz12_1
      try clear hfz12_10
      try clear hfz12_11
      try clear hfz12_2
      try clear hfz12_3
      try clear hfz12_4
      try clear hfz12_5
      try clear hfz12_6
      try clear hfz12_7
      try clear hfz12_8
      try clear hfz12_9
      try clear hfz24_0
      try clear hfz24_1
      try clear hfz24_10
      try clear hfz24_11
      try clear hfz24_2
      try clear hfz24_3
      try clear hfz24_4
      try clear hfz24_5
      try clear hfz24_6
      try clear hfz24_7
      try clear hfz24_8
      try clear hfz24_9
      try clear hfz25_0
      try clear hfz25_1
      try clear hfz25_10
      try clear hfz25_11
      try clear hfz25_2
      try clear hfz25_3
      try clear hfz25_4
      try clear hfz25_5
      try clear hfz25_6
      try clear hfz25_7
      try clear hfz25_8
      try clear hfz25_9
      try clear hfz6_0
      try clear hfz6_1
      try clear hfz6_10
      try clear hfz6_11
      try clear hfz6_2
      try clear hfz6_3
      try clear hfz6_4
      try clear hfz6_5
      try clear hfz6_6
      try clear hfz6_7
      try clear hfz6_8
      try clear hfz6_9
      try clear hx17_0
      try clear hx551_0
      try clear p17
      try clear p2
      try clear p551
      try clear q17
      try clear q551
      obtain ⟨kq, x43_19, rfl, HA, HJ19, HO_551010, HO_551011, BK527, BK550, HB⟩ := hcut
      cases kq with
      | zero => exact absurd HA.out (by simp [tollgatelaw02_WireOwn.j1])
      | succ kj19 =>
       have H := HA.out
       clear HA
       simp only [tollgatelaw02_WireOwn.j1] at H
       by_cases c27 : x43_19 = true
       ·subst c27
        have H1 : (some false) = some r := by rw [if_pos rfl] at H; exact H
        clear H
        have H := H1
        clear H1
        obtain rfl := Option.some.inj H
        go_wp2
        go_ret
        exact ⟨by first | rfl | (simp [errW_none, errW_some] <;> rfl) | (simp [*, errW_none, errW_some] <;> rfl), by repeat (first | (with_reducible first | exact HB.out | apply below_alloc | apply pw_below_drewN | apply below_drew1 | refine below_set ?_ GE527.out | refine below_set ?_ GE550.out) | exact HB.out)⟩
       ·replace c27 := Bool.eq_false_iff.mpr c27
        subst c27
        have H1 : (tollgatelaw02_WireOwn.l1 kj19 0 a0_0 a0_1 a0_2 a0_3 a0_4 a0_5 a0_6 a0_7 a0_8 a0_9 l0_10 l0_11 t533 t534 t535 t536 t537 t538 t539 t540 t541 t542 t543 t546) = some r := by rw [if_neg (show ¬ (false = true) by decide)] at H; exact H
        clear H
        have H := H1
        clear H1
        have H' := Aside0.mk H
        clear H
        go_wp2
        go_loopg [8] kj19 (fun kq v8 w' => ∃ (x8_3 : Int) (x551010_3 : List (S34)) (u551010 : Value), v8 = .int .i64 x8_3 ∧ Aside0 (tollgatelaw02_WireOwn.l1 kq x8_3 a0_0 a0_1 a0_2 a0_3 a0_4 a0_5 a0_6 a0_7 a0_8 a0_9 l0_10 l0_11 t533 t534 t535 t536 t537 t538 t539 t540 t541 t542 x551010_3 t546 = some r) ∧ Aside0 (kq ≤ kj19) ∧ Aside0 (Kd.S k34 34 w' w.heap.size (fun k_ => some k_ ≠ ((.slice Ao14 t546.length co14) : Value).ownBlock) u551010 x551010_3) ∧ Aside0 (Kd.R (Kd.int .u8) 5 w' w.heap.size (fun _ => True) (.slice Ao14 t546.length co14) t546) ∧ Aside0 (w'.heap[gb527]? = some (.cells #[.int .i64 a0_0, .int .i64 a0_1, .int .i64 a0_2, .int .i64 a0_3, .int .i64 a0_4, .int .i64 a0_5, .int .i64 a0_6, .int .i64 a0_7, .int .i64 a0_8, .bool a0_9, (.slice A0_10 l0_10.length c0_10), (.slice A0_11 l0_11.length c0_11)] 40 (0, 0))) ∧ Aside0 (w'.heap[gb550]? = some (.cells #[.int .i64 t533, .int .i64 t534, .int .i64 t535, .int .i64 t536, .int .i64 t537, .int .i64 t538, .int .i64 t539, .int .i64 t540, .int .i64 t541, .bool t542, u551010, (.slice Ao14 t546.length co14)] 40 (0, 0))) ∧ Aside0 (Below w.heap.size w w'))
        case atStart => exact ⟨(0), (t543), (.slice Ao13 t543.length co13), (by first | rfl | (simp; done) | (simp [*]; done)), H', ⟨Nat.le_refl _⟩, ⟨by (try simp only [hl3_1]); (with_reducible repeat (first | apply Kd.S_alloc | apply Kd.S_drewN | apply Kd.S_drew)); exact HO_551010.out⟩, ⟨by (try simp only [hl3_1]); (with_reducible repeat (first | apply Kd.R_alloc | apply Kd.R_drewN | apply Kd.R_drew)); exact HO_551011.out⟩, ⟨by (try simp only [hl3_1]); (with_reducible repeat (first | refine blk_drewN ?_ _ | refine blk_drew ?_ | refine blk_alloc ?_ _)); exact BK527.out⟩, ⟨by (try simp only [hl3_1]); (with_reducible repeat (first | refine blk_drewN ?_ _ | refine blk_drew ?_ | refine blk_alloc ?_ _)); exact BK550.out⟩, ⟨by repeat (first | (with_reducible first | exact HB.out | apply below_alloc | apply pw_below_drewN | apply below_drew1 | refine below_set ?_ GE527.out | refine below_set ?_ GE550.out) | exact HB.out)⟩⟩
        case round =>
         clear H'
         try clear c1
         try clear p1
         try clear q1
         try clear hx1
         try clear hf1
         try clear c2
         try clear p2
         try clear c3
         try clear c3b0
         try clear c3b1
         try clear p5
         try clear q5
         try clear hx5
         try clear p6
         try clear c11
         try clear c13
         try clear c15
         try clear c15b0
         try clear c16
         try clear c16b0
         try clear p17
         try clear q17
         try clear hx17
         try clear hf17
         try clear c21
         try clear c21b0
         try clear c21b1
         try clear c22
         try clear c23
         try clear c27
         try clear hcz12_0
         try clear hcz12_1
         try clear hcz12_10
         try clear hcz12_11
         try clear hcz12_2
         try clear hcz12_3
         try clear hcz12_4
         try clear hcz12_5
         try clear hcz12_6
         try clear hcz12_7
         try clear hcz12_8
         try clear hcz12_9
         try clear hcz24_0
         try clear hcz24_1
         try clear hcz24_10
         try clear hcz24_11
         try clear hcz24_2
         try clear hcz24_3
         try clear hcz24_4
         try clear hcz24_5
         try clear hcz24_6
         try clear hcz24_7
         try clear hcz24_8
         try clear hcz24_9
         try clear hcz25_0
         try clear hcz25_1
         try clear hcz25_10
         try clear hcz25_11
         try clear hcz25_2
         try clear hcz25_3
         try clear hcz25_4
         try clear hcz25_5
         try clear hcz25_6
         try clear hcz25_7
         try clear hcz25_8
         try clear hcz25_9
         try clear hcz6_0
         try clear hcz6_1
         try clear hcz6_10
         try clear hcz6_11
         try clear hcz6_2
         try clear hcz6_3
         try clear hcz6_4
         try clear hcz6_5
         try clear hcz6_6
         try clear hcz6_7
         try clear hcz6_8
         try clear hcz6_9
         try clear hfz12_0
         try clear hfz12_1
         try clear hfz12_10
         try clear hfz12_11
         try clear hfz12_2
         try clear hfz12_3
         try clear hfz12_4
         try clear hfz12_5
         try clear hfz12_6
         try clear hfz12_7
         try clear hfz12_8
         try clear hfz12_9
         try clear hfz24_0
         try clear hfz24_1
         try clear hfz24_10
         try clear hfz24_11
         try clear hfz24_2
         try clear hfz24_3
         try clear hfz24_4
         try clear hfz24_5
         try clear hfz24_6
         try clear hfz24_7
         try clear hfz24_8
         try clear hfz24_9
         try clear hfz25_0
         try clear hfz25_1
         try clear hfz25_10
         try clear hfz25_11
         try clear hfz25_2
         try clear hfz25_3
         try clear hfz25_4
         try clear hfz25_5
         try clear hfz25_6
         try clear hfz25_7
         try clear hfz25_8
         try clear hfz25_9
         try clear hfz6_0
         try clear hfz6_1
         try clear hfz6_10
         try clear hfz6_11
         try clear hfz6_2
         try clear hfz6_3
         try clear hfz6_4
         try clear hfz6_5
         try clear hfz6_6
         try clear hfz6_7
         try clear hfz6_8
         try clear hfz6_9
         try clear hx17_0
         try clear hx551_0
         try clear p1
         try clear p17
         try clear p2
         try clear p5
         try clear p551
         try clear p6
         try clear q1
         try clear q17
         try clear q5
         try clear q551
         obtain ⟨x8_3, x551010_3, u551010, rfl, HA, HK3, HO_551010, HO_551011, BK527, BK550, HB⟩ := hrel
         cases gk with
         | zero => exact absurd HA.out (by simp [tollgatelaw02_WireOwn.l1])
         | succ k3 =>
          have H := HA.out
          clear HA
          simp only [tollgatelaw02_WireOwn.l1] at H
          by_cases c28 : x8_3 < (x551010_3.length : Int)
          ·rw [if_pos c28] at H
           have c28b0 : decide (x8_3 < (x551010_3.length : Int)) = true := decide_eq_true c28
           clear c28
           by_cases c29 : 0 ≤ x8_3
           ·rw [if_pos c29] at H
            have c29b0 : decide (0 ≤ x8_3) = true := decide_eq_true c29
            clear c29
            by_cases c30 : ((rd_T34 x551010_3 x8_3).f3).length < 140737488355328
            ·rw [if_pos c30] at H
             have LMc30 := Aside0.mk c30
             clear c30
             obtain ⟨y555, hy555⟩ : ∃ y_ : List Int, y_ = (((rd_T34 x551010_3 x8_3).f3) ++ [9]) := ⟨_, rfl⟩
             replace H : (tollgatelaw02_WireOwn.l1 k3 (wrap64 (x8_3 + 1)) a0_0 a0_1 a0_2 a0_3 a0_4 a0_5 a0_6 a0_7 a0_8 a0_9 l0_10 l0_11 t533 t534 t535 t536 t537 t538 t539 t540 t541 t542 (x551010_3.set (x8_3 : Int).toNat (⟨(rd_T34 x551010_3 x8_3).f0, (rd_T34 x551010_3 x8_3).f1, (rd_T34 x551010_3 x8_3).f2, y555⟩ : S34)) t546) = some r := by first | (rw [hy555]; with_reducible exact H) | (have H2_ := (Option.bind_some _ _).symm.trans H; rw [hy555]; with_reducible exact H2_) | (have H2_ := (Option.bind_some _ _).symm.trans H; with_reducible exact H2_) | with_reducible exact H | (rw [hy555]; exact H) | exact H
             have Ny555 := Aside0.mk hy555
             clear hy555
             obtain ⟨y558, hy558⟩ : ∃ y_ : List (S34), y_ = (x551010_3.set (x8_3 : Int).toNat (⟨(rd_T34 x551010_3 x8_3).f0, (rd_T34 x551010_3 x8_3).f1, (rd_T34 x551010_3 x8_3).f2, y555⟩ : S34)) := ⟨_, rfl⟩
             replace H : (tollgatelaw02_WireOwn.l1 k3 (wrap64 (x8_3 + 1)) a0_0 a0_1 a0_2 a0_3 a0_4 a0_5 a0_6 a0_7 a0_8 a0_9 l0_10 l0_11 t533 t534 t535 t536 t537 t538 t539 t540 t541 t542 y558 t546) = some r := by first | (rw [hy558]; with_reducible exact H) | (have H2_ := (Option.bind_some _ _).symm.trans H; rw [hy558]; with_reducible exact H2_) | (have H2_ := (Option.bind_some _ _).symm.trans H; with_reducible exact H2_) | with_reducible exact H | (rw [hy558]; exact H) | exact H
             have Ny558 := Aside0.mk hy558
             clear hy558
             have H' := Aside0.mk H
             clear H
             have hnb32 := NB550_527.out
             have hnc32 := NB527_550.out
             have hcz33_0 : wr.cell? ⟨gb550, 0, none⟩ = some (.int .i64 t533) := (blk_cell BK550.out 0).trans rfl
             have hcz33_1 : wr.cell? ⟨gb550, 1, none⟩ = some (.int .i64 t534) := (blk_cell BK550.out 1).trans rfl
             have hcz33_2 : wr.cell? ⟨gb550, 2, none⟩ = some (.int .i64 t535) := (blk_cell BK550.out 2).trans rfl
             have hcz33_3 : wr.cell? ⟨gb550, 3, none⟩ = some (.int .i64 t536) := (blk_cell BK550.out 3).trans rfl
             have hcz33_4 : wr.cell? ⟨gb550, 4, none⟩ = some (.int .i64 t537) := (blk_cell BK550.out 4).trans rfl
             have hcz33_5 : wr.cell? ⟨gb550, 5, none⟩ = some (.int .i64 t538) := (blk_cell BK550.out 5).trans rfl
             have hcz33_6 : wr.cell? ⟨gb550, 6, none⟩ = some (.int .i64 t539) := (blk_cell BK550.out 6).trans rfl
             have hcz33_7 : wr.cell? ⟨gb550, 7, none⟩ = some (.int .i64 t540) := (blk_cell BK550.out 7).trans rfl
             have hcz33_8 : wr.cell? ⟨gb550, 8, none⟩ = some (.int .i64 t541) := (blk_cell BK550.out 8).trans rfl
             have hcz33_9 : wr.cell? ⟨gb550, 9, none⟩ = some (.bool t542) := (blk_cell BK550.out 9).trans rfl
             have hcz33_10 : wr.cell? ⟨gb550, 10, none⟩ = some (u551010) := (blk_cell BK550.out 10).trans rfl
             have hcz33_11 : wr.cell? ⟨gb550, 11, none⟩ = some (.slice Ao14 t546.length co14) := (blk_cell BK550.out 11).trans rfl
             have hfz33_0 := blk_frozen BK550.out 0
             have hfz33_1 := blk_frozen BK550.out 1
             have hfz33_2 := blk_frozen BK550.out 2
             have hfz33_3 := blk_frozen BK550.out 3
             have hfz33_4 := blk_frozen BK550.out 4
             have hfz33_5 := blk_frozen BK550.out 5
             have hfz33_6 := blk_frozen BK550.out 6
             have hfz33_7 := blk_frozen BK550.out 7
             have hfz33_8 := blk_frozen BK550.out 8
             have hfz33_9 := blk_frozen BK550.out 9
             have hfz33_10 := blk_frozen BK550.out 10
             have hfz33_11 := blk_frozen BK550.out 11
             obtain ⟨Ao34, co34, eo34⟩ := Kd.S_slice HO_551010.out
             subst eo34
             try go_wp2
             have n0_ := Aside0.mk (Kd.S_drew HO_551010.out)
             have n1_ := Aside0.mk (Kd.R_drew HO_551011.out)
             have n2_ := Aside0.mk (blk_drew BK527.out)
             have n3_ := Aside0.mk (blk_drew BK550.out)
             have n4_ := Aside0.mk (below_drew1 HB.out)
             clear HO_551010
             clear HO_551011
             clear BK527
             clear BK550
             clear HB
             have HO_551010 := n0_
             have HO_551011 := n1_
             have BK527 := n2_
             have BK550 := n3_
             have HB := n4_
             clear n0_ n1_ n2_ n3_ n4_
             have p554 : 0 ≤ (x8_3 : Int) := of_decide_eq_true (by first | (with_reducible assumption) | assumption)
             have q554 : x8_3 < (x551010_3.length : Int) := of_decide_eq_true (by first | (with_reducible assumption) | assumption)
             obtain ⟨ad554, A554_3, c554_3, e554, hx554_0, hx554_1, hx554_2, hx554_3, hl554_3, hi554_3⟩ := at_T34 (Kd.S_reads' HO_551010.out).2.2 x8_3 p554 q554
             cases e554
             obtain ⟨ce554, hce554, hMe554, hcc554⟩ := Kd.S_get HO_551010.out z34 x8_3 p554 (by first | exact q554 | exact of_decide_eq_true (by first | (with_reducible assumption) | assumption) | (have e_ := (Kd.S_reads' HO_551010.out).1; omega))
             obtain ⟨ve554_3, rfl, ge554_3⟩ := k34_openM hMe554
             have hv554_3 := hcc554 3 _ rfl
             rw [add_field _ _ 3 (by omega)] at hv554_3
             replace hv554_3 := Option.some.inj (hv554_3.symm.trans hx554_3)
             rw [hv554_3] at ge554_3
             have HL554_3 := Aside0.mk (show Kd.R (Kd.int .u8) 5 _ _ _ _ ((rd_T34 x551010_3 x8_3).f3) from ge554_3)
             clear hv554_3 ge554_3
             have HX554_3 := Aside0.mk hx554_3
             clear hcc554 hce554
             have HR554_3 := Aside0.mk hi554_3
             have HC554_3 := Aside0.mk hl554_3
             clear hi554_3 hl554_3
             replace p554 := eq_true p554
             replace q554 := eq_true q554
             obtain ⟨go36, co36, eo36, gb36, gl36, cl36, HG36⟩ := Kd.S_form HO_551010.out (by have h_ : (x8_3 : Int) < ((x551010_3.length : Int) : Int) := of_decide_eq_true (by first | (with_reducible assumption) | assumption); have h2_ : 0 ≤ (x8_3 : Int) := (of_decide_eq_true (by first | (with_reducible assumption) | assumption)); omega)
             (first | cases eo36 | (injection eo36 with ea_ en_ ec_; (first | subst ea_ | (injection ea_ with ea_; subst ea_)); subst ec_; clear en_))
             have GB36 := Aside0.mk gb36
             have GG36 := Aside0.mk HG36
             clear gb36 gl36 HG36
             (first | simp only [add_plain] at hx554_0 | skip)
             (first | simp only [add_plain] at hx554_1 | skip)
             (first | simp only [add_plain] at hx554_2 | skip)
             (first | simp only [add_plain] at hx554_3 | skip)
             obtain ⟨oki36, ce36, hcl36, hM36, hcc36, _, _, hH36⟩ := Kd.S_elem HO_551010.out z34 (x8_3 : Int) (of_decide_eq_true (by first | (with_reducible assumption) | assumption)) (by have h_ : (x8_3 : Int) < ((x551010_3.length : Int) : Int) := of_decide_eq_true (by first | (with_reducible assumption) | assumption); first | exact h_ | (have e_ := (Kd.S_reads' HO_551010.out).1; omega) | simpa using h_)
             obtain ⟨ve36_3, rfl, ge36_3⟩ := k34_openM hM36
             have hv36 := hcc36 3 _ rfl
             have hX36 := HX554_3.out
             (try simp only [add_plain] at hX36)
             (try simp only [Nat.add_zero] at hv36)
             replace hv36 := Option.some.inj (hv36.symm.trans hX36)
             subst hv36
             clear hX36 hcc36 hcl36
             have UU36 := Aside0.mk (show Kd.R (Kd.int .u8) 5 _ w.heap.size oki36 (.slice A554_3 ((rd_T34 x551010_3 x8_3).f3).length c554_3) ((rd_T34 x551010_3 x8_3).f3) from ge36_3)
             have HH36 := Aside0.mk hH36
             have HN36 := Aside0.mk (Kd.S_reads' HO_551010.out).1
             clear hH36 ge36_3
             refine start_ (n := 14) (S := fun w' => w'.cell? ⟨gb550, 0, none⟩ = some (.int .i64 t533) ∧ w'.cell? ⟨gb550, 1, none⟩ = some (.int .i64 t534) ∧ w'.cell? ⟨gb550, 2, none⟩ = some (.int .i64 t535) ∧ w'.cell? ⟨gb550, 3, none⟩ = some (.int .i64 t536) ∧ w'.cell? ⟨gb550, 4, none⟩ = some (.int .i64 t537) ∧ w'.cell? ⟨gb550, 5, none⟩ = some (.int .i64 t538) ∧ w'.cell? ⟨gb550, 6, none⟩ = some (.int .i64 t539) ∧ w'.cell? ⟨gb550, 7, none⟩ = some (.int .i64 t540) ∧ w'.cell? ⟨gb550, 8, none⟩ = some (.int .i64 t541) ∧ w'.cell? ⟨gb550, 9, none⟩ = some (.bool t542) ∧ w'.cell? ⟨gb550, 10, none⟩ = some (.slice (some ⟨go36, 0, none⟩) x551010_3.length co34) ∧ w'.cell? ⟨gb550, 11, none⟩ = some (.slice Ao14 t546.length co14) ∧ w'.cell? ⟨go36, ((x8_3).toNat * 4), none⟩ = some (.int .i64 ((rd_T34 x551010_3 x8_3).f0)) ∧ w'.cell? ⟨go36, ((x8_3).toNat * 4) + 1, none⟩ = some (.int .i64 ((rd_T34 x551010_3 x8_3).f1)) ∧ w'.cell? ⟨go36, ((x8_3).toNat * 4) + 2, none⟩ = some (.int .i64 ((rd_T34 x551010_3 x8_3).f2)) ∧ w'.cell? ⟨go36, ((x8_3).toNat * 4) + 3, none⟩ = some (.slice A554_3 ((rd_T34 x551010_3 x8_3).f3).length c554_3)) (ds := [13]) #[false, false, false, false, false, false, false, false, false, false, false, false, false, false] (by kernel_rfl) rfl rfl ⟨(blk_cell BK550.out 0).trans rfl, (blk_cell BK550.out 1).trans rfl, (blk_cell BK550.out 2).trans rfl, (blk_cell BK550.out 3).trans rfl, (blk_cell BK550.out 4).trans rfl, (blk_cell BK550.out 5).trans rfl, (blk_cell BK550.out 6).trans rfl, (blk_cell BK550.out 7).trans rfl, (blk_cell BK550.out 8).trans rfl, (blk_cell BK550.out 9).trans rfl, (blk_cell BK550.out 10).trans rfl, (blk_cell BK550.out 11).trans rfl, hx554_0, hx554_1, hx554_2, hx554_3⟩ (fun hHeld => ?_); refine with_tabW tollgatelaw02_WireOwn.tab14 tollgatelaw02_WireOwn.bits14 (fun HT_ HW_ => ?_)
             generalize wr.drew = w35 at HO_551010 HO_551011 BK527 BK550 HB GG36 HH36 HL554_3 HR554_3 HX554_3 UU36 hx554_0 hx554_1 hx554_2 hx554_3 hHeld ⊢
             refine pure_ (i := 0) (N := some 51) (v := ?_) (a' := ?_) #[true, false, false, false, false, false, false, false, false, false, false, false, false, false] rfl rfl (any_of HT_.out (by kernel_rfl)) (fun _ _ _ h => h) (Or.inl ⟨by rfl, ?_⟩) ?_ ?_
             rotate_left
             ·intro w'
              go_simp
              with_reducible rfl
             rotate_left
             ·simp only [Act.put, List.setIfInBounds_toArray, List.set_cons_zero, List.set_cons_succ, i64_w, i32_w]
              rfl
             refine pure_ (i := 2) (N := some 53) (v := ?_) (a' := ?_) #[true, false, true, false, false, false, false, false, false, false, false, false, false, false] rfl rfl (any_of HT_.out (by kernel_rfl)) (fun _ _ _ h => h) (Or.inl ⟨by rfl, ?_⟩) ?_ ?_
             rotate_left
             ·intro w'
              go_simp
              with_reducible rfl
             rotate_left
             ·simp only [Act.put, List.setIfInBounds_toArray, List.set_cons_zero, List.set_cons_succ, i64_w, i32_w]
              rfl
             refine pure_ (i := 3) (N := some 54) (v := ?_) (a' := ?_) #[true, false, true, true, false, false, false, false, false, false, false, false, false, false] rfl rfl (any_of HT_.out (by kernel_rfl)) (fun _ _ _ h => h) (Or.inl ⟨by rfl, ?_⟩) ?_ ?_
             rotate_left
             ·intro w'
              go_simp
              with_reducible rfl
             rotate_left
             ·simp only [Act.put, List.setIfInBounds_toArray, List.set_cons_zero, List.set_cons_succ, i64_w, i32_w]
              rfl
             refine pure_ (i := 5) (N := some 56) (v := ?_) (a' := ?_) #[true, false, true, true, false, true, false, false, false, false, false, false, false, false] rfl rfl (any_of HT_.out (by kernel_rfl)) (fun _ _ _ h => h) (Or.inl ⟨by rfl, ?_⟩) ?_ ?_
             rotate_left
             ·intro w'
              go_simp
              with_reducible rfl
             rotate_left
             ·simp only [Act.put, List.setIfInBounds_toArray, List.set_cons_zero, List.set_cons_succ, i64_w, i32_w]
              rfl
             refine take_ (i := 1) (N := some 52) (v := ?_) (a' := ?_) #[true, true, true, true, false, true, false, false, false, false, false, false, false, false] rfl rfl (take_ofW HT_.out HW_.out (by kernel_rfl)) (fun _ _ _ h => h) (Or.inl ⟨by rfl, ?_⟩) hHeld ?_ ?_
             rotate_left
             ·rintro w' ⟨s0, s1, s2, s3, s4, s5, s6, s7, s8, s9, s10, s11, s12, s13, s14, s15⟩
              go_simp
              with_reducible rfl
             rotate_left
             ·simp only [Act.put, List.setIfInBounds_toArray, List.set_cons_zero, List.set_cons_succ, i64_w, i32_w]
              rfl
             refine take_ (i := 4) (N := some 55) (v := ?_) (a' := ?_) #[true, true, true, true, true, true, false, false, false, false, false, false, false, false] rfl rfl (take_ofW HT_.out HW_.out (by kernel_rfl)) (fun _ _ _ h => h) (Or.inl ⟨by rfl, ?_⟩) hHeld ?_ ?_
             rotate_left
             ·rintro w' ⟨s0, s1, s2, s3, s4, s5, s6, s7, s8, s9, s10, s11, s12, s13, s14, s15⟩
              go_simp
              with_reducible rfl
             rotate_left
             ·simp only [Act.put, List.setIfInBounds_toArray, List.set_cons_zero, List.set_cons_succ, i64_w, i32_w]
              rfl
             refine pure_ (i := 6) (N := some 57) (v := ?_) (a' := ?_) #[true, true, true, true, true, true, true, false, false, false, false, false, false, false] rfl rfl (any_of HT_.out (by kernel_rfl)) (fun _ _ _ h => h) (Or.inl ⟨by rfl, ?_⟩) ?_ ?_
             rotate_left
             ·intro w'
              go_simp
              with_reducible rfl
             rotate_left
             ·simp only [Act.put, List.setIfInBounds_toArray, List.set_cons_zero, List.set_cons_succ, i64_w, i32_w]
              rfl
             refine pure_ (i := 7) (N := some 58) (v := ?_) (a' := ?_) #[true, true, true, true, true, true, true, true, false, false, false, false, false, false] rfl rfl (any_of HT_.out (by kernel_rfl)) (fun _ _ _ h => h) (Or.inl ⟨by rfl, ?_⟩) ?_ ?_
             rotate_left
             ·intro w'
              go_simp
              with_reducible rfl
             rotate_left
             ·simp only [Act.put, List.setIfInBounds_toArray, List.set_cons_zero, List.set_cons_succ, i64_w, i32_w]
              rfl
             refine take_ (i := 8) (N := some 59) (v := ?_) (a' := ?_) #[true, true, true, true, true, true, true, true, true, false, false, false, false, false] rfl rfl (take_ofW HT_.out HW_.out (by kernel_rfl)) (fun _ _ _ h => h) (Or.inl ⟨by rfl, ?_⟩) hHeld ?_ ?_
             rotate_left
             ·rintro w' ⟨s0, s1, s2, s3, s4, s5, s6, s7, s8, s9, s10, s11, s12, s13, s14, s15⟩
              go_simp
              with_reducible rfl
             rotate_left
             ·simp only [Act.put, List.setIfInBounds_toArray, List.set_cons_zero, List.set_cons_succ, i64_w, i32_w]
              rfl
             refine one_ (i := 9) (N := some 60) #[true, true, true, true, true, true, true, true, true, true, false, false, false, false] rfl rfl (one_of HT_.out (by kernel_rfl)) (by decide) (fun K hK => ?_)
             refine value_ (w1 := ?_) (v := ?_) (by rfl) rfl ?_ ?_
             rotate_left 2
             ·go_simp
              constructor
              ·rfl
              ·rfl
             refine hK.out _ _ ⟨(blk_cell (blk_alloc BK550.out _) 0).trans rfl, (blk_cell (blk_alloc BK550.out _) 1).trans rfl, (blk_cell (blk_alloc BK550.out _) 2).trans rfl, (blk_cell (blk_alloc BK550.out _) 3).trans rfl, (blk_cell (blk_alloc BK550.out _) 4).trans rfl, (blk_cell (blk_alloc BK550.out _) 5).trans rfl, (blk_cell (blk_alloc BK550.out _) 6).trans rfl, (blk_cell (blk_alloc BK550.out _) 7).trans rfl, (blk_cell (blk_alloc BK550.out _) 8).trans rfl, (blk_cell (blk_alloc BK550.out _) 9).trans rfl, (blk_cell (blk_alloc BK550.out _) 10).trans rfl, (blk_cell (blk_alloc BK550.out _) 11).trans rfl, (World.cell?_alloc_lt _ _ _ (World.block_lt_of_cell? _ _ (hHeld.2.2.2.2.2.2.2.2.2.2.2.2.1))).trans (hHeld.2.2.2.2.2.2.2.2.2.2.2.2.1), (World.cell?_alloc_lt _ _ _ (World.block_lt_of_cell? _ _ (hHeld.2.2.2.2.2.2.2.2.2.2.2.2.2.1))).trans (hHeld.2.2.2.2.2.2.2.2.2.2.2.2.2.1), (World.cell?_alloc_lt _ _ _ (World.block_lt_of_cell? _ _ (hHeld.2.2.2.2.2.2.2.2.2.2.2.2.2.2.1))).trans (hHeld.2.2.2.2.2.2.2.2.2.2.2.2.2.2.1), (World.cell?_alloc_lt _ _ _ (World.block_lt_of_cell? _ _ (hHeld.2.2.2.2.2.2.2.2.2.2.2.2.2.2.2))).trans (hHeld.2.2.2.2.2.2.2.2.2.2.2.2.2.2.2)⟩ (fun hHeld => ?_)
             clear hK K
             refine norm_ (a' := ?_) ?_ ?_
             rotate_left
             ·show Act.put _ (some 60) _ = _
              simp only [Act.put, List.setIfInBounds_toArray, List.set_cons_zero, List.set_cons_succ, i64_w, i32_w]
              rfl
             refine one_ (i := 10) (N := some 61) #[true, true, true, true, true, true, true, true, true, true, true, false, false, false] rfl rfl (one_of HT_.out (by kernel_rfl)) (by decide) (fun K hK => ?_)
             refine Kd.R_append_step (Kd.int .u8) (w0 := w) w.heap.size (by rfl) (.tmp 59) (.tmp 60) 22 5 (.int .u8 0) 1 rfl Try.underlying22 info5 rfl (by decide) (by omega) (.slice A554_3 ((rd_T34 x551010_3 x8_3).f3).length c554_3) ((rd_T34 x551010_3 x8_3).f3) 9 [.int .u8 9] (fun k_ => oki36 k_ ∨ ((fun k_ => some k_ ≠ (.slice Ao14 t546.length co14 : Value).ownBlock)) k_ ∧ w35.heap.size ≤ k_) (fun _ => False) rfl rfl ?aP (fun _ hk => hk.elim) ?aF ?aO ?aB ?aS ?aL ?_
             (case aP => exact rfl)
             (case aB => exact (by repeat (first | (with_reducible first | exact HB.out | apply below_alloc | apply pw_below_drewN | apply below_drew1 | refine below_set ?_ GE527.out | refine below_set ?_ GE550.out) | exact HB.out)))
             (case aF => exact (fun k_ hk => .inr ⟨Kd.fresh' (Kd.R_lt (by (with_reducible repeat (first | apply Kd.R_alloc | apply Kd.R_drewN | apply Kd.R_drew)); exact HO_551011.out)) k_ hk, hk⟩))
             (case aO => exact (by (with_reducible repeat (first | apply Kd.R_alloc | apply Kd.R_drewN | apply Kd.R_drew)); exact Kd.R_mono UU36.out (fun _ hk => .inl hk)))
             (case aS => exact (below_size (by repeat (first | (with_reducible first | exact HB.out | apply below_alloc | apply pw_below_drewN | apply below_drew1 | refine below_set ?_ GE527.out | refine below_set ?_ GE550.out) | exact HB.out))))
             (case aL => have := LMc30.out; omega)
             intro v556 w37 ho hb hg hat
             (first | have HS12_ := cell_grown hg (hHeld.2.2.2.2.2.2.2.2.2.2.2.2.1) (by first | (rw [add_block]; exact (fun e_ => ((HL554_3.out.1 _ e_.symm).2) rfl)) | (show some (Addr.add _ _).block ≠ _; rw [add_block]; exact (fun e_ => ((HL554_3.out.1 _ e_.symm).2) rfl)) | exact (fun e_ => ((HL554_3.out.1 _ e_.symm).2) rfl)) | have HS12_ := cell_grown hg (cell_unalloc (hHeld.2.2.2.2.2.2.2.2.2.2.2.2.1) (by first | (rw [add_block]; exact Kd.S_lt HO_551010.out _ rfl) | (show (Addr.add _ _).block < _; rw [add_block]; exact Kd.S_lt HO_551010.out _ rfl) | exact Kd.S_lt HO_551010.out _ rfl)) (by first | (rw [add_block]; exact (fun e_ => ((HL554_3.out.1 _ e_.symm).2) rfl)) | (show some (Addr.add _ _).block ≠ _; rw [add_block]; exact (fun e_ => ((HL554_3.out.1 _ e_.symm).2) rfl)) | exact (fun e_ => ((HL554_3.out.1 _ e_.symm).2) rfl)))
             (first | have HS13_ := cell_grown hg (hHeld.2.2.2.2.2.2.2.2.2.2.2.2.2.1) (by first | (rw [add_block]; exact (fun e_ => ((HL554_3.out.1 _ e_.symm).2) rfl)) | (show some (Addr.add _ _).block ≠ _; rw [add_block]; exact (fun e_ => ((HL554_3.out.1 _ e_.symm).2) rfl)) | exact (fun e_ => ((HL554_3.out.1 _ e_.symm).2) rfl)) | have HS13_ := cell_grown hg (cell_unalloc (hHeld.2.2.2.2.2.2.2.2.2.2.2.2.2.1) (by first | (rw [add_block]; exact Kd.S_lt HO_551010.out _ rfl) | (show (Addr.add _ _).block < _; rw [add_block]; exact Kd.S_lt HO_551010.out _ rfl) | exact Kd.S_lt HO_551010.out _ rfl)) (by first | (rw [add_block]; exact (fun e_ => ((HL554_3.out.1 _ e_.symm).2) rfl)) | (show some (Addr.add _ _).block ≠ _; rw [add_block]; exact (fun e_ => ((HL554_3.out.1 _ e_.symm).2) rfl)) | exact (fun e_ => ((HL554_3.out.1 _ e_.symm).2) rfl)))
             (first | have HS14_ := cell_grown hg (hHeld.2.2.2.2.2.2.2.2.2.2.2.2.2.2.1) (by first | (rw [add_block]; exact (fun e_ => ((HL554_3.out.1 _ e_.symm).2) rfl)) | (show some (Addr.add _ _).block ≠ _; rw [add_block]; exact (fun e_ => ((HL554_3.out.1 _ e_.symm).2) rfl)) | exact (fun e_ => ((HL554_3.out.1 _ e_.symm).2) rfl)) | have HS14_ := cell_grown hg (cell_unalloc (hHeld.2.2.2.2.2.2.2.2.2.2.2.2.2.2.1) (by first | (rw [add_block]; exact Kd.S_lt HO_551010.out _ rfl) | (show (Addr.add _ _).block < _; rw [add_block]; exact Kd.S_lt HO_551010.out _ rfl) | exact Kd.S_lt HO_551010.out _ rfl)) (by first | (rw [add_block]; exact (fun e_ => ((HL554_3.out.1 _ e_.symm).2) rfl)) | (show some (Addr.add _ _).block ≠ _; rw [add_block]; exact (fun e_ => ((HL554_3.out.1 _ e_.symm).2) rfl)) | exact (fun e_ => ((HL554_3.out.1 _ e_.symm).2) rfl)))
             (first | have HS15_ := cell_grown hg (hHeld.2.2.2.2.2.2.2.2.2.2.2.2.2.2.2) (by first | (rw [add_block]; exact (fun e_ => ((HL554_3.out.1 _ e_.symm).2) rfl)) | (show some (Addr.add _ _).block ≠ _; rw [add_block]; exact (fun e_ => ((HL554_3.out.1 _ e_.symm).2) rfl)) | exact (fun e_ => ((HL554_3.out.1 _ e_.symm).2) rfl)) | have HS15_ := cell_grown hg (cell_unalloc (hHeld.2.2.2.2.2.2.2.2.2.2.2.2.2.2.2) (by first | (rw [add_block]; exact Kd.S_lt HO_551010.out _ rfl) | (show (Addr.add _ _).block < _; rw [add_block]; exact Kd.S_lt HO_551010.out _ rfl) | exact Kd.S_lt HO_551010.out _ rfl)) (by first | (rw [add_block]; exact (fun e_ => ((HL554_3.out.1 _ e_.symm).2) rfl)) | (show some (Addr.add _ _).block ≠ _; rw [add_block]; exact (fun e_ => ((HL554_3.out.1 _ e_.symm).2) rfl)) | exact (fun e_ => ((HL554_3.out.1 _ e_.symm).2) rfl)))
             rw [← Ny555.out] at ho
             have n0_ := Aside0.mk (Kd.R_grown2 (by (with_reducible repeat (first | apply Kd.R_alloc | apply Kd.R_drewN | apply Kd.R_drew)); exact HO_551011.out) rfl hg (fun k_ e_ => (HL554_3.out.1 k_ e_).1))
             have n1_ := Aside0.mk (blk_grown (g := gb527) (o := .cells #[.int .i64 a0_0, .int .i64 a0_1, .int .i64 a0_2, .int .i64 a0_3, .int .i64 a0_4, .int .i64 a0_5, .int .i64 a0_6, .int .i64 a0_7, .int .i64 a0_8, .bool a0_9, .slice A0_10 l0_10.length c0_10, .slice A0_11 l0_11.length c0_11] 40 (0, 0)) (by (with_reducible repeat (first | refine blk_drewN ?_ _ | refine blk_drew ?_ | refine blk_alloc ?_ _)); exact BK527.out) hg (Kd.R_ne HL554_3.out BK527.out (by decide)))
             have n2_ := Aside0.mk (blk_grown (g := gb550) (o := .cells #[.int .i64 t533, .int .i64 t534, .int .i64 t535, .int .i64 t536, .int .i64 t537, .int .i64 t538, .int .i64 t539, .int .i64 t540, .int .i64 t541, .bool t542, .slice (some ⟨go36, 0, none⟩) x551010_3.length co34, .slice Ao14 t546.length co14] 40 (0, 0)) (by (with_reducible repeat (first | refine blk_drewN ?_ _ | refine blk_drew ?_ | refine blk_alloc ?_ _)); exact BK550.out) hg (Kd.R_ne HL554_3.out BK550.out (by decide)))
             have n3_ := Aside0.mk (hb)
             have n4_ := Aside0.mk (Kd.H_grown (Kd.H_widen (by repeat (first | exact HH36.out | refine Kd.H_alloc ?_ _ | refine Kd.H_drewN ?_ _ | refine Kd.H_drew ?_))) hg (fun k_ e_ => .inl (UU36.out.1 k_ e_)))
             have n5_ := Aside0.mk (ho)
             clear HO_551011
             clear BK527
             clear BK550
             clear HB
             clear HH36
             clear HO_551010
             clear UU36
             clear HL554_3
             have HO_551011 := n0_
             have BK527 := n1_
             have BK550 := n2_
             have HB := n3_
             have HH36 := n4_
             have HO557 := n5_
             clear n0_ n1_ n2_ n3_ n4_ n5_
             clear ho hb hg hat
             have p31 : 0 ≤ (x8_3 : Int) := of_decide_eq_true (by first | (with_reducible assumption) | assumption)
             have q31 : (x8_3 : Int) < ((x551010_3.length : Int) : Int) := of_decide_eq_true (by first | (with_reducible assumption) | assumption)
             replace p31 := eq_true p31
             replace q31 := eq_true q31
             obtain ⟨Ao40, co40, eo40⟩ := Kd.R_slice HO557.out
             (first | subst eo40 | (injection eo40 with f1_ f2_ f3_; have f4_ := f1_.symm; have f5_ := f3_.symm; clear f1_ f2_ f3_; subst f4_; subst f5_))
             obtain ⟨_, _, hraw38, _, _, hcc38, _⟩ := Kd.H_raw HH36.out (of_decide_eq_true (by first | (with_reducible assumption) | assumption)) (by have h_ : (x8_3 : Int) < ((x551010_3.length : Int) : Int) := of_decide_eq_true (by first | (with_reducible assumption) | assumption); first | exact h_ | (have e_ := (HN36.out); omega) | simpa using h_)
             obtain ⟨_, hfr38⟩ := Kd.H_at HH36.out (of_decide_eq_true (by first | (with_reducible assumption) | assumption)) (by have h_ : (x8_3 : Int) < ((x551010_3.length : Int) : Int) := of_decide_eq_true (by first | (with_reducible assumption) | assumption); first | exact h_ | (have e_ := (HN36.out); omega) | simpa using h_)
             have hx38_0 := hcc38 3 _ rfl
             have hf38_0 := hfr38 3
             (try rw [show (k34).sz = 4 from rfl] at hx38_0)
             (try rw [show (k34).sz = 4 from rfl] at hf38_0)
             have HP38 := Kd.S_seg0 HH36.out (of_decide_eq_true (by first | (with_reducible assumption) | assumption)) (by have h_ : (x8_3 : Int) < ((x551010_3.length : Int) : Int) := of_decide_eq_true (by first | (with_reducible assumption) | assumption); first | exact h_ | (have e_ := (HN36.out); omega) | simpa using h_) (seg := [.slice Ao40 y555.length co40]) (j := 3) (show 4 ≤ 4 from by decide) (x' := (⟨(rd_T34 x551010_3 x8_3).f0, (rd_T34 x551010_3 x8_3).f1, (rd_T34 x551010_3 x8_3).f2, y555⟩ : S34)) (k34_mkM _ _ _ (⟨(rd_T34 x551010_3 x8_3).f0, (rd_T34 x551010_3 x8_3).f1, (rd_T34 x551010_3 x8_3).f2, y555⟩ : S34) HO557.out) (fun _ hk => hk)
             clear hcc38 hfr38
             have HNB527_go36 := Aside0.mk (show gb527 ≠ go36 from by have h_ := Kd.R_ne hraw38 BK527.out (by decide); intro e_; exact h_ (by rw [e_]; rfl))
             have HNB550_go36 := Aside0.mk (show gb550 ≠ go36 from by have h_ := Kd.R_ne hraw38 BK550.out (by decide); intro e_; exact h_ (by rw [e_]; rfl))
             have HS38 := HP38.1
             rw [← Ny558.out] at HS38
             have HQ38 := Aside0.mk HS38
             obtain ⟨_, hgg38⟩ := Kd.R_typed hraw38 go36 rfl
             have GG38_ := Aside0.mk hgg38
             clear HP38 HS38 hgg38
             refine hK.out _ _ ⟨(blk_cell BK550.out 0).trans rfl, (blk_cell BK550.out 1).trans rfl, (blk_cell BK550.out 2).trans rfl, (blk_cell BK550.out 3).trans rfl, (blk_cell BK550.out 4).trans rfl, (blk_cell BK550.out 5).trans rfl, (blk_cell BK550.out 6).trans rfl, (blk_cell BK550.out 7).trans rfl, (blk_cell BK550.out 8).trans rfl, (blk_cell BK550.out 9).trans rfl, (blk_cell BK550.out 10).trans rfl, (blk_cell BK550.out 11).trans rfl, HS12_, HS13_, HS14_, HS15_⟩ (fun hHeld => ?_)
             clear hK K
             refine norm_ (a' := ?_) ?_ ?_
             rotate_left
             ·show Act.put _ (some 61) _ = _
              simp only [Act.put, List.setIfInBounds_toArray, List.set_cons_zero, List.set_cons_succ, i64_w, i32_w]
              rfl
             refine pure_ (i := 11) (N := some 62) (v := ?_) (a' := ?_) #[true, true, true, true, true, true, true, true, true, true, true, true, false, false] rfl rfl (any_of HT_.out (by kernel_rfl)) (fun _ _ _ h => h) (Or.inl ⟨by rfl, ?_⟩) ?_ ?_
             rotate_left
             ·intro w'
              go_simp
              with_reducible rfl
             rotate_left
             ·simp only [Act.put, List.setIfInBounds_toArray, List.set_cons_zero, List.set_cons_succ, i64_w, i32_w]
              rfl
             refine pure_ (i := 12) (N := some 63) (v := ?_) (a' := ?_) #[true, true, true, true, true, true, true, true, true, true, true, true, true, false] rfl rfl (any_of HT_.out (by kernel_rfl)) (fun _ _ _ h => h) (Or.inl ⟨by rfl, ?_⟩) ?_ ?_
             rotate_left
             ·intro w'
              go_simp
              with_reducible rfl
             rotate_left
             ·simp only [Act.put, List.setIfInBounds_toArray, List.set_cons_zero, List.set_cons_succ, i64_w, i32_w]
              rfl
             refine last_ (i := 13) (N := none) #[true, true, true, true, true, true, true, true, true, true, true, true, true, true] rfl rfl (one_of HT_.out (by kernel_rfl)) (by decide) (fun K hK => ?_)
             refine skip_ (w1 := ?_) (by rfl) rfl ?_ ?_
             rotate_left
             ·go_simp
              rfl
             refine hK.out _ _ ?_
             clear hK K
             refine done_ (done_of HT_.out (by kernel_rfl)) ?_
             try go_wp2
             go_roundg k3
             case measure => have := HK1.out; have := HJ19.out; have := HK3.out; omega
             case rel => exact ⟨(wrap64 (x8_3 + 1)), (y558), (.slice (some ⟨go36, 0, none⟩) x551010_3.length co34), (by first | rfl | (simp; done) | (simp [*]; done)), H', ⟨by have := HK1.out; have := HJ19.out; have := HK3.out; omega⟩, ⟨by (try simp only [hl3_1]); (with_reducible repeat (first | apply Kd.S_alloc | apply Kd.S_drewN | apply Kd.S_drew)); exact HQ38.out⟩, ⟨by (try simp only [hl3_1]); (with_reducible repeat (first | apply Kd.R_alloc | apply Kd.R_drewN | apply Kd.R_drew)); exact Kd.R_mono (Kd.R_far (p := ⟨go36, (x8_3 : Int).toNat * 4 + 3, none⟩) (Kd.R_types HO_551011.out GG38_.out (by decide)) (fun _ hk => hk.2) (.slice Ao40 y555.length co40)) (fun _ hk => trivial)⟩, ⟨by (try simp only [hl3_1]); (with_reducible repeat (first | refine blk_drewN ?_ _ | refine blk_drew ?_ | refine blk_alloc ?_ _)); refine blk_far ?_ HNB527_go36.out _; (with_reducible repeat (first | refine blk_drewN ?_ _ | refine blk_drew ?_ | refine blk_alloc ?_ _)); exact BK527.out⟩, ⟨by (try simp only [hl3_1]); (with_reducible repeat (first | refine blk_drewN ?_ _ | refine blk_drew ?_ | refine blk_alloc ?_ _)); refine blk_far ?_ HNB550_go36.out _; (with_reducible repeat (first | refine blk_drewN ?_ _ | refine blk_drew ?_ | refine blk_alloc ?_ _)); exact BK550.out⟩, ⟨by repeat (first | (with_reducible first | exact HB.out | apply below_alloc | apply pw_below_drewN | apply below_drew1 | refine below_set ?_ GB36.out | refine below_set ?_ GE527.out | refine below_set ?_ GE550.out) | exact HB.out)⟩⟩
            ·rw [if_neg c30] at H
             exact absurd H (by simp)
           ·rw [if_neg c29] at H
            exact absurd H (by simp)
          ·rw [if_neg c28] at H
           have c28b0 : decide (x8_3 < (x551010_3.length : Int)) = false := decide_eq_false c28
           clear c28
           by_cases c41 : t546.length < 140737488355328
           ·rw [if_pos c41] at H
            have LMc41 := Aside0.mk c41
            clear c41
            obtain ⟨y559, hy559⟩ : ∃ y_ : List Int, y_ = (t546 ++ [9]) := ⟨_, rfl⟩
            replace H : (tollgatelaw02_WireOwn.l2 k3 0 a0_0 a0_1 a0_2 a0_3 a0_4 a0_5 a0_6 a0_7 a0_8 a0_9 l0_10 l0_11 t533 t534 t535 t536 t537 t538 t539 t540 t541 t542 x551010_3 y559) = some r := by first | (rw [hy559]; with_reducible exact H) | (have H2_ := (Option.bind_some _ _).symm.trans H; rw [hy559]; with_reducible exact H2_) | (have H2_ := (Option.bind_some _ _).symm.trans H; with_reducible exact H2_) | with_reducible exact H | (rw [hy559]; exact H) | exact H
            have Ny559 := Aside0.mk hy559
            clear hy559
            have H' := Aside0.mk H
            clear H
            have hnb42 := NB550_527.out
            have hnc42 := NB527_550.out
            have hcz43_0 : wr.cell? ⟨gb550, 0, none⟩ = some (.int .i64 t533) := (blk_cell BK550.out 0).trans rfl
            have hcz43_1 : wr.cell? ⟨gb550, 1, none⟩ = some (.int .i64 t534) := (blk_cell BK550.out 1).trans rfl
            have hcz43_2 : wr.cell? ⟨gb550, 2, none⟩ = some (.int .i64 t535) := (blk_cell BK550.out 2).trans rfl
            have hcz43_3 : wr.cell? ⟨gb550, 3, none⟩ = some (.int .i64 t536) := (blk_cell BK550.out 3).trans rfl
            have hcz43_4 : wr.cell? ⟨gb550, 4, none⟩ = some (.int .i64 t537) := (blk_cell BK550.out 4).trans rfl
            have hcz43_5 : wr.cell? ⟨gb550, 5, none⟩ = some (.int .i64 t538) := (blk_cell BK550.out 5).trans rfl
            have hcz43_6 : wr.cell? ⟨gb550, 6, none⟩ = some (.int .i64 t539) := (blk_cell BK550.out 6).trans rfl
            have hcz43_7 : wr.cell? ⟨gb550, 7, none⟩ = some (.int .i64 t540) := (blk_cell BK550.out 7).trans rfl
            have hcz43_8 : wr.cell? ⟨gb550, 8, none⟩ = some (.int .i64 t541) := (blk_cell BK550.out 8).trans rfl
            have hcz43_9 : wr.cell? ⟨gb550, 9, none⟩ = some (.bool t542) := (blk_cell BK550.out 9).trans rfl
            have hcz43_10 : wr.cell? ⟨gb550, 10, none⟩ = some (u551010) := (blk_cell BK550.out 10).trans rfl
            have hcz43_11 : wr.cell? ⟨gb550, 11, none⟩ = some (.slice Ao14 t546.length co14) := (blk_cell BK550.out 11).trans rfl
            have hfz43_0 := blk_frozen BK550.out 0
            have hfz43_1 := blk_frozen BK550.out 1
            have hfz43_2 := blk_frozen BK550.out 2
            have hfz43_3 := blk_frozen BK550.out 3
            have hfz43_4 := blk_frozen BK550.out 4
            have hfz43_5 := blk_frozen BK550.out 5
            have hfz43_6 := blk_frozen BK550.out 6
            have hfz43_7 := blk_frozen BK550.out 7
            have hfz43_8 := blk_frozen BK550.out 8
            have hfz43_9 := blk_frozen BK550.out 9
            have hfz43_10 := blk_frozen BK550.out 10
            have hfz43_11 := blk_frozen BK550.out 11
            obtain ⟨Ao44, co44, eo44⟩ := Kd.S_slice HO_551010.out
            subst eo44
            go_wp2_with (first | ((with_reducible refine gate_builtin (b := .append) (xs := #[.tmp 65, .tmp 66]) rfl ?_); (try (refine gate_guard (by rfl) ?_; dsimp only)); at_builtin; refine Kd.R_append (Kd.int .u8) (w0 := w) w.heap.size rfl (.tmp 65) (.tmp 66) 22 5 (.int .u8 0) 1 rfl Try.underlying22 info5 rfl (by decide) (by omega) (.slice Ao14 t546.length co14) t546 9 [.int .u8 9] (fun _ => True) (fun _ => False) rfl rfl ?aP (fun _ hk => hk.elim) ?aF ?aO ?aB ?aS ?aL ?_; (case aP => exact rfl); (case aB => exact (by repeat (first | (with_reducible first | exact HB.out | apply below_alloc | apply pw_below_drewN | apply below_drew1 | refine below_set ?_ GE527.out | refine below_set ?_ GE550.out) | exact HB.out))); (case aF => exact (fun _ _ => trivial)); (case aO => exact (by (with_reducible repeat (first | apply Kd.R_alloc | apply Kd.R_drewN | apply Kd.R_drew)); exact HO_551011.out)); (case aS => exact (below_size (by repeat (first | (with_reducible first | exact HB.out | apply below_alloc | apply pw_below_drewN | apply below_drew1 | refine below_set ?_ GE527.out | refine below_set ?_ GE550.out) | exact HB.out)))); (case aL => have := LMc41.out; omega); intro v560 w45 ho hb hg hat; rw [← Ny559.out] at ho; have n0_ := Aside0.mk (Kd.S_after (ok := (fun _ => True)) (by (with_reducible repeat (first | apply Kd.S_alloc | apply Kd.S_drewN | apply Kd.S_drew)); exact Kd.S_mono HO_551010.out (fun _ hk => ⟨trivial, hk⟩)) hg hat); have n1_ := Aside0.mk (blk_grown (g := gb527) (o := .cells #[.int .i64 a0_0, .int .i64 a0_1, .int .i64 a0_2, .int .i64 a0_3, .int .i64 a0_4, .int .i64 a0_5, .int .i64 a0_6, .int .i64 a0_7, .int .i64 a0_8, .bool a0_9, .slice A0_10 l0_10.length c0_10, .slice A0_11 l0_11.length c0_11] 40 (0, 0)) (by (with_reducible repeat (first | refine blk_drewN ?_ _ | refine blk_drew ?_ | refine blk_alloc ?_ _)); exact BK527.out) hg (Kd.R_ne HO_551011.out BK527.out (by decide))); have n2_ := Aside0.mk (blk_grown (g := gb550) (o := .cells #[.int .i64 t533, .int .i64 t534, .int .i64 t535, .int .i64 t536, .int .i64 t537, .int .i64 t538, .int .i64 t539, .int .i64 t540, .int .i64 t541, .bool t542, .slice Ao44 x551010_3.length co44, .slice Ao14 t546.length co14] 40 (0, 0)) (by (with_reducible repeat (first | refine blk_drewN ?_ _ | refine blk_drew ?_ | refine blk_alloc ?_ _)); exact BK550.out) hg (Kd.R_ne HO_551011.out BK550.out (by decide))); have n3_ := Aside0.mk (hb); have n4_ := Aside0.mk (ho); clear HO_551010; clear BK527; clear BK550; clear HB; clear HO_551011; have HO_551010 := n0_; have BK527 := n1_; have BK550 := n2_; have HB := n3_; have HO561 := n4_; clear n0_ n1_ n2_ n3_ n4_; clear ho hb hg hat; obtain ⟨Ao46, co46, eo46⟩ := Kd.R_slice HO561.out; subst eo46; have hcz47_0 : w45.cell? ⟨gb550, 0, none⟩ = some (.int .i64 t533) := (blk_cell BK550.out 0).trans rfl; have hcz47_1 : w45.cell? ⟨gb550, 1, none⟩ = some (.int .i64 t534) := (blk_cell BK550.out 1).trans rfl; have hcz47_2 : w45.cell? ⟨gb550, 2, none⟩ = some (.int .i64 t535) := (blk_cell BK550.out 2).trans rfl; have hcz47_3 : w45.cell? ⟨gb550, 3, none⟩ = some (.int .i64 t536) := (blk_cell BK550.out 3).trans rfl; have hcz47_4 : w45.cell? ⟨gb550, 4, none⟩ = some (.int .i64 t537) := (blk_cell BK550.out 4).trans rfl; have hcz47_5 : w45.cell? ⟨gb550, 5, none⟩ = some (.int .i64 t538) := (blk_cell BK550.out 5).trans rfl; have hcz47_6 : w45.cell? ⟨gb550, 6, none⟩ = some (.int .i64 t539) := (blk_cell BK550.out 6).trans rfl; have hcz47_7 : w45.cell? ⟨gb550, 7, none⟩ = some (.int .i64 t540) := (blk_cell BK550.out 7).trans rfl; have hcz47_8 : w45.cell? ⟨gb550, 8, none⟩ = some (.int .i64 t541) := (blk_cell BK550.out 8).trans rfl; have hcz47_9 : w45.cell? ⟨gb550, 9, none⟩ = some (.bool t542) := (blk_cell BK550.out 9).trans rfl; have hcz47_10 : w45.cell? ⟨gb550, 10, none⟩ = some (.slice Ao44 x551010_3.length co44) := (blk_cell BK550.out 10).trans rfl; have hcz47_11 : w45.cell? ⟨gb550, 11, none⟩ = some (.slice Ao14 t546.length co14) := (blk_cell BK550.out 11).trans rfl; have hfz47_0 := blk_frozen BK550.out 0; have hfz47_1 := blk_frozen BK550.out 1; have hfz47_2 := blk_frozen BK550.out 2; have hfz47_3 := blk_frozen BK550.out 3; have hfz47_4 := blk_frozen BK550.out 4; have hfz47_5 := blk_frozen BK550.out 5; have hfz47_6 := blk_frozen BK550.out 6; have hfz47_7 := blk_frozen BK550.out 7; have hfz47_8 := blk_frozen BK550.out 8; have hfz47_9 := blk_frozen BK550.out 9; have hfz47_10 := blk_frozen BK550.out 10; have hfz47_11 := blk_frozen BK550.out 11))
            go_loopg [9] k3 (fun kq v9 w' => ∃ (x9_4 : Int), v9 = .int .i64 x9_4 ∧ Aside0 (tollgatelaw02_WireOwn.l2 kq x9_4 a0_0 a0_1 a0_2 a0_3 a0_4 a0_5 a0_6 a0_7 a0_8 a0_9 l0_10 l0_11 t533 t534 t535 t536 t537 t538 t539 t540 t541 t542 x551010_3 y559 = some r) ∧ Aside0 (kq ≤ k3) ∧ Aside0 (Kd.S k34 34 w' w.heap.size (fun k_ => some k_ ≠ ((.slice Ao46 y559.length co46) : Value).ownBlock) (.slice Ao44 x551010_3.length co44) x551010_3) ∧ Aside0 (Kd.R (Kd.int .u8) 5 w' w.heap.size (fun _ => True) (.slice Ao46 y559.length co46) y559) ∧ Aside0 (w'.heap[gb527]? = some (.cells #[.int .i64 a0_0, .int .i64 a0_1, .int .i64 a0_2, .int .i64 a0_3, .int .i64 a0_4, .int .i64 a0_5, .int .i64 a0_6, .int .i64 a0_7, .int .i64 a0_8, .bool a0_9, (.slice A0_10 l0_10.length c0_10), (.slice A0_11 l0_11.length c0_11)] 40 (0, 0))) ∧ Aside0 (w'.heap[gb550]? = some (.cells #[.int .i64 t533, .int .i64 t534, .int .i64 t535, .int .i64 t536, .int .i64 t537, .int .i64 t538, .int .i64 t539, .int .i64 t540, .int .i64 t541, .bool t542, (.slice Ao44 x551010_3.length co44), (.slice Ao46 y559.length co46)] 40 (0, 0))) ∧ Aside0 (Below w.heap.size w w'))
            case atStart => exact ⟨(0), (by first | rfl | (simp; done) | (simp [*]; done)), H', ⟨Nat.le_refl _⟩, ⟨by (try simp only [hl3_1]); (with_reducible repeat (first | apply Kd.S_alloc | apply Kd.S_drewN | apply Kd.S_drew)); exact Kd.S_mono (Kd.S_far (p := ⟨gb550, 11, none⟩) (Kd.S_types HO_551010.out BK550.out (by decide)) (fun _ hk => hk.2) (.slice Ao46 y559.length co46)) (fun _ hk => hk.1.2)⟩, ⟨by (try simp only [hl3_1]); (with_reducible repeat (first | apply Kd.R_alloc | apply Kd.R_drewN | apply Kd.R_drew)); exact Kd.R_mono (Kd.R_far (p := ⟨gb550, 11, none⟩) (Kd.R_types HO561.out BK550.out (by decide)) (fun _ hk => hk.2) (.slice Ao46 y559.length co46)) (fun _ hk => trivial)⟩, ⟨by (try simp only [hl3_1]); (with_reducible repeat (first | refine blk_drewN ?_ _ | refine blk_drew ?_ | refine blk_alloc ?_ _)); refine blk_far ?_ NB527_550.out _; (with_reducible repeat (first | refine blk_drewN ?_ _ | refine blk_drew ?_ | refine blk_alloc ?_ _)); exact BK527.out⟩, ⟨by (try simp only [hl3_1]); (with_reducible repeat (first | refine blk_drewN ?_ _ | refine blk_drew ?_ | refine blk_alloc ?_ _)); refine blk_put (cs := #[.int .i64 t533, .int .i64 t534, .int .i64 t535, .int .i64 t536, .int .i64 t537, .int .i64 t538, .int .i64 t539, .int .i64 t540, .int .i64 t541, .bool t542, .slice Ao44 x551010_3.length co44, .slice Ao14 t546.length co14]) ?_ 11 _ rfl; (with_reducible repeat (first | refine blk_drewN ?_ _ | refine blk_drew ?_ | refine blk_alloc ?_ _)); exact BK550.out⟩, ⟨by repeat (first | (with_reducible first | exact HB.out | apply below_alloc | apply pw_below_drewN | apply below_drew1 | refine below_set ?_ GE527.out | refine below_set ?_ GE550.out) | exact HB.out)⟩⟩
            case round =>
             clear H'
             try clear c1
             try clear p1
             try clear q1
             try clear hx1
             try clear hf1
             try clear c2
             try clear p2
             try clear c3
             try clear c3b0
             try clear c3b1
             try clear p3
             try clear q3
             try clear hx3
             try clear hf3
             try clear c4
             try clear c5
             try clear p5
             try clear q5
             try clear hx5
             try clear p6
             try clear c11
             try clear c13
             try clear c15
             try clear c15b0
             try clear c16
             try clear c16b0
             try clear p17
             try clear q17
             try clear hx17
             try clear hf17
             try clear c21
             try clear c21b0
             try clear c21b1
             try clear c22
             try clear c23
             try clear c27
             try clear c28
             try clear c28b0
             try clear c29
             try clear c29b0
             try clear c30
             try clear p31
             try clear q31
             try clear c32
             try clear c36
             try clear c38
             try clear hx38
             try clear hf38
             try clear c41
             try clear c42
             try clear hcz12_0
             try clear hcz12_1
             try clear hcz12_10
             try clear hcz12_11
             try clear hcz12_2
             try clear hcz12_3
             try clear hcz12_4
             try clear hcz12_5
             try clear hcz12_6
             try clear hcz12_7
             try clear hcz12_8
             try clear hcz12_9
             try clear hcz24_0
             try clear hcz24_1
             try clear hcz24_10
             try clear hcz24_11
             try clear hcz24_2
             try clear hcz24_3
             try clear hcz24_4
             try clear hcz24_5
             try clear hcz24_6
             try clear hcz24_7
             try clear hcz24_8
             try clear hcz24_9
             try clear hcz25_0
             try clear hcz25_1
             try clear hcz25_10
             try clear hcz25_11
             try clear hcz25_2
             try clear hcz25_3
             try clear hcz25_4
             try clear hcz25_5
             try clear hcz25_6
             try clear hcz25_7
             try clear hcz25_8
             try clear hcz25_9
             try clear hcz33_0
             try clear hcz33_1
             try clear hcz33_10
             try clear hcz33_11
             try clear hcz33_2
             try clear hcz33_3
             try clear hcz33_4
             try clear hcz33_5
             try clear hcz33_6
             try clear hcz33_7
             try clear hcz33_8
             try clear hcz33_9
             try clear hcz43_0
             try clear hcz43_1
             try clear hcz43_10
             try clear hcz43_11
             try clear hcz43_2
             try clear hcz43_3
             try clear hcz43_4
             try clear hcz43_5
             try clear hcz43_6
             try clear hcz43_7
             try clear hcz43_8
             try clear hcz43_9
             try clear hcz47_0
             try clear hcz47_1
             try clear hcz47_10
             try clear hcz47_11
             try clear hcz47_2
             try clear hcz47_3
             try clear hcz47_4
             try clear hcz47_5
             try clear hcz47_6
             try clear hcz47_7
             try clear hcz47_8
             try clear hcz47_9
             try clear hcz6_0
             try clear hcz6_1
             try clear hcz6_10
             try clear hcz6_11
             try clear hcz6_2
             try clear hcz6_3
             try clear hcz6_4
             try clear hcz6_5
             try clear hcz6_6
             try clear hcz6_7
             try clear hcz6_8
             try clear hcz6_9
             try clear hfz12_0
             try clear hfz12_1
             try clear hfz12_10
             try clear hfz12_11
             try clear hfz12_2
             try clear hfz12_3
             try clear hfz12_4
             try clear hfz12_5
             try clear hfz12_6
             try clear hfz12_7
             try clear hfz12_8
             try clear hfz12_9
             try clear hfz24_0
             try clear hfz24_1
             try clear hfz24_10
             try clear hfz24_11
             try clear hfz24_2
             try clear hfz24_3
             try clear hfz24_4
             try clear hfz24_5
             try clear hfz24_6
             try clear hfz24_7
             try clear hfz24_8
             try clear hfz24_9
             try clear hfz25_0
             try clear hfz25_1
             try clear hfz25_10
             try clear hfz25_11
             try clear hfz25_2
             try clear hfz25_3
             try clear hfz25_4
             try clear hfz25_5
             try clear hfz25_6
             try clear hfz25_7
             try clear hfz25_8
             try clear hfz25_9
             try clear hfz33_0
             try clear hfz33_1
             try clear hfz33_10
             try clear hfz33_11
             try clear hfz33_2
             try clear hfz33_3
             try clear hfz33_4
             try clear hfz33_5
             try clear hfz33_6
             try clear hfz33_7
             try clear hfz33_8
             try clear hfz33_9
             try clear hfz43_0
             try clear hfz43_1
             try clear hfz43_10
             try clear hfz43_11
             try clear hfz43_2
             try clear hfz43_3
             try clear hfz43_4
             try clear hfz43_5
             try clear hfz43_6
             try clear hfz43_7
             try clear hfz43_8
             try clear hfz43_9
             try clear hfz47_0
             try clear hfz47_1
             try clear hfz47_10
             try clear hfz47_11
             try clear hfz47_2
             try clear hfz47_3
             try clear hfz47_4
             try clear hfz47_5
             try clear hfz47_6
             try clear hfz47_7
             try clear hfz47_8
             try clear hfz47_9
             try clear hfz6_0
             try clear hfz6_1
             try clear hfz6_10
             try clear hfz6_11
             try clear hfz6_2
             try clear hfz6_3
             try clear hfz6_4
             try clear hfz6_5
             try clear hfz6_6
             try clear hfz6_7
             try clear hfz6_8
             try clear hfz6_9
             try clear hx17_0
             try clear hx38_0
             try clear hx551_0
             try clear hx554_0
             try clear hx554_1
             try clear hx554_2
             try clear hx554_3
             try clear p1
             try clear p17
             try clear p2
             try clear p31
             try clear p5
             try clear p551
             try clear p554
             try clear p6
             try clear q1
             try clear q17
             try clear q31
             try clear q5
             try clear q551
             try clear q554
             obtain ⟨x9_4, rfl, HA, HK4, HO_551010, HO_551011, BK527, BK550, HB⟩ := hrel
             cases gk with
             | zero => exact absurd HA.out (by simp [tollgatelaw02_WireOwn.l2])
             | succ k4 =>
              have H := HA.out
              clear HA
              simp only [tollgatelaw02_WireOwn.l2] at H
              have HC48 := Aside0.mk H
              clear H
              go_upto_region 17 with (fail)
              go_cut [80] (fun v80 wc => ∃ (kq : Nat) (x80_47 : Bool), v80 = .bool x80_47 ∧ Aside0 (tollgatelaw02_WireOwn.j4 kq x9_4 x80_47 a0_0 a0_1 a0_2 a0_3 a0_4 a0_5 a0_6 a0_7 a0_8 a0_9 l0_10 l0_11 t533 t534 t535 t536 t537 t538 t539 t540 t541 t542 x551010_3 y559 = some r) ∧ Aside0 (kq ≤ k4) ∧ Aside0 (Kd.S k34 34 wc w.heap.size (fun k_ => some k_ ≠ ((.slice Ao46 y559.length co46) : Value).ownBlock) (.slice Ao44 x551010_3.length co44) x551010_3) ∧ Aside0 (Kd.R (Kd.int .u8) 5 wc w.heap.size (fun _ => True) (.slice Ao46 y559.length co46) y559) ∧ Aside0 (wc.heap[gb527]? = some (.cells #[.int .i64 a0_0, .int .i64 a0_1, .int .i64 a0_2, .int .i64 a0_3, .int .i64 a0_4, .int .i64 a0_5, .int .i64 a0_6, .int .i64 a0_7, .int .i64 a0_8, .bool a0_9, (.slice A0_10 l0_10.length c0_10), (.slice A0_11 l0_11.length c0_11)] 40 (0, 0))) ∧ Aside0 (wc.heap[gb550]? = some (.cells #[.int .i64 t533, .int .i64 t534, .int .i64 t535, .int .i64 t536, .int .i64 t537, .int .i64 t538, .int .i64 t539, .int .i64 t540, .int .i64 t541, .bool t542, (.slice Ao44 x551010_3.length co44), (.slice Ao46 y559.length co46)] 40 (0, 0))) ∧ Aside0 (Below w.heap.size w wc))
              case first =>
               have H := HC48.out
               clear HC48
               by_cases c49 : x9_4 < (x551010_3.length : Int)
               ·rw [if_pos c49] at H
                have c49b0 : decide (x9_4 < (x551010_3.length : Int)) = true := decide_eq_true c49
                clear c49
                (first | rw [c49b0] | (simp only [i64_w, i32_w]; rw [c49b0]) | skip)
                have H' := Aside0.mk H
                clear H
                have hnb50 := NB550_527.out
                have hnc50 := NB527_550.out
                have hcz51_0 : wr.cell? ⟨gb550, 0, none⟩ = some (.int .i64 t533) := (blk_cell BK550.out 0).trans rfl
                have hcz51_1 : wr.cell? ⟨gb550, 1, none⟩ = some (.int .i64 t534) := (blk_cell BK550.out 1).trans rfl
                have hcz51_2 : wr.cell? ⟨gb550, 2, none⟩ = some (.int .i64 t535) := (blk_cell BK550.out 2).trans rfl
                have hcz51_3 : wr.cell? ⟨gb550, 3, none⟩ = some (.int .i64 t536) := (blk_cell BK550.out 3).trans rfl
                have hcz51_4 : wr.cell? ⟨gb550, 4, none⟩ = some (.int .i64 t537) := (blk_cell BK550.out 4).trans rfl
                have hcz51_5 : wr.cell? ⟨gb550, 5, none⟩ = some (.int .i64 t538) := (blk_cell BK550.out 5).trans rfl
                have hcz51_6 : wr.cell? ⟨gb550, 6, none⟩ = some (.int .i64 t539) := (blk_cell BK550.out 6).trans rfl
                have hcz51_7 : wr.cell? ⟨gb550, 7, none⟩ = some (.int .i64 t540) := (blk_cell BK550.out 7).trans rfl
                have hcz51_8 : wr.cell? ⟨gb550, 8, none⟩ = some (.int .i64 t541) := (blk_cell BK550.out 8).trans rfl
                have hcz51_9 : wr.cell? ⟨gb550, 9, none⟩ = some (.bool t542) := (blk_cell BK550.out 9).trans rfl
                have hcz51_10 : wr.cell? ⟨gb550, 10, none⟩ = some (.slice Ao44 x551010_3.length co44) := (blk_cell BK550.out 10).trans rfl
                have hcz51_11 : wr.cell? ⟨gb550, 11, none⟩ = some (.slice Ao46 y559.length co46) := (blk_cell BK550.out 11).trans rfl
                have hfz51_0 := blk_frozen BK550.out 0
                have hfz51_1 := blk_frozen BK550.out 1
                have hfz51_2 := blk_frozen BK550.out 2
                have hfz51_3 := blk_frozen BK550.out 3
                have hfz51_4 := blk_frozen BK550.out 4
                have hfz51_5 := blk_frozen BK550.out 5
                have hfz51_6 := blk_frozen BK550.out 6
                have hfz51_7 := blk_frozen BK550.out 7
                have hfz51_8 := blk_frozen BK550.out 8
                have hfz51_9 := blk_frozen BK550.out 9
                have hfz51_10 := blk_frozen BK550.out 10
                have hfz51_11 := blk_frozen BK550.out 11
                have hcz52_0 : wr.cell? ⟨gb527, 0, none⟩ = some (.int .i64 a0_0) := (blk_cell BK527.out 0).trans rfl
                have hcz52_1 : wr.cell? ⟨gb527, 1, none⟩ = some (.int .i64 a0_1) := (blk_cell BK527.out 1).trans rfl
                have hcz52_2 : wr.cell? ⟨gb527, 2, none⟩ = some (.int .i64 a0_2) := (blk_cell BK527.out 2).trans rfl
                have hcz52_3 : wr.cell? ⟨gb527, 3, none⟩ = some (.int .i64 a0_3) := (blk_cell BK527.out 3).trans rfl
                have hcz52_4 : wr.cell? ⟨gb527, 4, none⟩ = some (.int .i64 a0_4) := (blk_cell BK527.out 4).trans rfl
                have hcz52_5 : wr.cell? ⟨gb527, 5, none⟩ = some (.int .i64 a0_5) := (blk_cell BK527.out 5).trans rfl
                have hcz52_6 : wr.cell? ⟨gb527, 6, none⟩ = some (.int .i64 a0_6) := (blk_cell BK527.out 6).trans rfl
                have hcz52_7 : wr.cell? ⟨gb527, 7, none⟩ = some (.int .i64 a0_7) := (blk_cell BK527.out 7).trans rfl
                have hcz52_8 : wr.cell? ⟨gb527, 8, none⟩ = some (.int .i64 a0_8) := (blk_cell BK527.out 8).trans rfl
                have hcz52_9 : wr.cell? ⟨gb527, 9, none⟩ = some (.bool a0_9) := (blk_cell BK527.out 9).trans rfl
                have hcz52_10 : wr.cell? ⟨gb527, 10, none⟩ = some (.slice A0_10 l0_10.length c0_10) := (blk_cell BK527.out 10).trans rfl
                have hcz52_11 : wr.cell? ⟨gb527, 11, none⟩ = some (.slice A0_11 l0_11.length c0_11) := (blk_cell BK527.out 11).trans rfl
                have hfz52_0 := blk_frozen BK527.out 0
                have hfz52_1 := blk_frozen BK527.out 1
                have hfz52_2 := blk_frozen BK527.out 2
                have hfz52_3 := blk_frozen BK527.out 3
                have hfz52_4 := blk_frozen BK527.out 4
                have hfz52_5 := blk_frozen BK527.out 5
                have hfz52_6 := blk_frozen BK527.out 6
                have hfz52_7 := blk_frozen BK527.out 7
                have hfz52_8 := blk_frozen BK527.out 8
                have hfz52_9 := blk_frozen BK527.out 9
                have hfz52_10 := blk_frozen BK527.out 10
                have hfz52_11 := blk_frozen BK527.out 11
                go_wp2
                go_meet
                case rel => exact ⟨_, (decide (x9_4 < (l0_10.length : Int))), (by first | rfl | (simp; done) | (simp [*]; done)), H', ⟨by have := HK1.out; have := HJ19.out; have := HK3.out; have := HK4.out; first | omega | exact Nat.le_refl _⟩, ⟨by (try simp only [hl3_1]); (with_reducible repeat (first | apply Kd.S_alloc | apply Kd.S_drewN | apply Kd.S_drew)); exact HO_551010.out⟩, ⟨by (try simp only [hl3_1]); (with_reducible repeat (first | apply Kd.R_alloc | apply Kd.R_drewN | apply Kd.R_drew)); exact HO_551011.out⟩, ⟨by (try simp only [hl3_1]); (with_reducible repeat (first | refine blk_drewN ?_ _ | refine blk_drew ?_ | refine blk_alloc ?_ _)); exact BK527.out⟩, ⟨by (try simp only [hl3_1]); (with_reducible repeat (first | refine blk_drewN ?_ _ | refine blk_drew ?_ | refine blk_alloc ?_ _)); exact BK550.out⟩, ⟨by repeat (first | (with_reducible first | exact HB.out | apply below_alloc | apply pw_below_drewN | apply below_drew1 | refine below_set ?_ GE527.out | refine below_set ?_ GE550.out) | exact HB.out)⟩⟩
               ·rw [if_neg c49] at H
                have c49b0 : decide (x9_4 < (x551010_3.length : Int)) = false := decide_eq_false c49
                clear c49
                (first | rw [c49b0] | (simp only [i64_w, i32_w]; rw [c49b0]) | skip)
                have H' := Aside0.mk H
                clear H
                have hnb53 := NB550_527.out
                have hnc53 := NB527_550.out
                have hcz54_0 : wr.cell? ⟨gb550, 0, none⟩ = some (.int .i64 t533) := (blk_cell BK550.out 0).trans rfl
                have hcz54_1 : wr.cell? ⟨gb550, 1, none⟩ = some (.int .i64 t534) := (blk_cell BK550.out 1).trans rfl
                have hcz54_2 : wr.cell? ⟨gb550, 2, none⟩ = some (.int .i64 t535) := (blk_cell BK550.out 2).trans rfl
                have hcz54_3 : wr.cell? ⟨gb550, 3, none⟩ = some (.int .i64 t536) := (blk_cell BK550.out 3).trans rfl
                have hcz54_4 : wr.cell? ⟨gb550, 4, none⟩ = some (.int .i64 t537) := (blk_cell BK550.out 4).trans rfl
                have hcz54_5 : wr.cell? ⟨gb550, 5, none⟩ = some (.int .i64 t538) := (blk_cell BK550.out 5).trans rfl
                have hcz54_6 : wr.cell? ⟨gb550, 6, none⟩ = some (.int .i64 t539) := (blk_cell BK550.out 6).trans rfl
                have hcz54_7 : wr.cell? ⟨gb550, 7, none⟩ = some (.int .i64 t540) := (blk_cell BK550.out 7).trans rfl
                have hcz54_8 : wr.cell? ⟨gb550, 8, none⟩ = some (.int .i64 t541) := (blk_cell BK550.out 8).trans rfl
                have hcz54_9 : wr.cell? ⟨gb550, 9, none⟩ = some (.bool t542) := (blk_cell BK550.out 9).trans rfl
                have hcz54_10 : wr.cell? ⟨gb550, 10, none⟩ = some (.slice Ao44 x551010_3.length co44) := (blk_cell BK550.out 10).trans rfl
                have hcz54_11 : wr.cell? ⟨gb550, 11, none⟩ = some (.slice Ao46 y559.length co46) := (blk_cell BK550.out 11).trans rfl
                have hfz54_0 := blk_frozen BK550.out 0
                have hfz54_1 := blk_frozen BK550.out 1
                have hfz54_2 := blk_frozen BK550.out 2
                have hfz54_3 := blk_frozen BK550.out 3
                have hfz54_4 := blk_frozen BK550.out 4
                have hfz54_5 := blk_frozen BK550.out 5
                have hfz54_6 := blk_frozen BK550.out 6
                have hfz54_7 := blk_frozen BK550.out 7
                have hfz54_8 := blk_frozen BK550.out 8
                have hfz54_9 := blk_frozen BK550.out 9
                have hfz54_10 := blk_frozen BK550.out 10
                have hfz54_11 := blk_frozen BK550.out 11
                go_wp2
                go_meet
                case rel => exact ⟨_, (false), (by first | rfl | (simp; done) | (simp [*]; done)), H', ⟨by have := HK1.out; have := HJ19.out; have := HK3.out; have := HK4.out; first | omega | exact Nat.le_refl _⟩, ⟨by (try simp only [hl3_1]); (with_reducible repeat (first | apply Kd.S_alloc | apply Kd.S_drewN | apply Kd.S_drew)); exact HO_551010.out⟩, ⟨by (try simp only [hl3_1]); (with_reducible repeat (first | apply Kd.R_alloc | apply Kd.R_drewN | apply Kd.R_drew)); exact HO_551011.out⟩, ⟨by (try simp only [hl3_1]); (with_reducible repeat (first | refine blk_drewN ?_ _ | refine blk_drew ?_ | refine blk_alloc ?_ _)); exact BK527.out⟩, ⟨by (try simp only [hl3_1]); (with_reducible repeat (first | refine blk_drewN ?_ _ | refine blk_drew ?_ | refine blk_alloc ?_ _)); exact BK550.out⟩, ⟨by repeat (first | (with_reducible first | exact HB.out | apply below_alloc | apply pw_below_drewN | apply below_drew1 | refine below_set ?_ GE527.out | refine below_set ?_ GE550.out) | exact HB.out)⟩⟩
              case rest =>
               clear HC48
               try clear c1
               try clear p1
               try clear q1
               try clear hx1
               try clear hf1
               try clear c2
               try clear p2
               try clear c3
               try clear c3b0
               try clear c3b1
               try clear p3
               try clear q3
               try clear hx3
               try clear hf3
               try clear c4
               try clear c5
               try clear p5
               try clear q5
               try clear hx5
               try clear p6
               try clear c11
               try clear c13
               try clear c15
               try clear c15b0
               try clear c16
               try clear c16b0
               try clear p17
               try clear q17
               try clear hx17
               try clear hf17
               try clear c21
               try clear c21b0
               try clear c21b1
               try clear c22
               try clear c23
               try clear c27
               try clear c28
               try clear c28b0
               try clear c29
               try clear c29b0
               try clear c30
               try clear p31
               try clear q31
               try clear c32
               try clear c36
               try clear c38
               try clear hx38
               try clear hf38
               try clear c41
               try clear c42
               try clear c49
               try clear c49b0
               try clear c50
               try clear c53
               try clear hcz12_0
               try clear hcz12_1
               try clear hcz12_10
               try clear hcz12_11
               try clear hcz12_2
               try clear hcz12_3
               try clear hcz12_4
               try clear hcz12_5
               try clear hcz12_6
               try clear hcz12_7
               try clear hcz12_8
               try clear hcz12_9
               try clear hcz24_0
               try clear hcz24_1
               try clear hcz24_10
               try clear hcz24_11
               try clear hcz24_2
               try clear hcz24_3
               try clear hcz24_4
               try clear hcz24_5
               try clear hcz24_6
               try clear hcz24_7
               try clear hcz24_8
               try clear hcz24_9
               try clear hcz25_0
               try clear hcz25_1
               try clear hcz25_10
               try clear hcz25_11
               try clear hcz25_2
               try clear hcz25_3
               try clear hcz25_4
               try clear hcz25_5
               try clear hcz25_6
               try clear hcz25_7
               try clear hcz25_8
               try clear hcz25_9
               try clear hcz33_0
               try clear hcz33_1
               try clear hcz33_10
               try clear hcz33_11
               try clear hcz33_2
               try clear hcz33_3
               try clear hcz33_4
               try clear hcz33_5
               try clear hcz33_6
               try clear hcz33_7
               try clear hcz33_8
               try clear hcz33_9
               try clear hcz43_0
               try clear hcz43_1
               try clear hcz43_10
               try clear hcz43_11
               try clear hcz43_2
               try clear hcz43_3
               try clear hcz43_4
               try clear hcz43_5
               try clear hcz43_6
               try clear hcz43_7
               try clear hcz43_8
               try clear hcz43_9
               try clear hcz47_0
               try clear hcz47_1
               try clear hcz47_10
               try clear hcz47_11
               try clear hcz47_2
               try clear hcz47_3
               try clear hcz47_4
               try clear hcz47_5
               try clear hcz47_6
               try clear hcz47_7
               try clear hcz47_8
               try clear hcz47_9
               try clear hcz51_0
               try clear hcz51_1
               try clear hcz51_10
               try clear hcz51_11
               try clear hcz51_2
               try clear hcz51_3
               try clear hcz51_4
               try clear hcz51_5
               try clear hcz51_6
               try clear hcz51_7
               try clear hcz51_8
               try clear hcz51_9
               try clear hcz52_0
               try clear hcz52_1
               try clear hcz52_10
               try clear hcz52_11
               try clear hcz52_2
               try clear hcz52_3
               try clear hcz52_4
               try clear hcz52_5
               try clear hcz52_6
               try clear hcz52_7
               try clear hcz52_8
               try clear hcz52_9
               try clear hcz54_0
               try clear hcz54_1
               try clear hcz54_10
               try clear hcz54_11
               try clear hcz54_2
               try clear hcz54_3
               try clear hcz54_4
               try clear hcz54_5
               try clear hcz54_6
               try clear hcz54_7
               try clear hcz54_8
               try clear hcz54_9
               try clear hcz6_0
               try clear hcz6_1
               try clear hcz6_10
               try clear hcz6_11
               try clear hcz6_2
               try clear hcz6_3
               try clear hcz6_4
               try clear hcz6_5
               try clear hcz6_6
               try clear hcz6_7
               try clear hcz6_8
               try clear hcz6_9
               try clear hfz12_0
               try clear hfz12_1
               try clear hfz12_10
               try clear hfz12_11
               try clear hfz12_2
               try clear hfz12_3
               try clear hfz12_4
               try clear hfz12_5
               try clear hfz12_6
               try clear hfz12_7
               try clear hfz12_8
               try clear hfz12_9
               try clear hfz24_0
               try clear hfz24_1
               try clear hfz24_10
               try clear hfz24_11
               try clear hfz24_2
               try clear hfz24_3
               try clear hfz24_4
               try clear hfz24_5
               try clear hfz24_6
               try clear hfz24_7
               try clear hfz24_8
               try clear hfz24_9
               try clear hfz25_0
               try clear hfz25_1
               try clear hfz25_10
               try clear hfz25_11
               try clear hfz25_2
               try clear hfz25_3
               try clear hfz25_4
               try clear hfz25_5
               try clear hfz25_6
               try clear hfz25_7
               try clear hfz25_8
               try clear hfz25_9
               try clear hfz33_0
               try clear hfz33_1
               try clear hfz33_10
               try clear hfz33_11
               try clear hfz33_2
               try clear hfz33_3
               try clear hfz33_4
               try clear hfz33_5
               try clear hfz33_6
               try clear hfz33_7
               try clear hfz33_8
               try clear hfz33_9
               try clear hfz43_0
               try clear hfz43_1
               try clear hfz43_10
               try clear hfz43_11
               try clear hfz43_2
               try clear hfz43_3
               try clear hfz43_4
               try clear hfz43_5
               try clear hfz43_6
               try clear hfz43_7
               try clear hfz43_8
               try clear hfz43_9
               try clear hfz47_0
               try clear hfz47_1
               try clear hfz47_10
               try clear hfz47_11
               try clear hfz47_2
               try clear hfz47_3
               try clear hfz47_4
               try clear hfz47_5
               try clear hfz47_6
               try clear hfz47_7
               try clear hfz47_8
               try clear hfz47_9
               try clear hfz51_0
               try clear hfz51_1
               try clear hfz51_10
               try clear hfz51_11
               try clear hfz51_2
               try clear hfz51_3
               try clear hfz51_4
               try clear hfz51_5
               try clear hfz51_6
               try clear hfz51_7
               try clear hfz51_8
               try clear hfz51_9
               try clear hfz52_0
               try clear hfz52_1
               try clear hfz52_10
               try clear hfz52_11
               try clear hfz52_2
               try clear hfz52_3
               try clear hfz52_4
               try clear hfz52_5
               try clear hfz52_6
               try clear hfz52_7
               try clear hfz52_8
               try clear hfz52_9
               try clear hfz54_0
               try clear hfz54_1
               try clear hfz54_10
               try clear hfz54_11
               try clear hfz54_2
               try clear hfz54_3
               try clear hfz54_4
               try clear hfz54_5
               try clear hfz54_6
               try clear hfz54_7
               try clear hfz54_8
               try clear hfz54_9
               try clear hfz6_0
               try clear hfz6_1
               try clear hfz6_10
               try clear hfz6_11
               try clear hfz6_2
               try clear hfz6_3
               try clear hfz6_4
               try clear hfz6_5
               try clear hfz6_6
               try clear hfz6_7
               try clear hfz6_8
               try clear hfz6_9
               try clear hx17_0
               try clear hx38_0
               try clear hx551_0
               try clear hx554_0
               try clear hx554_1
               try clear hx554_2
               try clear hx554_3
               try clear p1
               try clear p17
               try clear p2
               try clear p3
               try clear p31
               try clear p5
               try clear p551
               try clear p554
               try clear p6
               try clear q1
               try clear q17
               try clear q3
               try clear q31
               try clear q5
               try clear q551
               try clear q554
               obtain ⟨kq, x80_47, rfl, HA, HJ47, HO_551010, HO_551011, BK527, BK550, HB⟩ := hcut
               cases kq with
               | zero => exact absurd HA.out (by simp [tollgatelaw02_WireOwn.j4])
               | succ kj47 =>
                have H := HA.out
                clear HA
                simp only [tollgatelaw02_WireOwn.j4] at H
                by_cases c55 : x80_47 = true
                ·subst c55
                 have H1 : (if 0 ≤ x9_4 then (if x9_4 < (x551010_3.length : Int) then (if x9_4 < (l0_10.length : Int) then (if (((rd_T34 x551010_3 x9_4).f3).length : Int) = (wrap64 ((((rd_T34 l0_10 x9_4).f3).length : Int) + 1)) then (if 0 ≤ (wrap64 ((((rd_T34 x551010_3 x9_4).f3).length : Int) - 1)) then (if (wrap64 ((((rd_T34 x551010_3 x9_4).f3).length : Int) - 1)) ≤ (((rd_T34 x551010_3 x9_4).f3).length : Int) then (if (strOfNums (((rd_T34 x551010_3 x9_4).f3).take ((wrap64 ((((rd_T34 x551010_3 x9_4).f3).length : Int) - 1)) : Int).toNat)).toList = (strOfNums ((rd_T34 l0_10 x9_4).f3)).toList then (tollgatelaw02_WireOwn.l2 kj47 (wrap64 (x9_4 + 1)) a0_0 a0_1 a0_2 a0_3 a0_4 a0_5 a0_6 a0_7 a0_8 a0_9 l0_10 l0_11 t533 t534 t535 t536 t537 t538 t539 t540 t541 t542 x551010_3 y559) else (some false)) else (none)) else (none)) else (some false)) else (none)) else (none)) else (none)) = some r := by rw [if_pos rfl] at H; exact H
                 clear H
                 have H := H1
                 clear H1
                 by_cases c56 : 0 ≤ x9_4
                 ·rw [if_pos c56] at H
                  have c56b0 : decide (0 ≤ x9_4) = true := decide_eq_true c56
                  clear c56
                  by_cases c57 : x9_4 < (x551010_3.length : Int)
                  ·rw [if_pos c57] at H
                   have c57b0 : decide (x9_4 < (x551010_3.length : Int)) = true := decide_eq_true c57
                   clear c57
                   by_cases c58 : x9_4 < (l0_10.length : Int)
                   ·rw [if_pos c58] at H
                    have c58b0 : decide (x9_4 < (l0_10.length : Int)) = true := decide_eq_true c58
                    clear c58
                    by_cases c59 : (((rd_T34 x551010_3 x9_4).f3).length : Int) = (wrap64 ((((rd_T34 l0_10 x9_4).f3).length : Int) + 1))
                    ·rw [if_pos c59] at H
                     have c59b0 : ((((rd_T34 x551010_3 x9_4).f3).length : Int) == (wrap64 ((((rd_T34 l0_10 x9_4).f3).length : Int) + 1))) = true := beq_iff_eq.mpr c59
                     have c59b1 : ((((rd_T34 x551010_3 x9_4).f3).length : Int) != (wrap64 ((((rd_T34 l0_10 x9_4).f3).length : Int) + 1))) = false := bne_eq_false_iff_eq.mpr c59
                     clear c59
                     obtain ⟨ji60, hji60⟩ : ∃ j_ : Int, (wrap64 ((((rd_T34 x551010_3 x9_4).f3).length : Int) - 1)) = j_ := ⟨_, rfl⟩
                     replace H : (if 0 ≤ (ji60) then (if (ji60) ≤ (((rd_T34 x551010_3 x9_4).f3).length : Int) then (if (strOfNums (((rd_T34 x551010_3 x9_4).f3).take ((ji60) : Int).toNat)).toList = (strOfNums ((rd_T34 l0_10 x9_4).f3)).toList then (tollgatelaw02_WireOwn.l2 kj47 (wrap64 (x9_4 + 1)) a0_0 a0_1 a0_2 a0_3 a0_4 a0_5 a0_6 a0_7 a0_8 a0_9 l0_10 l0_11 t533 t534 t535 t536 t537 t538 t539 t540 t541 t542 x551010_3 y559) else (some false)) else (none)) else (none)) = some r := by first | (rw [hji60] at H; exact H) | (simp only [hji60] at H ⊢; exact H)
                     have hji60w : (IntKind.i64.wrap ((((rd_T34 x551010_3 x9_4).f3).length : Int) - 1)) = ji60 := (i64_w _).trans hji60
                     by_cases c61 : 0 ≤ (ji60)
                     ·rw [if_pos c61] at H
                      have c61b0 := eq_true c61
                      have c61b1 : decide (0 ≤ (ji60)) = true := decide_eq_true c61
                      clear c61
                      by_cases c62 : (ji60) ≤ (((rd_T34 x551010_3 x9_4).f3).length : Int)
                      ·rw [if_pos c62] at H
                       have c62b0 := eq_true c62
                       have c62b1 : decide ((ji60) ≤ (((rd_T34 x551010_3 x9_4).f3).length : Int)) = true := decide_eq_true c62
                       clear c62
                       obtain ⟨y565, hy565⟩ : ∃ y_ : List Int, y_ = (((rd_T34 x551010_3 x9_4).f3).take ((ji60) : Int).toNat) := ⟨_, rfl⟩
                       replace H : (if (strOfNums y565).toList = (strOfNums ((rd_T34 l0_10 x9_4).f3)).toList then (tollgatelaw02_WireOwn.l2 kj47 (wrap64 (x9_4 + 1)) a0_0 a0_1 a0_2 a0_3 a0_4 a0_5 a0_6 a0_7 a0_8 a0_9 l0_10 l0_11 t533 t534 t535 t536 t537 t538 t539 t540 t541 t542 x551010_3 y559) else (some false)) = some r := by first | (rw [hy565]; with_reducible exact H) | (have H2_ := (Option.bind_some _ _).symm.trans H; rw [hy565]; with_reducible exact H2_) | (have H2_ := (Option.bind_some _ _).symm.trans H; with_reducible exact H2_) | with_reducible exact H | (rw [hy565]; exact H) | exact H
                       have Ny565 := Aside0.mk hy565
                       clear hy565
                       by_cases c63 : (strOfNums y565).toList = (strOfNums ((rd_T34 l0_10 x9_4).f3)).toList
                       ·rw [if_pos c63] at H
                        have c63b0 : ((strOfNums y565).toList == (strOfNums ((rd_T34 l0_10 x9_4).f3)).toList) = true := beq_iff_eq.mpr c63
                        have c63b1 : ((strOfNums y565).toList != (strOfNums ((rd_T34 l0_10 x9_4).f3)).toList) = false := bne_eq_false_iff_eq.mpr c63
                        clear c63
                        have H' := Aside0.mk H
                        clear H
                        have hnb64 := NB550_527.out
                        have hnc64 := NB527_550.out
                        have hcz65_0 : wc.cell? ⟨gb550, 0, none⟩ = some (.int .i64 t533) := (blk_cell BK550.out 0).trans rfl
                        have hcz65_1 : wc.cell? ⟨gb550, 1, none⟩ = some (.int .i64 t534) := (blk_cell BK550.out 1).trans rfl
                        have hcz65_2 : wc.cell? ⟨gb550, 2, none⟩ = some (.int .i64 t535) := (blk_cell BK550.out 2).trans rfl
                        have hcz65_3 : wc.cell? ⟨gb550, 3, none⟩ = some (.int .i64 t536) := (blk_cell BK550.out 3).trans rfl
                        have hcz65_4 : wc.cell? ⟨gb550, 4, none⟩ = some (.int .i64 t537) := (blk_cell BK550.out 4).trans rfl
                        have hcz65_5 : wc.cell? ⟨gb550, 5, none⟩ = some (.int .i64 t538) := (blk_cell BK550.out 5).trans rfl
                        have hcz65_6 : wc.cell? ⟨gb550, 6, none⟩ = some (.int .i64 t539) := (blk_cell BK550.out 6).trans rfl
                        have hcz65_7 : wc.cell? ⟨gb550, 7, none⟩ = some (.int .i64 t540) := (blk_cell BK550.out 7).trans rfl
                        have hcz65_8 : wc.cell? ⟨gb550, 8, none⟩ = some (.int .i64 t541) := (blk_cell BK550.out 8).trans rfl
                        have hcz65_9 : wc.cell? ⟨gb550, 9, none⟩ = some (.bool t542) := (blk_cell BK550.out 9).trans rfl
                        have hcz65_10 : wc.cell? ⟨gb550, 10, none⟩ = some (.slice Ao44 x551010_3.length co44) := (blk_cell BK550.out 10).trans rfl
                        have hcz65_11 : wc.cell? ⟨gb550, 11, none⟩ = some (.slice Ao46 y559.length co46) := (blk_cell BK550.out 11).trans rfl
                        have hfz65_0 := blk_frozen BK550.out 0
                        have hfz65_1 := blk_frozen BK550.out 1
                        have hfz65_2 := blk_frozen BK550.out 2
                        have hfz65_3 := blk_frozen BK550.out 3
                        have hfz65_4 := blk_frozen BK550.out 4
                        have hfz65_5 := blk_frozen BK550.out 5
                        have hfz65_6 := blk_frozen BK550.out 6
                        have hfz65_7 := blk_frozen BK550.out 7
                        have hfz65_8 := blk_frozen BK550.out 8
                        have hfz65_9 := blk_frozen BK550.out 9
                        have hfz65_10 := blk_frozen BK550.out 10
                        have hfz65_11 := blk_frozen BK550.out 11
                        have p562 : 0 ≤ (x9_4 : Int) := of_decide_eq_true (by first | (with_reducible assumption) | assumption)
                        have q562 : x9_4 < (x551010_3.length : Int) := of_decide_eq_true (by first | (with_reducible assumption) | assumption)
                        obtain ⟨ad562, A562_3, c562_3, e562, hx562_0, hx562_1, hx562_2, hx562_3, hl562_3, hi562_3⟩ := at_T34 (Kd.S_reads' HO_551010.out).2.2 x9_4 p562 q562
                        cases e562
                        obtain ⟨ce562, hce562, hMe562, hcc562⟩ := Kd.S_get HO_551010.out z34 x9_4 p562 (by first | exact q562 | exact of_decide_eq_true (by first | (with_reducible assumption) | assumption) | (have e_ := (Kd.S_reads' HO_551010.out).1; omega))
                        obtain ⟨ve562_3, rfl, ge562_3⟩ := k34_openM hMe562
                        have hv562_3 := hcc562 3 _ rfl
                        rw [add_field _ _ 3 (by omega)] at hv562_3
                        replace hv562_3 := Option.some.inj (hv562_3.symm.trans hx562_3)
                        rw [hv562_3] at ge562_3
                        have HL562_3 := Aside0.mk (show Kd.R (Kd.int .u8) 5 _ _ _ _ ((rd_T34 x551010_3 x9_4).f3) from ge562_3)
                        clear hv562_3 ge562_3
                        have HX562_3 := Aside0.mk hx562_3
                        clear hcc562 hce562
                        have HR562_3 := Aside0.mk hi562_3
                        have HC562_3 := Aside0.mk hl562_3
                        clear hi562_3 hl562_3
                        replace p562 := eq_true p562
                        replace q562 := eq_true q562
                        try go_wp2
                        have p563 : 0 ≤ (x9_4 : Int) := of_decide_eq_true (by first | (with_reducible assumption) | assumption)
                        have q563 : x9_4 < (l0_10.length : Int) := of_decide_eq_true (by first | (with_reducible assumption) | assumption)
                        obtain ⟨ad563, A563_3, c563_3, e563, hx563_0, hx563_1, hx563_2, hx563_3, hl563_3, hi563_3⟩ := at_T34 HR0_10.out x9_4 p563 q563
                        cases e563
                        replace hx563_3 := (HB.out.cell (World.block_lt_of_cell? w _ hx563_3)).trans hx563_3
                        have hm10 : wc.cell? ⟨gb527, 10, none⟩ = some (.slice (some ad563) l0_10.length c0_10) := (blk_cell BK527.out 10).trans rfl
                        have c59w1 : ((((rd_T34 x551010_3 x9_4).f3).length : Int) != IntKind.i64.wrap ((((rd_T34 l0_10 x9_4).f3).length : Int) + 1)) = false := by first | exact c59b1 | (rw [i64_w]; exact c59b1) | (rw [← i64_w] at c59b1; exact c59b1)
                        clear hx563_0 hx563_1 hx563_2 hx562_0 hx562_1 hx562_2
                        have HR563_3 := Aside0.mk hi563_3
                        have HC563_3 := Aside0.mk hl563_3
                        clear hi563_3 hl563_3
                        replace p563 := eq_true p563
                        replace q563 := eq_true q563
                        have q67 : ((ji60) : Int) ≤ ((((rd_T34 x551010_3 x9_4).f3).length : Int) : Int) := of_decide_eq_true (by first | (with_reducible assumption) | assumption)
                        obtain ⟨i067, hi067, _, hsz67, _⟩ := info_parts info5
                        have hroom67 : ((rd_T34 x551010_3 x9_4).f3).length ≤ c562_3 := HC562_3.out
                        have hC67 : Kd.C (Kd.int .u8) wc A562_3 ((rd_T34 x551010_3 x9_4).f3).length ((rd_T34 x551010_3 x9_4).f3) := HR562_3.out
                        have hcut67 := cut_to (P := Try.prog) 22 5 .i64 Try.underlying22 hi067 A562_3 ((rd_T34 x551010_3 x9_4).f3).length c562_3 (ji60) (of_decide_eq_true (by first | (with_reducible assumption) | assumption)) q67 hroom67
                        have hr67 := Kd.C_take (m := ((ji60) : Int).toNat) hC67 (by omega)
                        have hy67 : y565.length = ((ji60) : Int).toNat := (by rw [Ny565.out, List.length_take]; omega)
                        rw [← Ny565.out] at hr67
                        rw [← hy67] at hcut67
                        have HR568 := Aside0.mk hr67
                        clear hr67 hC67 hroom67 hi067 hsz67 hy67
                        have hcv68 := fun (n : Nat) => Kd.C_string (P := Try.prog) (A := A562_3) (c := c562_3) Try.underlying22 Try.underlying5 Try.underlying9 (Kd.C_drewN HR568.out n)
                        have hcv69 := fun (n : Nat) => Kd.C_string (P := Try.prog) (A := A563_3) (c := c563_3) Try.underlying22 Try.underlying5 Try.underlying9 (Kd.C_drewN (Kd.C_below HR563_3.out HB.out) n)
                        go_quiet (fail)
                        try go_wp2
                        go_roundg kj47
                        case measure => have := HK1.out; have := HJ19.out; have := HK3.out; have := HK4.out; have := HJ47.out; omega
                        case rel => exact ⟨(wrap64 (x9_4 + 1)), (by first | rfl | (simp; done) | (simp [*]; done)), H', ⟨by have := HK1.out; have := HJ19.out; have := HK3.out; have := HK4.out; have := HJ47.out; omega⟩, ⟨by (try simp only [hl3_1]); (with_reducible repeat (first | apply Kd.S_alloc | apply Kd.S_drewN | apply Kd.S_drew)); exact HO_551010.out⟩, ⟨by (try simp only [hl3_1]); (with_reducible repeat (first | apply Kd.R_alloc | apply Kd.R_drewN | apply Kd.R_drew)); exact HO_551011.out⟩, ⟨by (try simp only [hl3_1]); (with_reducible repeat (first | refine blk_drewN ?_ _ | refine blk_drew ?_ | refine blk_alloc ?_ _)); exact BK527.out⟩, ⟨by (try simp only [hl3_1]); (with_reducible repeat (first | refine blk_drewN ?_ _ | refine blk_drew ?_ | refine blk_alloc ?_ _)); exact BK550.out⟩, ⟨by repeat (first | (with_reducible first | exact HB.out | apply below_alloc | apply pw_below_drewN | apply below_drew1 | refine below_set ?_ GE527.out | refine below_set ?_ GE550.out) | exact HB.out)⟩⟩
                       ·rw [if_neg c63] at H
                        have c63b0 : ((strOfNums y565).toList == (strOfNums ((rd_T34 l0_10 x9_4).f3)).toList) = false := beq_eq_false_iff_ne.mpr c63
                        have c63b1 : ((strOfNums y565).toList != (strOfNums ((rd_T34 l0_10 x9_4).f3)).toList) = true := bne_iff_ne.mpr c63
                        obtain rfl := Option.some.inj H
                        have hnb71 := NB550_527.out
                        have hnc71 := NB527_550.out
                        have hcz72_0 : wc.cell? ⟨gb550, 0, none⟩ = some (.int .i64 t533) := (blk_cell BK550.out 0).trans rfl
                        have hcz72_1 : wc.cell? ⟨gb550, 1, none⟩ = some (.int .i64 t534) := (blk_cell BK550.out 1).trans rfl
                        have hcz72_2 : wc.cell? ⟨gb550, 2, none⟩ = some (.int .i64 t535) := (blk_cell BK550.out 2).trans rfl
                        have hcz72_3 : wc.cell? ⟨gb550, 3, none⟩ = some (.int .i64 t536) := (blk_cell BK550.out 3).trans rfl
                        have hcz72_4 : wc.cell? ⟨gb550, 4, none⟩ = some (.int .i64 t537) := (blk_cell BK550.out 4).trans rfl
                        have hcz72_5 : wc.cell? ⟨gb550, 5, none⟩ = some (.int .i64 t538) := (blk_cell BK550.out 5).trans rfl
                        have hcz72_6 : wc.cell? ⟨gb550, 6, none⟩ = some (.int .i64 t539) := (blk_cell BK550.out 6).trans rfl
                        have hcz72_7 : wc.cell? ⟨gb550, 7, none⟩ = some (.int .i64 t540) := (blk_cell BK550.out 7).trans rfl
                        have hcz72_8 : wc.cell? ⟨gb550, 8, none⟩ = some (.int .i64 t541) := (blk_cell BK550.out 8).trans rfl
                        have hcz72_9 : wc.cell? ⟨gb550, 9, none⟩ = some (.bool t542) := (blk_cell BK550.out 9).trans rfl
                        have hcz72_10 : wc.cell? ⟨gb550, 10, none⟩ = some (.slice Ao44 x551010_3.length co44) := (blk_cell BK550.out 10).trans rfl
                        have hcz72_11 : wc.cell? ⟨gb550, 11, none⟩ = some (.slice Ao46 y559.length co46) := (blk_cell BK550.out 11).trans rfl
                        have hfz72_0 := blk_frozen BK550.out 0
                        have hfz72_1 := blk_frozen BK550.out 1
                        have hfz72_2 := blk_frozen BK550.out 2
                        have hfz72_3 := blk_frozen BK550.out 3
                        have hfz72_4 := blk_frozen BK550.out 4
                        have hfz72_5 := blk_frozen BK550.out 5
                        have hfz72_6 := blk_frozen BK550.out 6
                        have hfz72_7 := blk_frozen BK550.out 7
                        have hfz72_8 := blk_frozen BK550.out 8
                        have hfz72_9 := blk_frozen BK550.out 9
                        have hfz72_10 := blk_frozen BK550.out 10
                        have hfz72_11 := blk_frozen BK550.out 11
                        have p562 : 0 ≤ (x9_4 : Int) := of_decide_eq_true (by first | (with_reducible assumption) | assumption)
                        have q562 : x9_4 < (x551010_3.length : Int) := of_decide_eq_true (by first | (with_reducible assumption) | assumption)
                        obtain ⟨ad562, A562_3, c562_3, e562, hx562_0, hx562_1, hx562_2, hx562_3, hl562_3, hi562_3⟩ := at_T34 (Kd.S_reads' HO_551010.out).2.2 x9_4 p562 q562
                        cases e562
                        obtain ⟨ce562, hce562, hMe562, hcc562⟩ := Kd.S_get HO_551010.out z34 x9_4 p562 (by first | exact q562 | exact of_decide_eq_true (by first | (with_reducible assumption) | assumption) | (have e_ := (Kd.S_reads' HO_551010.out).1; omega))
                        obtain ⟨ve562_3, rfl, ge562_3⟩ := k34_openM hMe562
                        have hv562_3 := hcc562 3 _ rfl
                        rw [add_field _ _ 3 (by omega)] at hv562_3
                        replace hv562_3 := Option.some.inj (hv562_3.symm.trans hx562_3)
                        rw [hv562_3] at ge562_3
                        have HL562_3 := Aside0.mk (show Kd.R (Kd.int .u8) 5 _ _ _ _ ((rd_T34 x551010_3 x9_4).f3) from ge562_3)
                        clear hv562_3 ge562_3
                        have HX562_3 := Aside0.mk hx562_3
                        clear hcc562 hce562
                        have HR562_3 := Aside0.mk hi562_3
                        have HC562_3 := Aside0.mk hl562_3
                        clear hi562_3 hl562_3
                        replace p562 := eq_true p562
                        replace q562 := eq_true q562
                        try go_wp2
                        have p563 : 0 ≤ (x9_4 : Int) := of_decide_eq_true (by first | (with_reducible assumption) | assumption)
                        have q563 : x9_4 < (l0_10.length : Int) := of_decide_eq_true (by first | (with_reducible assumption) | assumption)
                        obtain ⟨ad563, A563_3, c563_3, e563, hx563_0, hx563_1, hx563_2, hx563_3, hl563_3, hi563_3⟩ := at_T34 HR0_10.out x9_4 p563 q563
                        cases e563
                        replace hx563_3 := (HB.out.cell (World.block_lt_of_cell? w _ hx563_3)).trans hx563_3
                        have hm10 : wc.cell? ⟨gb527, 10, none⟩ = some (.slice (some ad563) l0_10.length c0_10) := (blk_cell BK527.out 10).trans rfl
                        have c59w1 : ((((rd_T34 x551010_3 x9_4).f3).length : Int) != IntKind.i64.wrap ((((rd_T34 l0_10 x9_4).f3).length : Int) + 1)) = false := by first | exact c59b1 | (rw [i64_w]; exact c59b1) | (rw [← i64_w] at c59b1; exact c59b1)
                        clear hx563_0 hx563_1 hx563_2 hx562_0 hx562_1 hx562_2
                        have HR563_3 := Aside0.mk hi563_3
                        have HC563_3 := Aside0.mk hl563_3
                        clear hi563_3 hl563_3
                        replace p563 := eq_true p563
                        replace q563 := eq_true q563
                        have q67 : ((ji60) : Int) ≤ ((((rd_T34 x551010_3 x9_4).f3).length : Int) : Int) := of_decide_eq_true (by first | (with_reducible assumption) | assumption)
                        obtain ⟨i067, hi067, _, hsz67, _⟩ := info_parts info5
                        have hroom67 : ((rd_T34 x551010_3 x9_4).f3).length ≤ c562_3 := HC562_3.out
                        have hC67 : Kd.C (Kd.int .u8) wc A562_3 ((rd_T34 x551010_3 x9_4).f3).length ((rd_T34 x551010_3 x9_4).f3) := HR562_3.out
                        have hcut67 := cut_to (P := Try.prog) 22 5 .i64 Try.underlying22 hi067 A562_3 ((rd_T34 x551010_3 x9_4).f3).length c562_3 (ji60) (of_decide_eq_true (by first | (with_reducible assumption) | assumption)) q67 hroom67
                        have hr67 := Kd.C_take (m := ((ji60) : Int).toNat) hC67 (by omega)
                        have hy67 : y565.length = ((ji60) : Int).toNat := (by rw [Ny565.out, List.length_take]; omega)
                        rw [← Ny565.out] at hr67
                        rw [← hy67] at hcut67
                        have HR568 := Aside0.mk hr67
                        clear hr67 hC67 hroom67 hi067 hsz67 hy67
                        have hcv68 := fun (n : Nat) => Kd.C_string (P := Try.prog) (A := A562_3) (c := c562_3) Try.underlying22 Try.underlying5 Try.underlying9 (Kd.C_drewN HR568.out n)
                        have hcv69 := fun (n : Nat) => Kd.C_string (P := Try.prog) (A := A563_3) (c := c563_3) Try.underlying22 Try.underlying5 Try.underlying9 (Kd.C_drewN (Kd.C_below HR563_3.out HB.out) n)
                        go_quiet (fail)
                        try go_wp2
                        go_ret
                        exact ⟨by first | rfl | (simp [errW_none, errW_some] <;> rfl) | (simp only [← hji60]; first | rfl | (simp [errW_none, errW_some] <;> rfl)) | (simp [*, errW_none, errW_some] <;> rfl), by repeat (first | (with_reducible first | exact HB.out | apply below_alloc | apply pw_below_drewN | apply below_drew1 | refine below_set ?_ GE527.out | refine below_set ?_ GE550.out) | exact HB.out)⟩
                      ·rw [if_neg c62] at H
                       exact absurd H (by simp)
                     ·rw [if_neg c61] at H
                      exact absurd H (by simp)
                    ·rw [if_neg c59] at H
                     have c59b0 : ((((rd_T34 x551010_3 x9_4).f3).length : Int) == (wrap64 ((((rd_T34 l0_10 x9_4).f3).length : Int) + 1))) = false := beq_eq_false_iff_ne.mpr c59
                     have c59b1 : ((((rd_T34 x551010_3 x9_4).f3).length : Int) != (wrap64 ((((rd_T34 l0_10 x9_4).f3).length : Int) + 1))) = true := bne_iff_ne.mpr c59
                     obtain rfl := Option.some.inj H
                     have hnb78 := NB550_527.out
                     have hnc78 := NB527_550.out
                     have hcz79_0 : wc.cell? ⟨gb550, 0, none⟩ = some (.int .i64 t533) := (blk_cell BK550.out 0).trans rfl
                     have hcz79_1 : wc.cell? ⟨gb550, 1, none⟩ = some (.int .i64 t534) := (blk_cell BK550.out 1).trans rfl
                     have hcz79_2 : wc.cell? ⟨gb550, 2, none⟩ = some (.int .i64 t535) := (blk_cell BK550.out 2).trans rfl
                     have hcz79_3 : wc.cell? ⟨gb550, 3, none⟩ = some (.int .i64 t536) := (blk_cell BK550.out 3).trans rfl
                     have hcz79_4 : wc.cell? ⟨gb550, 4, none⟩ = some (.int .i64 t537) := (blk_cell BK550.out 4).trans rfl
                     have hcz79_5 : wc.cell? ⟨gb550, 5, none⟩ = some (.int .i64 t538) := (blk_cell BK550.out 5).trans rfl
                     have hcz79_6 : wc.cell? ⟨gb550, 6, none⟩ = some (.int .i64 t539) := (blk_cell BK550.out 6).trans rfl
                     have hcz79_7 : wc.cell? ⟨gb550, 7, none⟩ = some (.int .i64 t540) := (blk_cell BK550.out 7).trans rfl
                     have hcz79_8 : wc.cell? ⟨gb550, 8, none⟩ = some (.int .i64 t541) := (blk_cell BK550.out 8).trans rfl
                     have hcz79_9 : wc.cell? ⟨gb550, 9, none⟩ = some (.bool t542) := (blk_cell BK550.out 9).trans rfl
                     have hcz79_10 : wc.cell? ⟨gb550, 10, none⟩ = some (.slice Ao44 x551010_3.length co44) := (blk_cell BK550.out 10).trans rfl
                     have hcz79_11 : wc.cell? ⟨gb550, 11, none⟩ = some (.slice Ao46 y559.length co46) := (blk_cell BK550.out 11).trans rfl
                     have hfz79_0 := blk_frozen BK550.out 0
                     have hfz79_1 := blk_frozen BK550.out 1
                     have hfz79_2 := blk_frozen BK550.out 2
                     have hfz79_3 := blk_frozen BK550.out 3
                     have hfz79_4 := blk_frozen BK550.out 4
                     have hfz79_5 := blk_frozen BK550.out 5
                     have hfz79_6 := blk_frozen BK550.out 6
                     have hfz79_7 := blk_frozen BK550.out 7
                     have hfz79_8 := blk_frozen BK550.out 8
                     have hfz79_9 := blk_frozen BK550.out 9
                     have hfz79_10 := blk_frozen BK550.out 10
                     have hfz79_11 := blk_frozen BK550.out 11
                     have p562 : 0 ≤ (x9_4 : Int) := of_decide_eq_true (by first | (with_reducible assumption) | assumption)
                     have q562 : x9_4 < (x551010_3.length : Int) := of_decide_eq_true (by first | (with_reducible assumption) | assumption)
                     obtain ⟨ad562, A562_3, c562_3, e562, hx562_0, hx562_1, hx562_2, hx562_3, hl562_3, hi562_3⟩ := at_T34 (Kd.S_reads' HO_551010.out).2.2 x9_4 p562 q562
                     cases e562
                     obtain ⟨ce562, hce562, hMe562, hcc562⟩ := Kd.S_get HO_551010.out z34 x9_4 p562 (by first | exact q562 | exact of_decide_eq_true (by first | (with_reducible assumption) | assumption) | (have e_ := (Kd.S_reads' HO_551010.out).1; omega))
                     obtain ⟨ve562_3, rfl, ge562_3⟩ := k34_openM hMe562
                     have hv562_3 := hcc562 3 _ rfl
                     rw [add_field _ _ 3 (by omega)] at hv562_3
                     replace hv562_3 := Option.some.inj (hv562_3.symm.trans hx562_3)
                     rw [hv562_3] at ge562_3
                     have HL562_3 := Aside0.mk (show Kd.R (Kd.int .u8) 5 _ _ _ _ ((rd_T34 x551010_3 x9_4).f3) from ge562_3)
                     clear hv562_3 ge562_3
                     have HX562_3 := Aside0.mk hx562_3
                     clear hcc562 hce562
                     have HR562_3 := Aside0.mk hi562_3
                     have HC562_3 := Aside0.mk hl562_3
                     clear hi562_3 hl562_3
                     replace p562 := eq_true p562
                     replace q562 := eq_true q562
                     try go_wp2
                     have n0_ := Aside0.mk (Kd.S_drew HO_551010.out)
                     have n1_ := Aside0.mk (Kd.R_drew HO_551011.out)
                     have n2_ := Aside0.mk (Kd.R_drew HL562_3.out)
                     have n3_ := Aside0.mk (blk_drew BK527.out)
                     have n4_ := Aside0.mk (blk_drew BK550.out)
                     have n5_ := Aside0.mk (Kd.C_drew HR562_3.out)
                     have n6_ := Aside0.mk (below_drew1 HB.out)
                     clear HO_551010
                     clear HO_551011
                     clear HL562_3
                     clear BK527
                     clear BK550
                     clear HR562_3
                     clear HB
                     have HO_551010 := n0_
                     have HO_551011 := n1_
                     have HL562_3 := n2_
                     have BK527 := n3_
                     have BK550 := n4_
                     have HR562_3 := n5_
                     have HB := n6_
                     clear n0_ n1_ n2_ n3_ n4_ n5_ n6_
                     have p563 : 0 ≤ (x9_4 : Int) := of_decide_eq_true (by first | (with_reducible assumption) | assumption)
                     have q563 : x9_4 < (l0_10.length : Int) := of_decide_eq_true (by first | (with_reducible assumption) | assumption)
                     obtain ⟨ad563, A563_3, c563_3, e563, hx563_0, hx563_1, hx563_2, hx563_3, hl563_3, hi563_3⟩ := at_T34 HR0_10.out x9_4 p563 q563
                     have hw563_3 := hx563_3
                     have hw563_2 := hx563_2
                     have hw563_1 := hx563_1
                     have hw563_0 := hx563_0
                     cases e563
                     replace hx563_0 := (HB.out.cell (World.block_lt_of_cell? w _ hx563_0)).trans hx563_0
                     replace hx563_1 := (HB.out.cell (World.block_lt_of_cell? w _ hx563_1)).trans hx563_1
                     replace hx563_2 := (HB.out.cell (World.block_lt_of_cell? w _ hx563_2)).trans hx563_2
                     replace hx563_3 := (HB.out.cell (World.block_lt_of_cell? w _ hx563_3)).trans hx563_3
                     have HR563_3 := Aside0.mk hi563_3
                     have HC563_3 := Aside0.mk hl563_3
                     clear hi563_3 hl563_3
                     replace p563 := eq_true p563
                     replace q563 := eq_true q563
                     refine start_ (n := 30) (S := fun w' => w'.cell? ⟨gb527, 0, none⟩ = some (.int .i64 a0_0) ∧ w'.cell? ⟨gb527, 1, none⟩ = some (.int .i64 a0_1) ∧ w'.cell? ⟨gb527, 2, none⟩ = some (.int .i64 a0_2) ∧ w'.cell? ⟨gb527, 3, none⟩ = some (.int .i64 a0_3) ∧ w'.cell? ⟨gb527, 4, none⟩ = some (.int .i64 a0_4) ∧ w'.cell? ⟨gb527, 5, none⟩ = some (.int .i64 a0_5) ∧ w'.cell? ⟨gb527, 6, none⟩ = some (.int .i64 a0_6) ∧ w'.cell? ⟨gb527, 7, none⟩ = some (.int .i64 a0_7) ∧ w'.cell? ⟨gb527, 8, none⟩ = some (.int .i64 a0_8) ∧ w'.cell? ⟨gb527, 9, none⟩ = some (.bool a0_9) ∧ w'.cell? ⟨gb527, 10, none⟩ = some (.slice (some ad563) l0_10.length c0_10) ∧ w'.cell? ⟨gb527, 11, none⟩ = some (.slice A0_11 l0_11.length c0_11) ∧ w'.cell? (ad563.add ((x9_4).toNat * 4)) = some (.int .i64 ((rd_T34 l0_10 x9_4).f0)) ∧ w'.cell? ⟨(ad563.add ((x9_4).toNat * 4)).block, (ad563.add ((x9_4).toNat * 4)).off + 1, none⟩ = some (.int .i64 ((rd_T34 l0_10 x9_4).f1)) ∧ w'.cell? ⟨(ad563.add ((x9_4).toNat * 4)).block, (ad563.add ((x9_4).toNat * 4)).off + 2, none⟩ = some (.int .i64 ((rd_T34 l0_10 x9_4).f2)) ∧ w'.cell? ⟨(ad563.add ((x9_4).toNat * 4)).block, (ad563.add ((x9_4).toNat * 4)).off + 3, none⟩ = some (.slice A563_3 ((rd_T34 l0_10 x9_4).f3).length c563_3)) (ds := []) #[false, false, false, false, false, false, false, false, false, false, false, false, false, false, false, false, false, false, false, false, false, false, false, false, false, false, false, false, false, false] (by kernel_rfl) rfl rfl ⟨(blk_cell BK527.out 0).trans rfl, (blk_cell BK527.out 1).trans rfl, (blk_cell BK527.out 2).trans rfl, (blk_cell BK527.out 3).trans rfl, (blk_cell BK527.out 4).trans rfl, (blk_cell BK527.out 5).trans rfl, (blk_cell BK527.out 6).trans rfl, (blk_cell BK527.out 7).trans rfl, (blk_cell BK527.out 8).trans rfl, (blk_cell BK527.out 9).trans rfl, (blk_cell BK527.out 10).trans rfl, (blk_cell BK527.out 11).trans rfl, ((HB.out.cell (World.block_lt_of_cell? w _ hw563_0)).trans hw563_0), ((HB.out.cell (World.block_lt_of_cell? w _ hw563_1)).trans hw563_1), ((HB.out.cell (World.block_lt_of_cell? w _ hw563_2)).trans hw563_2), ((HB.out.cell (World.block_lt_of_cell? w _ hw563_3)).trans hw563_3)⟩ (fun hHeld => ?_); refine with_tabW tollgatelaw02_WireOwn.tab20 tollgatelaw02_WireOwn.bits20 (fun HT_ HW_ => ?_)
                     generalize wc.drew = w80 at HO_551010 HO_551011 HL562_3 BK527 BK550 HR562_3 HB HR563_3 hx563_0 hx563_1 hx563_2 hx563_3 hHeld ⊢
                     refine pure_ (i := 0) (N := some 90) (v := ?_) (a' := ?_) #[true, false, false, false, false, false, false, false, false, false, false, false, false, false, false, false, false, false, false, false, false, false, false, false, false, false, false, false, false, false] rfl rfl (any_of HT_.out (by kernel_rfl)) (fun _ _ _ h => h) (Or.inl ⟨by rfl, ?_⟩) ?_ ?_
                     rotate_left
                     ·intro w'
                      go_simp
                      with_reducible rfl
                     rotate_left
                     ·simp only [Act.put, List.setIfInBounds_toArray, List.set_cons_zero, List.set_cons_succ, i64_w, i32_w]
                      rfl
                     refine pure_ (i := 1) (N := some 91) (v := ?_) (a' := ?_) #[true, true, false, false, false, false, false, false, false, false, false, false, false, false, false, false, false, false, false, false, false, false, false, false, false, false, false, false, false, false] rfl rfl (any_of HT_.out (by kernel_rfl)) (fun _ _ _ h => h) (Or.inl ⟨by rfl, ?_⟩) ?_ ?_
                     rotate_left
                     ·intro w'
                      go_simp
                      with_reducible rfl
                     rotate_left
                     ·simp only [Act.put, List.setIfInBounds_toArray, List.set_cons_zero, List.set_cons_succ, i64_w, i32_w]
                      rfl
                     refine pure_ (i := 3) (N := some 93) (v := ?_) (a' := ?_) #[true, true, false, true, false, false, false, false, false, false, false, false, false, false, false, false, false, false, false, false, false, false, false, false, false, false, false, false, false, false] rfl rfl (any_of HT_.out (by kernel_rfl)) (fun _ _ _ h => h) (Or.inl ⟨by rfl, ?_⟩) ?_ ?_
                     rotate_left
                     ·intro w'
                      go_simp
                      with_reducible rfl
                     rotate_left
                     ·simp only [Act.put, List.setIfInBounds_toArray, List.set_cons_zero, List.set_cons_succ, i64_w, i32_w]
                      rfl
                     refine take_ (i := 2) (N := some 92) (v := ?_) (a' := ?_) #[true, true, true, true, false, false, false, false, false, false, false, false, false, false, false, false, false, false, false, false, false, false, false, false, false, false, false, false, false, false] rfl rfl (take_ofW HT_.out HW_.out (by kernel_rfl)) (fun _ _ _ h => h) (Or.inl ⟨by rfl, ?_⟩) hHeld ?_ ?_
                     rotate_left
                     ·rintro w' ⟨s0, s1, s2, s3, s4, s5, s6, s7, s8, s9, s10, s11, s12, s13, s14, s15⟩
                      go_simp
                      with_reducible rfl
                     rotate_left
                     ·simp only [Act.put, List.setIfInBounds_toArray, List.set_cons_zero, List.set_cons_succ, i64_w, i32_w]
                      rfl
                     refine pure_ (i := 4) (N := some 94) (v := ?_) (a' := ?_) #[true, true, true, true, true, false, false, false, false, false, false, false, false, false, false, false, false, false, false, false, false, false, false, false, false, false, false, false, false, false] rfl rfl (any_of HT_.out (by kernel_rfl)) (fun _ _ _ h => h) (Or.inl ⟨by rfl, ?_⟩) ?_ ?_
                     rotate_left
                     ·intro w'
                      go_simp
                      with_reducible rfl
                     rotate_left
                     ·simp only [Act.put, List.setIfInBounds_toArray, List.set_cons_zero, List.set_cons_succ, i64_w, i32_w]
                      rfl
                     refine pure_ (i := 5) (N := some 95) (v := ?_) (a' := ?_) #[true, true, true, true, true, true, false, false, false, false, false, false, false, false, false, false, false, false, false, false, false, false, false, false, false, false, false, false, false, false] rfl rfl (any_of HT_.out (by kernel_rfl)) (fun _ _ _ h => h) (Or.inl ⟨by rfl, ?_⟩) ?_ ?_
                     rotate_left
                     ·intro w'
                      go_simp
                      with_reducible rfl
                     rotate_left
                     ·simp only [Act.put, List.setIfInBounds_toArray, List.set_cons_zero, List.set_cons_succ, i64_w, i32_w]
                      rfl
                     refine take_ (i := 6) (N := some 96) (v := ?_) (a' := ?_) #[true, true, true, true, true, true, true, false, false, false, false, false, false, false, false, false, false, false, false, false, false, false, false, false, false, false, false, false, false, false] rfl rfl (take_ofW HT_.out HW_.out (by kernel_rfl)) (fun _ _ _ h => h) (Or.inl ⟨by rfl, ?_⟩) hHeld ?_ ?_
                     rotate_left
                     ·rintro w' ⟨s0, s1, s2, s3, s4, s5, s6, s7, s8, s9, s10, s11, s12, s13, s14, s15⟩
                      go_simp
                      with_reducible rfl
                     rotate_left
                     ·simp only [Act.put, List.setIfInBounds_toArray, List.set_cons_zero, List.set_cons_succ, i64_w, i32_w]
                      rfl
                     refine pure_ (i := 7) (N := some 97) (v := ?_) (a' := ?_) #[true, true, true, true, true, true, true, true, false, false, false, false, false, false, false, false, false, false, false, false, false, false, false, false, false, false, false, false, false, false] rfl rfl (any_of HT_.out (by kernel_rfl)) (fun _ _ _ h => h) (Or.inl ⟨by rfl, ?_⟩) ?_ ?_
                     rotate_left
                     ·intro w'
                      go_simp
                      with_reducible rfl
                     rotate_left
                     ·simp only [Act.put, List.setIfInBounds_toArray, List.set_cons_zero, List.set_cons_succ, i64_w, i32_w]
                      rfl
                     refine pure_ (i := 8) (N := some 98) (v := ?_) (a' := ?_) #[true, true, true, true, true, true, true, true, true, false, false, false, false, false, false, false, false, false, false, false, false, false, false, false, false, false, false, false, false, false] rfl rfl (any_of HT_.out (by kernel_rfl)) (fun _ _ _ h => h) (Or.inl ⟨by rfl, ?_⟩) ?_ ?_
                     rotate_left
                     ·intro w'
                      go_simp
                      with_reducible rfl
                     rotate_left
                     ·simp only [Act.put, List.setIfInBounds_toArray, List.set_cons_zero, List.set_cons_succ, i64_w, i32_w]
                      rfl
                     refine pure_ (i := 9) (N := some 99) (v := ?_) (a' := ?_) #[true, true, true, true, true, true, true, true, true, true, false, false, false, false, false, false, false, false, false, false, false, false, false, false, false, false, false, false, false, false] rfl rfl (any_of HT_.out (by kernel_rfl)) (fun _ _ _ h => h) (Or.inl ⟨by rfl, ?_⟩) ?_ ?_
                     rotate_left
                     ·intro w'
                      go_simp
                      with_reducible rfl
                     rotate_left
                     ·simp only [Act.put, List.setIfInBounds_toArray, List.set_cons_zero, List.set_cons_succ, i64_w, i32_w]
                      rfl
                     refine pure_ (i := 10) (N := some 100) (v := ?_) (a' := ?_) #[true, true, true, true, true, true, true, true, true, true, true, false, false, false, false, false, false, false, false, false, false, false, false, false, false, false, false, false, false, false] rfl rfl (any_of HT_.out (by kernel_rfl)) (fun _ _ _ h => h) (Or.inl ⟨by rfl, ?_⟩) ?_ ?_
                     rotate_left
                     ·intro w'
                      go_simp
                      with_reducible rfl
                     rotate_left
                     ·simp only [Act.put, List.setIfInBounds_toArray, List.set_cons_zero, List.set_cons_succ, i64_w, i32_w]
                      rfl
                     refine pure_ (i := 11) (N := some 101) (v := undef) (a' := ?_) #[true, true, true, true, true, true, true, true, true, true, true, true, false, false, false, false, false, false, false, false, false, false, false, false, false, false, false, false, false, false] rfl rfl (any_of HT_.out (by kernel_rfl)) (fun _ _ _ h => h) (Or.inr ⟨by rfl, rfl⟩) ?_ ?_
                     rotate_left
                     ·simp only [Act.put, List.setIfInBounds_toArray, List.set_cons_zero, List.set_cons_succ, i64_w, i32_w]
                      rfl
                     refine pure_ (i := 12) (N := some 102) (v := undef) (a' := ?_) #[true, true, true, true, true, true, true, true, true, true, true, true, true, false, false, false, false, false, false, false, false, false, false, false, false, false, false, false, false, false] rfl rfl (any_of HT_.out (by kernel_rfl)) (fun _ _ _ h => h) (Or.inr ⟨by rfl, rfl⟩) ?_ ?_
                     rotate_left
                     ·simp only [Act.put, List.setIfInBounds_toArray, List.set_cons_zero, List.set_cons_succ, i64_w, i32_w]
                      rfl
                     refine pure_ (i := 13) (N := some 103) (v := undef) (a' := ?_) #[true, true, true, true, true, true, true, true, true, true, true, true, true, true, false, false, false, false, false, false, false, false, false, false, false, false, false, false, false, false] rfl rfl (any_of HT_.out (by kernel_rfl)) (fun _ _ _ h => h) (Or.inr ⟨by rfl, rfl⟩) ?_ ?_
                     rotate_left
                     ·simp only [Act.put, List.setIfInBounds_toArray, List.set_cons_zero, List.set_cons_succ, i64_w, i32_w]
                      rfl
                     refine pure_ (i := 14) (N := some 104) (v := undef) (a' := ?_) #[true, true, true, true, true, true, true, true, true, true, true, true, true, true, true, false, false, false, false, false, false, false, false, false, false, false, false, false, false, false] rfl rfl (any_of HT_.out (by kernel_rfl)) (fun _ _ _ h => h) (Or.inr ⟨by rfl, rfl⟩) ?_ ?_
                     rotate_left
                     ·simp only [Act.put, List.setIfInBounds_toArray, List.set_cons_zero, List.set_cons_succ, i64_w, i32_w]
                      rfl
                     refine pure_ (i := 15) (N := some 105) (v := undef) (a' := ?_) #[true, true, true, true, true, true, true, true, true, true, true, true, true, true, true, true, false, false, false, false, false, false, false, false, false, false, false, false, false, false] rfl rfl (any_of HT_.out (by kernel_rfl)) (fun _ _ _ h => h) (Or.inr ⟨by rfl, rfl⟩) ?_ ?_
                     rotate_left
                     ·simp only [Act.put, List.setIfInBounds_toArray, List.set_cons_zero, List.set_cons_succ, i64_w, i32_w]
                      rfl
                     refine pure_ (i := 16) (N := some 106) (v := undef) (a' := ?_) #[true, true, true, true, true, true, true, true, true, true, true, true, true, true, true, true, true, false, false, false, false, false, false, false, false, false, false, false, false, false] rfl rfl (any_of HT_.out (by kernel_rfl)) (fun _ _ _ h => h) (Or.inr ⟨by rfl, rfl⟩) ?_ ?_
                     rotate_left
                     ·simp only [Act.put, List.setIfInBounds_toArray, List.set_cons_zero, List.set_cons_succ, i64_w, i32_w]
                      rfl
                     refine pure_ (i := 17) (N := some 107) (v := undef) (a' := ?_) #[true, true, true, true, true, true, true, true, true, true, true, true, true, true, true, true, true, true, false, false, false, false, false, false, false, false, false, false, false, false] rfl rfl (any_of HT_.out (by kernel_rfl)) (fun _ _ _ h => h) (Or.inr ⟨by rfl, rfl⟩) ?_ ?_
                     rotate_left
                     ·simp only [Act.put, List.setIfInBounds_toArray, List.set_cons_zero, List.set_cons_succ, i64_w, i32_w]
                      rfl
                     refine pure_ (i := 18) (N := some 108) (v := undef) (a' := ?_) #[true, true, true, true, true, true, true, true, true, true, true, true, true, true, true, true, true, true, true, false, false, false, false, false, false, false, false, false, false, false] rfl rfl (any_of HT_.out (by kernel_rfl)) (fun _ _ _ h => h) (Or.inr ⟨by rfl, rfl⟩) ?_ ?_
                     rotate_left
                     ·simp only [Act.put, List.setIfInBounds_toArray, List.set_cons_zero, List.set_cons_succ, i64_w, i32_w]
                      rfl
                     refine pure_ (i := 19) (N := some 109) (v := undef) (a' := ?_) #[true, true, true, true, true, true, true, true, true, true, true, true, true, true, true, true, true, true, true, true, false, false, false, false, false, false, false, false, false, false] rfl rfl (any_of HT_.out (by kernel_rfl)) (fun _ _ _ h => h) (Or.inr ⟨by rfl, rfl⟩) ?_ ?_
                     rotate_left
                     ·simp only [Act.put, List.setIfInBounds_toArray, List.set_cons_zero, List.set_cons_succ, i64_w, i32_w]
                      rfl
                     refine pure_ (i := 20) (N := some 110) (v := undef) (a' := ?_) #[true, true, true, true, true, true, true, true, true, true, true, true, true, true, true, true, true, true, true, true, true, false, false, false, false, false, false, false, false, false] rfl rfl (any_of HT_.out (by kernel_rfl)) (fun _ _ _ h => h) (Or.inr ⟨by rfl, rfl⟩) ?_ ?_
                     rotate_left
                     ·simp only [Act.put, List.setIfInBounds_toArray, List.set_cons_zero, List.set_cons_succ, i64_w, i32_w]
                      rfl
                     refine pure_ (i := 21) (N := some 111) (v := undef) (a' := ?_) #[true, true, true, true, true, true, true, true, true, true, true, true, true, true, true, true, true, true, true, true, true, true, false, false, false, false, false, false, false, false] rfl rfl (any_of HT_.out (by kernel_rfl)) (fun _ _ _ h => h) (Or.inr ⟨by rfl, rfl⟩) ?_ ?_
                     rotate_left
                     ·simp only [Act.put, List.setIfInBounds_toArray, List.set_cons_zero, List.set_cons_succ, i64_w, i32_w]
                      rfl
                     refine pure_ (i := 22) (N := some 112) (v := undef) (a' := ?_) #[true, true, true, true, true, true, true, true, true, true, true, true, true, true, true, true, true, true, true, true, true, true, true, false, false, false, false, false, false, false] rfl rfl (any_of HT_.out (by kernel_rfl)) (fun _ _ _ h => h) (Or.inr ⟨by rfl, rfl⟩) ?_ ?_
                     rotate_left
                     ·simp only [Act.put, List.setIfInBounds_toArray, List.set_cons_zero, List.set_cons_succ, i64_w, i32_w]
                      rfl
                     refine pure_ (i := 23) (N := some 113) (v := undef) (a' := ?_) #[true, true, true, true, true, true, true, true, true, true, true, true, true, true, true, true, true, true, true, true, true, true, true, true, false, false, false, false, false, false] rfl rfl (any_of HT_.out (by kernel_rfl)) (fun _ _ _ h => h) (Or.inr ⟨by rfl, rfl⟩) ?_ ?_
                     rotate_left
                     ·simp only [Act.put, List.setIfInBounds_toArray, List.set_cons_zero, List.set_cons_succ, i64_w, i32_w]
                      rfl
                     refine pure_ (i := 24) (N := some 114) (v := undef) (a' := ?_) #[true, true, true, true, true, true, true, true, true, true, true, true, true, true, true, true, true, true, true, true, true, true, true, true, true, false, false, false, false, false] rfl rfl (any_of HT_.out (by kernel_rfl)) (fun _ _ _ h => h) (Or.inr ⟨by rfl, rfl⟩) ?_ ?_
                     rotate_left
                     ·simp only [Act.put, List.setIfInBounds_toArray, List.set_cons_zero, List.set_cons_succ, i64_w, i32_w]
                      rfl
                     refine pure_ (i := 25) (N := some 115) (v := undef) (a' := ?_) #[true, true, true, true, true, true, true, true, true, true, true, true, true, true, true, true, true, true, true, true, true, true, true, true, true, true, false, false, false, false] rfl rfl (any_of HT_.out (by kernel_rfl)) (fun _ _ _ h => h) (Or.inr ⟨by rfl, rfl⟩) ?_ ?_
                     rotate_left
                     ·simp only [Act.put, List.setIfInBounds_toArray, List.set_cons_zero, List.set_cons_succ, i64_w, i32_w]
                      rfl
                     refine pure_ (i := 26) (N := some 116) (v := undef) (a' := ?_) #[true, true, true, true, true, true, true, true, true, true, true, true, true, true, true, true, true, true, true, true, true, true, true, true, true, true, true, false, false, false] rfl rfl (any_of HT_.out (by kernel_rfl)) (fun _ _ _ h => h) (Or.inr ⟨by rfl, rfl⟩) ?_ ?_
                     rotate_left
                     ·simp only [Act.put, List.setIfInBounds_toArray, List.set_cons_zero, List.set_cons_succ, i64_w, i32_w]
                      rfl
                     refine pure_ (i := 27) (N := some 117) (v := undef) (a' := ?_) #[true, true, true, true, true, true, true, true, true, true, true, true, true, true, true, true, true, true, true, true, true, true, true, true, true, true, true, true, false, false] rfl rfl (any_of HT_.out (by kernel_rfl)) (fun _ _ _ h => h) (Or.inr ⟨by rfl, rfl⟩) ?_ ?_
                     rotate_left
                     ·simp only [Act.put, List.setIfInBounds_toArray, List.set_cons_zero, List.set_cons_succ, i64_w, i32_w]
                      rfl
                     refine pure_ (i := 28) (N := some 118) (v := undef) (a' := ?_) #[true, true, true, true, true, true, true, true, true, true, true, true, true, true, true, true, true, true, true, true, true, true, true, true, true, true, true, true, true, false] rfl rfl (any_of HT_.out (by kernel_rfl)) (fun _ _ _ h => h) (Or.inr ⟨by rfl, rfl⟩) ?_ ?_
                     rotate_left
                     ·simp only [Act.put, List.setIfInBounds_toArray, List.set_cons_zero, List.set_cons_succ, i64_w, i32_w]
                      rfl
                     refine pure_ (i := 29) (N := some 119) (v := ?_) (a' := ?_) #[true, true, true, true, true, true, true, true, true, true, true, true, true, true, true, true, true, true, true, true, true, true, true, true, true, true, true, true, true, true] rfl rfl (any_of HT_.out (by kernel_rfl)) (fun _ _ _ h => h) (Or.inl ⟨by rfl, ?_⟩) ?_ ?_
                     rotate_left
                     ·intro w'
                      go_simp
                      with_reducible rfl
                     rotate_left
                     ·simp only [Act.put, List.setIfInBounds_toArray, List.set_cons_zero, List.set_cons_succ, i64_w, i32_w]
                      rfl
                     refine done_ (done_of HT_.out (by kernel_rfl)) ?_
                     try go_wp2
                     go_ret
                     exact ⟨by first | rfl | (simp [errW_none, errW_some] <;> rfl) | (simp [*, errW_none, errW_some] <;> rfl), by repeat (first | (with_reducible first | exact HB.out | apply below_alloc | apply pw_below_drewN | apply below_drew1 | refine below_set ?_ GE527.out | refine below_set ?_ GE550.out) | exact HB.out)⟩
                   ·rw [if_neg c58] at H
                    exact absurd H (by simp)
                  ·rw [if_neg c57] at H
                   exact absurd H (by simp)
                 ·rw [if_neg c56] at H
                  exact absurd H (by simp)
                ·replace c55 := Bool.eq_false_iff.mpr c55
                 subst c55
                 have H1 : ((tollgatelaw02_live.f).bind fun t570 => (some t570)) = some r := by rw [if_neg (show ¬ (false = true) by decide)] at H; exact H
                 clear H
                 have H := H1
                 clear H1
                 replace H := Option.bind_eq_some_iff.mp H
                 obtain ⟨t570, A810, H⟩ := H
                 replace H : (some t570) = some r := H
                 have A81 := Aside0.mk A810
                 clear A810
                 obtain rfl := Option.some.inj H
                 go_wp2_with (first | ((with_reducible refine gate_callee (f := 16) rfl ?_); refine goesL_ (some 120) rfl rfl Try.func16 (by kernel_rfl) rfl #[] rfl (by (try simp only [List.map_toArray, List.map_cons, List.map_nil]); first | done | rfl | (simp only [List.length_drop, List.length_take]; rfl)) ?_; (with_reducible refine (tollgatelaw02_live.calls  t570 _ A81.out).mono ?_); rintro e w82 ⟨rfl, hb⟩; refine ⟨_, rfl, ?_⟩; have n0_ := Aside0.mk (Kd.S_below (by (with_reducible repeat (first | apply Kd.S_alloc | apply Kd.S_drewN | apply Kd.S_drew)); exact HO_551010.out) hb); have n1_ := Aside0.mk (Kd.R_below (by (with_reducible repeat (first | apply Kd.R_alloc | apply Kd.R_drewN | apply Kd.R_drew)); exact HO_551011.out) hb); have n2_ := Aside0.mk (blk_below (g := gb527) (o := .cells #[.int .i64 a0_0, .int .i64 a0_1, .int .i64 a0_2, .int .i64 a0_3, .int .i64 a0_4, .int .i64 a0_5, .int .i64 a0_6, .int .i64 a0_7, .int .i64 a0_8, .bool a0_9, .slice A0_10 l0_10.length c0_10, .slice A0_11 l0_11.length c0_11] 40 (0, 0)) (by (with_reducible repeat (first | refine blk_drewN ?_ _ | refine blk_drew ?_ | refine blk_alloc ?_ _)); exact BK527.out) hb); have n3_ := Aside0.mk (blk_below (g := gb550) (o := .cells #[.int .i64 t533, .int .i64 t534, .int .i64 t535, .int .i64 t536, .int .i64 t537, .int .i64 t538, .int .i64 t539, .int .i64 t540, .int .i64 t541, .bool t542, .slice Ao44 x551010_3.length co44, .slice Ao46 y559.length co46] 40 (0, 0)) (by (with_reducible repeat (first | refine blk_drewN ?_ _ | refine blk_drew ?_ | refine blk_alloc ?_ _)); exact BK550.out) hb); have n4_ := Aside0.mk (below_step (by repeat (first | (with_reducible first | exact HB.out | apply below_alloc | apply pw_below_drewN | apply below_drew1 | refine below_set ?_ GE527.out | refine below_set ?_ GE550.out) | exact HB.out)) hb); clear HO_551010; clear HO_551011; clear BK527; clear BK550; clear HB; have HO_551010 := n0_; have HO_551011 := n1_; have BK527 := n2_; have BK550 := n3_; have HB := n4_; clear n0_ n1_ n2_ n3_ n4_; (try clear hb); (try clear hb2); (try clear hk); (try clear hi)))
                 go_ret
                 exact ⟨by first | rfl | (simp [errW_none, errW_some] <;> rfl) | (simp [*, errW_none, errW_some] <;> rfl), by repeat (first | (with_reducible first | exact HB.out | apply below_alloc | apply pw_below_drewN | apply below_drew1 | refine below_set ?_ GE527.out | refine below_set ?_ GE550.out) | exact HB.out)⟩
           ·rw [if_neg c41] at H
            exact absurd H (by simp)
 ·rw [if_neg c3] at H
  have c3b0 : (t531 == 0) = false := beq_eq_false_iff_ne.mpr c3
  have c3b1 : (t531 != 0) = true := bne_iff_ne.mpr c3
  replace H := Option.bind_eq_some_iff.mp H
  obtain ⟨t532, A830, H⟩ := H
  replace H : (some t532) = some r := H
  have A83 := Aside0.mk A830
  clear A830
  obtain rfl := Option.some.inj H
  go_enter Try.func13, Try.ntmps13
  go_wp2_with (first | ((with_reducible refine gate_dst (N := 1) rfl ?_); (try (refine gate_guard (by rfl) ?_; dsimp only)); refine box_event ?hg (N := 1) ?hd (cs := #[.int .i64 a0_0, .int .i64 a0_1, .int .i64 a0_2, .int .i64 a0_3, .int .i64 a0_4, .int .i64 a0_5, .int .i64 a0_6, .int .i64 a0_7, .int .i64 a0_8, .bool a0_9, .slice A0_10 l0_10.length c0_10, .slice A0_11 l0_11.length c0_11]) (t := 40) ?hr ?_; (case hd => rfl); (case hg => rfl); (case hr => first | (go_simp; done) | (go_simp; rfl)); intro gb527 hg w84 hbox hb; have n0_ := Aside0.mk (below_step (by repeat (first | (with_reducible first | exact HB.out | apply below_alloc | apply pw_below_drewN | apply below_drew1) | exact HB.out)) hb); have n1_ := Aside0.mk (hbox); have n2_ := Aside0.mk ((by rw [hg]; exact (below_size (by repeat (first | (with_reducible first | exact HB.out | apply below_alloc | apply pw_below_drewN | apply below_drew1) | exact HB.out))) : w.heap.size ≤ gb527)); have n3_ := Aside0.mk ((by rw [hg]; exact (below_size (by repeat (first | (with_reducible first | exact HB.out | apply below_alloc | apply pw_below_drewN | apply below_drew1) | exact HB.out))) : w.heap.size ≤ gb527)); clear HB; have HB := n0_; have BK527 := n1_; have GW527 := n2_; have GE527 := n3_; clear n0_ n1_ n2_ n3_; clear hb hbox hg; have hcz85_0 : w84.cell? ⟨gb527, 0, none⟩ = some (.int .i64 a0_0) := (blk_cell BK527.out 0).trans rfl; have hcz85_1 : w84.cell? ⟨gb527, 1, none⟩ = some (.int .i64 a0_1) := (blk_cell BK527.out 1).trans rfl; have hcz85_2 : w84.cell? ⟨gb527, 2, none⟩ = some (.int .i64 a0_2) := (blk_cell BK527.out 2).trans rfl; have hcz85_3 : w84.cell? ⟨gb527, 3, none⟩ = some (.int .i64 a0_3) := (blk_cell BK527.out 3).trans rfl; have hcz85_4 : w84.cell? ⟨gb527, 4, none⟩ = some (.int .i64 a0_4) := (blk_cell BK527.out 4).trans rfl; have hcz85_5 : w84.cell? ⟨gb527, 5, none⟩ = some (.int .i64 a0_5) := (blk_cell BK527.out 5).trans rfl; have hcz85_6 : w84.cell? ⟨gb527, 6, none⟩ = some (.int .i64 a0_6) := (blk_cell BK527.out 6).trans rfl; have hcz85_7 : w84.cell? ⟨gb527, 7, none⟩ = some (.int .i64 a0_7) := (blk_cell BK527.out 7).trans rfl; have hcz85_8 : w84.cell? ⟨gb527, 8, none⟩ = some (.int .i64 a0_8) := (blk_cell BK527.out 8).trans rfl; have hcz85_9 : w84.cell? ⟨gb527, 9, none⟩ = some (.bool a0_9) := (blk_cell BK527.out 9).trans rfl; have hcz85_10 : w84.cell? ⟨gb527, 10, none⟩ = some (.slice A0_10 l0_10.length c0_10) := (blk_cell BK527.out 10).trans rfl; have hcz85_11 : w84.cell? ⟨gb527, 11, none⟩ = some (.slice A0_11 l0_11.length c0_11) := (blk_cell BK527.out 11).trans rfl; have hfz85_0 := blk_frozen BK527.out 0; have hfz85_1 := blk_frozen BK527.out 1; have hfz85_2 := blk_frozen BK527.out 2; have hfz85_3 := blk_frozen BK527.out 3; have hfz85_4 := blk_frozen BK527.out 4; have hfz85_5 := blk_frozen BK527.out 5; have hfz85_6 := blk_frozen BK527.out 6; have hfz85_7 := blk_frozen BK527.out 7; have hfz85_8 := blk_frozen BK527.out 8; have hfz85_9 := blk_frozen BK527.out 9; have hfz85_10 := blk_frozen BK527.out 10; have hfz85_11 := blk_frozen BK527.out 11) | ((with_reducible refine gate_callee (f := 22) rfl ?_); refine goesL_ (some 13) rfl rfl Try.func22 (by kernel_rfl) rfl #[.agg #[.int .i64 a0_0, .int .i64 a0_1, .int .i64 a0_2, .int .i64 a0_3, .int .i64 a0_4, .int .i64 a0_5, .int .i64 a0_6, .int .i64 a0_7, .int .i64 a0_8, .bool a0_9, .slice A0_10 l0_10.length c0_10, .slice A0_11 l0_11.length c0_11]] rfl (by (try simp only [List.map_toArray, List.map_cons, List.map_nil]); first | done | rfl | (simp only [List.length_drop, List.length_take]; rfl)) ?_; (with_reducible refine (wire_PutMsg.calls a0_0 a0_1 a0_2 a0_3 a0_4 a0_5 a0_6 a0_7 a0_8 a0_9 _ _ l0_10 _ _ l0_11 t528 t531 _ ?side1 ?side2 ?side3 ?side4 A2.out).mono ?_); (case side1 => repeat (first | exact (Kd.C_below HR0_10.out HB.out) | (with_reducible refine Kd.C_alloc ?_ _) | (with_reducible refine Kd.C_drewN ?_ _) | (with_reducible refine Kd.C_drew ?_))); (case side2 => exact HC0_10.out); (case side3 => repeat (first | exact (Kd.C_below HR0_11.out HB.out) | (with_reducible refine Kd.C_alloc ?_ _) | (with_reducible refine Kd.C_drewN ?_ _) | (with_reducible refine Kd.C_drew ?_))); (case side4 => exact HC0_11.out); rintro e w86 ⟨v529, rfl, ho0, hb⟩; refine ⟨_, rfl, ?_⟩; have n0_ := Aside0.mk (Kd.R_lower ho0 (below_size (by repeat (first | (with_reducible first | exact HB.out | apply below_alloc | apply pw_below_drewN | apply below_drew1 | refine below_set ?_ GE527.out) | exact HB.out)))); have n1_ := Aside0.mk (blk_below (g := gb527) (o := .cells #[.int .i64 a0_0, .int .i64 a0_1, .int .i64 a0_2, .int .i64 a0_3, .int .i64 a0_4, .int .i64 a0_5, .int .i64 a0_6, .int .i64 a0_7, .int .i64 a0_8, .bool a0_9, .slice A0_10 l0_10.length c0_10, .slice A0_11 l0_11.length c0_11] 40 (0, 0)) (by (with_reducible repeat (first | refine blk_drewN ?_ _ | refine blk_drew ?_ | refine blk_alloc ?_ _)); exact BK527.out) hb); have n2_ := Aside0.mk (below_step (by repeat (first | (with_reducible first | exact HB.out | apply below_alloc | apply pw_below_drewN | apply below_drew1 | refine below_set ?_ GE527.out) | exact HB.out)) hb); clear BK527; clear HB; have HO530 := n0_; have BK527 := n1_; have HB := n2_; clear n0_ n1_ n2_; (try clear hb); (try clear hb2); (try clear hk); (try clear hi); (try clear ho0)) | ((with_reducible refine gate_callee (f := 16) rfl ?_); refine goesL_ (some 18) rfl rfl Try.func16 (by kernel_rfl) rfl #[] rfl (by (try simp only [List.map_toArray, List.map_cons, List.map_nil]); first | done | rfl | (simp only [List.length_drop, List.length_take]; rfl)) ?_; (with_reducible refine (tollgatelaw02_live.calls  t532 _ A83.out).mono ?_); rintro e w87 ⟨rfl, hb⟩; refine ⟨_, rfl, ?_⟩; have n0_ := Aside0.mk (Kd.R_below (by (with_reducible repeat (first | apply Kd.R_alloc | apply Kd.R_drewN | apply Kd.R_drew)); exact HO530.out) hb); have n1_ := Aside0.mk (blk_below (g := gb527) (o := .cells #[.int .i64 a0_0, .int .i64 a0_1, .int .i64 a0_2, .int .i64 a0_3, .int .i64 a0_4, .int .i64 a0_5, .int .i64 a0_6, .int .i64 a0_7, .int .i64 a0_8, .bool a0_9, .slice A0_10 l0_10.length c0_10, .slice A0_11 l0_11.length c0_11] 40 (0, 0)) (by (with_reducible repeat (first | refine blk_drewN ?_ _ | refine blk_drew ?_ | refine blk_alloc ?_ _)); exact BK527.out) hb); have n2_ := Aside0.mk (below_step (by repeat (first | (with_reducible first | exact HB.out | apply below_alloc | apply pw_below_drewN | apply below_drew1 | refine below_set ?_ GE527.out) | exact HB.out)) hb); clear HO530; clear BK527; clear HB; have HO530 := n0_; have BK527 := n1_; have HB := n2_; clear n0_ n1_ n2_; (try clear hb); (try clear hb2); (try clear hk); (try clear hi)))
  go_ret
  exact ⟨by first | rfl | (simp [errW_none, errW_some] <;> rfl) | (simp [*, errW_none, errW_some] <;> rfl), by repeat (first | (with_reducible first | exact HB.out | apply below_alloc | apply pw_below_drewN | apply below_drew1 | refine below_set ?_ GE527.out) | exact HB.out)⟩

end Go.Proofs.Ytlbioffpcoikaaa.PW
