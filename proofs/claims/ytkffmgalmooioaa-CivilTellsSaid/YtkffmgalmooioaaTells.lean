/- Contracts of the Go functions over this seat's translation, each beside a Lean function with the same answers. Lines written for this claim by the kit's print tool, turned by this session. -/
import Derived.Test.YtkffmgalmooioaaCivx0
import Derived.Test.YtkffmgalmooioaaCivEq
import Derived.Test.YtkffmgalmooioaaCivx1
import Derived.Test.YtkffmgalmooioaaCivx2
import Derived.Test.YtkffmgalmooioaaCivx4
import Derived.Test.YtkffmgalmooioaaCivx5
import Derived.Test.YtkffmgalmooioaaCivx7
import Derived.Test.YtkffmgalmooioaaCivx8
import Derived.Test.YtkffmgalmooioaaCivx11
import Derived.Test.YtkffmgalmooioaaCivx15
import Derived.Test.YtkffmgalmooioaaCivx16
import Derived.Test.YtkffmgalmooioaaCivx18
import Derived.Test.YtkffmgalmooioaaCivx22
import Derived.Test.YtkffmgalmooioaaCivx23
import Derived.Test.YtkffmgalmooioaaCivx25
import Derived.Test.YtkffmgalmooioaaText
namespace Go.Proofs.Ytkffmgalmooioaa.Civ
open Go.RowKit Go.Proofs.YtkffmgalmooioaaW.PrintWords Go.Proofs.YtkffmgalmooioaaW.PrintLast Go.Proofs.YtkffmgalmooioaaW.PrintMore
attribute [local go_sem] max2_int min2_int max_two min_two max_three min_three max_four min_four   -- for this text's walks alone
set_option linter.unusedVariables false
set_option linter.unusedSimpArgs false

attribute [local go_sem high] eqA29
/-! ### ticklerlaw16_CivilTells: function 9 -/
def ticklerlaw16_CivilTells.f (k : Nat) (a0 : Int) (a1 : Int) (a2 : Int) (a3 : Int) : Option (Bool) := (civil_Days.f k a0 a1).bind fun bt245 => ((ticklerref16_Days.f k a0 a1).bind fun bt247 => ((civil_Day.f k a0 a1 a2).bind fun bt249 => ((ticklerref16_Day.f k a0 a1 a2).bind fun bt251 => ((civil_Date.f k a2).bind fun bt253 => ((ticklerref16_Date.f k a2).bind fun bt257 => ((civil_Split.f k a3).bind fun bt261 => ((ticklerref16_Split.f k a3).bind fun bt270 => ((civil_Text.f k a3).bind fun bt279 => ((ticklerref16_Text.f k a3).bind fun bt281 => ((civil_Leap.f a0).bind fun t283 => ((ticklerref16_Leap.f a0).bind fun t284 => (if (t283 == t284) = true then (if bt245.1 = bt247.1 then ((ticklerlaw16_num.f bt245.2).bind fun t285 => (if t285 = bt247.2 then (if bt249.1 = bt251.1 then ((ticklerlaw16_num.f bt249.2).bind fun t286 => (if t286 = bt251.2 then (if bt253.1 = bt257.1 then (if bt253.2.1 = bt257.2.1 then (if bt253.2.2.1 = bt257.2.2.1 then ((ticklerlaw16_num.f bt253.2.2.2).bind fun t287 => (if t287 = bt257.2.2.2 then (if (bt261.1 == bt270.1 && (bt261.2.1 == bt270.2.1 && (bt261.2.2.1 == bt270.2.2.1 && (bt261.2.2.2.1 == bt270.2.2.2.1 && (bt261.2.2.2.2.1 == bt270.2.2.2.2.1 && (bt261.2.2.2.2.2.1 == bt270.2.2.2.2.2.1 && (bt261.2.2.2.2.2.2.1 == bt270.2.2.2.2.2.2.1))))))) = true then ((ticklerlaw16_num.f bt261.2.2.2.2.2.2.2).bind fun t288 => (if t288 = bt270.2.2.2.2.2.2.2 then (if bt279.1.toList = bt281.1.toList then ((ticklerlaw16_num.f bt279.2).bind fun t289 => (if t289 = bt281.2 then ((ticklerlaw16_alive.f k).bind fun t290 => (some t290)) else (some false))) else (some false)) else (some false))) else (some false)) else (some false))) else (some false)) else (some false)) else (some false)) else (some false))) else (some false)) else (some false))) else (some false)) else (some false)))))))))))))
theorem ticklerlaw16_CivilTells.mono : ∀ a0 a1 a2 a3 k, LeO (ticklerlaw16_CivilTells.f k a0 a1 a2 a3) (ticklerlaw16_CivilTells.f (k + 1) a0 a1 a2 a3) := by
  intro a0 a1 a2 a3 k
  unfold ticklerlaw16_CivilTells.f
  repeat' first
      | (with_reducible exact civil_Date.mono _ _)
      | (with_reducible exact civil_Day.mono _ _ _ _)
      | (with_reducible exact civil_Days.mono _ _ _)
      | (with_reducible exact civil_Split.mono _ _)
      | (with_reducible exact civil_Text.mono _ _)
      | (with_reducible exact ticklerlaw16_alive.mono _)
      | (with_reducible exact ticklerref16_Date.mono _ _)
      | (with_reducible exact ticklerref16_Day.mono _ _ _ _)
      | (with_reducible exact ticklerref16_Days.mono _ _ _)
      | (with_reducible exact ticklerref16_Split.mono _ _)
      | (with_reducible exact ticklerref16_Text.mono _ _)
      | (with_reducible exact LeO.refl _)
      | (with_reducible exact LeO.none _)
      | (with_reducible refine LeO.ite ?_ ?_)
      | (with_reducible refine LeO.bind ?_ (fun _ => ?_))
      | exact civil_Date.mono _ _
      | exact civil_Day.mono _ _ _ _
      | exact civil_Days.mono _ _ _
      | exact civil_Split.mono _ _
      | exact civil_Text.mono _ _
      | exact ticklerlaw16_alive.mono _
      | exact ticklerref16_Date.mono _ _
      | exact ticklerref16_Day.mono _ _ _ _
      | exact ticklerref16_Days.mono _ _ _
      | exact ticklerref16_Split.mono _ _
      | exact ticklerref16_Text.mono _ _
      | exact LeO.none _
      | refine LeO.ite ?_ ?_
      | refine LeO.bind ?_ (fun _ => ?_)
theorem hb_ {w w44 : World} {n : Nat} {w56 : World} (h : Below w.heap.size w w44) (k : Below (w44.drewN n).heap.size (w44.drewN n) w56) : Below w.heap.size w w56 := below_step (pw_below_drewN h n) k
set_option maxHeartbeats 8000000 in
set_option maxRecDepth 100000 in
theorem ticklerlaw16_CivilTells.calls (k : Nat) (a0 : Int) (a1 : Int) (a2 : Int) (a3 : Int) (w : World) (h : ticklerlaw16_CivilTells.f k a0 a1 a2 a3 = some true) :
    Calls Try.prog 9 #[.int .i64 a0, .int .i64 a1, .int .i64 a2, .int .i64 a3] w fun e w' => e = .returned (.bool true) ∧ Below w.heap.size w w' := by
  have hu29 := Try.underlying29
  have hu37 := Try.underlying37
  have HB := Aside0.mk (Below.refl w.heap.size w)
  have H : ((civil_Days.f k a0 a1).bind fun bt245 => ((ticklerref16_Days.f k a0 a1).bind fun bt247 => ((civil_Day.f k a0 a1 a2).bind fun bt249 => ((ticklerref16_Day.f k a0 a1 a2).bind fun bt251 => ((civil_Date.f k a2).bind fun bt253 => ((ticklerref16_Date.f k a2).bind fun bt257 => ((civil_Split.f k a3).bind fun bt261 => ((ticklerref16_Split.f k a3).bind fun bt270 => ((civil_Text.f k a3).bind fun bt279 => ((ticklerref16_Text.f k a3).bind fun bt281 => ((civil_Leap.f a0).bind fun t283 => ((ticklerref16_Leap.f a0).bind fun t284 => (if (t283 == t284) = true then (if bt245.1 = bt247.1 then ((ticklerlaw16_num.f bt245.2).bind fun t285 => (if t285 = bt247.2 then (if bt249.1 = bt251.1 then ((ticklerlaw16_num.f bt249.2).bind fun t286 => (if t286 = bt251.2 then (if bt253.1 = bt257.1 then (if bt253.2.1 = bt257.2.1 then (if bt253.2.2.1 = bt257.2.2.1 then ((ticklerlaw16_num.f bt253.2.2.2).bind fun t287 => (if t287 = bt257.2.2.2 then (if (bt261.1 == bt270.1 && (bt261.2.1 == bt270.2.1 && (bt261.2.2.1 == bt270.2.2.1 && (bt261.2.2.2.1 == bt270.2.2.2.1 && (bt261.2.2.2.2.1 == bt270.2.2.2.2.1 && (bt261.2.2.2.2.2.1 == bt270.2.2.2.2.2.1 && (bt261.2.2.2.2.2.2.1 == bt270.2.2.2.2.2.2.1))))))) = true then ((ticklerlaw16_num.f bt261.2.2.2.2.2.2.2).bind fun t288 => (if t288 = bt270.2.2.2.2.2.2.2 then (if bt279.1.toList = bt281.1.toList then ((ticklerlaw16_num.f bt279.2).bind fun t289 => (if t289 = bt281.2 then ((ticklerlaw16_alive.f k).bind fun t290 => (some t290)) else (some false))) else (some false)) else (some false))) else (some false)) else (some false))) else (some false)) else (some false)) else (some false)) else (some false))) else (some false)) else (some false))) else (some false)) else (some false)))))))))))))) = some true := h
  clear h
  replace H := Option.bind_eq_some_iff.mp H
  obtain ⟨⟨t245, t246⟩, A50, H⟩ := H
  replace H : ((ticklerref16_Days.f k a0 a1).bind fun bt247 => ((civil_Day.f k a0 a1 a2).bind fun bt249 => ((ticklerref16_Day.f k a0 a1 a2).bind fun bt251 => ((civil_Date.f k a2).bind fun bt253 => ((ticklerref16_Date.f k a2).bind fun bt257 => ((civil_Split.f k a3).bind fun bt261 => ((ticklerref16_Split.f k a3).bind fun bt270 => ((civil_Text.f k a3).bind fun bt279 => ((ticklerref16_Text.f k a3).bind fun bt281 => ((civil_Leap.f a0).bind fun t283 => ((ticklerref16_Leap.f a0).bind fun t284 => (if (t283 == t284) = true then (if t245 = bt247.1 then ((ticklerlaw16_num.f t246).bind fun t285 => (if t285 = bt247.2 then (if bt249.1 = bt251.1 then ((ticklerlaw16_num.f bt249.2).bind fun t286 => (if t286 = bt251.2 then (if bt253.1 = bt257.1 then (if bt253.2.1 = bt257.2.1 then (if bt253.2.2.1 = bt257.2.2.1 then ((ticklerlaw16_num.f bt253.2.2.2).bind fun t287 => (if t287 = bt257.2.2.2 then (if (bt261.1 == bt270.1 && (bt261.2.1 == bt270.2.1 && (bt261.2.2.1 == bt270.2.2.1 && (bt261.2.2.2.1 == bt270.2.2.2.1 && (bt261.2.2.2.2.1 == bt270.2.2.2.2.1 && (bt261.2.2.2.2.2.1 == bt270.2.2.2.2.2.1 && (bt261.2.2.2.2.2.2.1 == bt270.2.2.2.2.2.2.1))))))) = true then ((ticklerlaw16_num.f bt261.2.2.2.2.2.2.2).bind fun t288 => (if t288 = bt270.2.2.2.2.2.2.2 then (if bt279.1.toList = bt281.1.toList then ((ticklerlaw16_num.f bt279.2).bind fun t289 => (if t289 = bt281.2 then ((ticklerlaw16_alive.f k).bind fun t290 => (some t290)) else (some false))) else (some false)) else (some false))) else (some false)) else (some false))) else (some false)) else (some false)) else (some false)) else (some false))) else (some false)) else (some false))) else (some false)) else (some false))))))))))))) = some true := H
  have A5 := Aside0.mk A50
  clear A50
  replace H := Option.bind_eq_some_iff.mp H
  obtain ⟨⟨t247, t248⟩, A60, H⟩ := H
  replace H : ((civil_Day.f k a0 a1 a2).bind fun bt249 => ((ticklerref16_Day.f k a0 a1 a2).bind fun bt251 => ((civil_Date.f k a2).bind fun bt253 => ((ticklerref16_Date.f k a2).bind fun bt257 => ((civil_Split.f k a3).bind fun bt261 => ((ticklerref16_Split.f k a3).bind fun bt270 => ((civil_Text.f k a3).bind fun bt279 => ((ticklerref16_Text.f k a3).bind fun bt281 => ((civil_Leap.f a0).bind fun t283 => ((ticklerref16_Leap.f a0).bind fun t284 => (if (t283 == t284) = true then (if t245 = t247 then ((ticklerlaw16_num.f t246).bind fun t285 => (if t285 = t248 then (if bt249.1 = bt251.1 then ((ticklerlaw16_num.f bt249.2).bind fun t286 => (if t286 = bt251.2 then (if bt253.1 = bt257.1 then (if bt253.2.1 = bt257.2.1 then (if bt253.2.2.1 = bt257.2.2.1 then ((ticklerlaw16_num.f bt253.2.2.2).bind fun t287 => (if t287 = bt257.2.2.2 then (if (bt261.1 == bt270.1 && (bt261.2.1 == bt270.2.1 && (bt261.2.2.1 == bt270.2.2.1 && (bt261.2.2.2.1 == bt270.2.2.2.1 && (bt261.2.2.2.2.1 == bt270.2.2.2.2.1 && (bt261.2.2.2.2.2.1 == bt270.2.2.2.2.2.1 && (bt261.2.2.2.2.2.2.1 == bt270.2.2.2.2.2.2.1))))))) = true then ((ticklerlaw16_num.f bt261.2.2.2.2.2.2.2).bind fun t288 => (if t288 = bt270.2.2.2.2.2.2.2 then (if bt279.1.toList = bt281.1.toList then ((ticklerlaw16_num.f bt279.2).bind fun t289 => (if t289 = bt281.2 then ((ticklerlaw16_alive.f k).bind fun t290 => (some t290)) else (some false))) else (some false)) else (some false))) else (some false)) else (some false))) else (some false)) else (some false)) else (some false)) else (some false))) else (some false)) else (some false))) else (some false)) else (some false)))))))))))) = some true := H
  have A6 := Aside0.mk A60
  clear A60
  replace H := Option.bind_eq_some_iff.mp H
  obtain ⟨⟨t249, t250⟩, A70, H⟩ := H
  replace H : ((ticklerref16_Day.f k a0 a1 a2).bind fun bt251 => ((civil_Date.f k a2).bind fun bt253 => ((ticklerref16_Date.f k a2).bind fun bt257 => ((civil_Split.f k a3).bind fun bt261 => ((ticklerref16_Split.f k a3).bind fun bt270 => ((civil_Text.f k a3).bind fun bt279 => ((ticklerref16_Text.f k a3).bind fun bt281 => ((civil_Leap.f a0).bind fun t283 => ((ticklerref16_Leap.f a0).bind fun t284 => (if (t283 == t284) = true then (if t245 = t247 then ((ticklerlaw16_num.f t246).bind fun t285 => (if t285 = t248 then (if t249 = bt251.1 then ((ticklerlaw16_num.f t250).bind fun t286 => (if t286 = bt251.2 then (if bt253.1 = bt257.1 then (if bt253.2.1 = bt257.2.1 then (if bt253.2.2.1 = bt257.2.2.1 then ((ticklerlaw16_num.f bt253.2.2.2).bind fun t287 => (if t287 = bt257.2.2.2 then (if (bt261.1 == bt270.1 && (bt261.2.1 == bt270.2.1 && (bt261.2.2.1 == bt270.2.2.1 && (bt261.2.2.2.1 == bt270.2.2.2.1 && (bt261.2.2.2.2.1 == bt270.2.2.2.2.1 && (bt261.2.2.2.2.2.1 == bt270.2.2.2.2.2.1 && (bt261.2.2.2.2.2.2.1 == bt270.2.2.2.2.2.2.1))))))) = true then ((ticklerlaw16_num.f bt261.2.2.2.2.2.2.2).bind fun t288 => (if t288 = bt270.2.2.2.2.2.2.2 then (if bt279.1.toList = bt281.1.toList then ((ticklerlaw16_num.f bt279.2).bind fun t289 => (if t289 = bt281.2 then ((ticklerlaw16_alive.f k).bind fun t290 => (some t290)) else (some false))) else (some false)) else (some false))) else (some false)) else (some false))) else (some false)) else (some false)) else (some false)) else (some false))) else (some false)) else (some false))) else (some false)) else (some false))))))))))) = some true := H
  have A7 := Aside0.mk A70
  clear A70
  replace H := Option.bind_eq_some_iff.mp H
  obtain ⟨⟨t251, t252⟩, A80, H⟩ := H
  replace H : ((civil_Date.f k a2).bind fun bt253 => ((ticklerref16_Date.f k a2).bind fun bt257 => ((civil_Split.f k a3).bind fun bt261 => ((ticklerref16_Split.f k a3).bind fun bt270 => ((civil_Text.f k a3).bind fun bt279 => ((ticklerref16_Text.f k a3).bind fun bt281 => ((civil_Leap.f a0).bind fun t283 => ((ticklerref16_Leap.f a0).bind fun t284 => (if (t283 == t284) = true then (if t245 = t247 then ((ticklerlaw16_num.f t246).bind fun t285 => (if t285 = t248 then (if t249 = t251 then ((ticklerlaw16_num.f t250).bind fun t286 => (if t286 = t252 then (if bt253.1 = bt257.1 then (if bt253.2.1 = bt257.2.1 then (if bt253.2.2.1 = bt257.2.2.1 then ((ticklerlaw16_num.f bt253.2.2.2).bind fun t287 => (if t287 = bt257.2.2.2 then (if (bt261.1 == bt270.1 && (bt261.2.1 == bt270.2.1 && (bt261.2.2.1 == bt270.2.2.1 && (bt261.2.2.2.1 == bt270.2.2.2.1 && (bt261.2.2.2.2.1 == bt270.2.2.2.2.1 && (bt261.2.2.2.2.2.1 == bt270.2.2.2.2.2.1 && (bt261.2.2.2.2.2.2.1 == bt270.2.2.2.2.2.2.1))))))) = true then ((ticklerlaw16_num.f bt261.2.2.2.2.2.2.2).bind fun t288 => (if t288 = bt270.2.2.2.2.2.2.2 then (if bt279.1.toList = bt281.1.toList then ((ticklerlaw16_num.f bt279.2).bind fun t289 => (if t289 = bt281.2 then ((ticklerlaw16_alive.f k).bind fun t290 => (some t290)) else (some false))) else (some false)) else (some false))) else (some false)) else (some false))) else (some false)) else (some false)) else (some false)) else (some false))) else (some false)) else (some false))) else (some false)) else (some false)))))))))) = some true := H
  have A8 := Aside0.mk A80
  clear A80
  replace H := Option.bind_eq_some_iff.mp H
  obtain ⟨⟨t253, t254, t255, t256⟩, A90, H⟩ := H
  replace H : ((ticklerref16_Date.f k a2).bind fun bt257 => ((civil_Split.f k a3).bind fun bt261 => ((ticklerref16_Split.f k a3).bind fun bt270 => ((civil_Text.f k a3).bind fun bt279 => ((ticklerref16_Text.f k a3).bind fun bt281 => ((civil_Leap.f a0).bind fun t283 => ((ticklerref16_Leap.f a0).bind fun t284 => (if (t283 == t284) = true then (if t245 = t247 then ((ticklerlaw16_num.f t246).bind fun t285 => (if t285 = t248 then (if t249 = t251 then ((ticklerlaw16_num.f t250).bind fun t286 => (if t286 = t252 then (if t253 = bt257.1 then (if t254 = bt257.2.1 then (if t255 = bt257.2.2.1 then ((ticklerlaw16_num.f t256).bind fun t287 => (if t287 = bt257.2.2.2 then (if (bt261.1 == bt270.1 && (bt261.2.1 == bt270.2.1 && (bt261.2.2.1 == bt270.2.2.1 && (bt261.2.2.2.1 == bt270.2.2.2.1 && (bt261.2.2.2.2.1 == bt270.2.2.2.2.1 && (bt261.2.2.2.2.2.1 == bt270.2.2.2.2.2.1 && (bt261.2.2.2.2.2.2.1 == bt270.2.2.2.2.2.2.1))))))) = true then ((ticklerlaw16_num.f bt261.2.2.2.2.2.2.2).bind fun t288 => (if t288 = bt270.2.2.2.2.2.2.2 then (if bt279.1.toList = bt281.1.toList then ((ticklerlaw16_num.f bt279.2).bind fun t289 => (if t289 = bt281.2 then ((ticklerlaw16_alive.f k).bind fun t290 => (some t290)) else (some false))) else (some false)) else (some false))) else (some false)) else (some false))) else (some false)) else (some false)) else (some false)) else (some false))) else (some false)) else (some false))) else (some false)) else (some false))))))))) = some true := H
  have A9 := Aside0.mk A90
  clear A90
  replace H := Option.bind_eq_some_iff.mp H
  obtain ⟨⟨t257, t258, t259, t260⟩, A100, H⟩ := H
  replace H : ((civil_Split.f k a3).bind fun bt261 => ((ticklerref16_Split.f k a3).bind fun bt270 => ((civil_Text.f k a3).bind fun bt279 => ((ticklerref16_Text.f k a3).bind fun bt281 => ((civil_Leap.f a0).bind fun t283 => ((ticklerref16_Leap.f a0).bind fun t284 => (if (t283 == t284) = true then (if t245 = t247 then ((ticklerlaw16_num.f t246).bind fun t285 => (if t285 = t248 then (if t249 = t251 then ((ticklerlaw16_num.f t250).bind fun t286 => (if t286 = t252 then (if t253 = t257 then (if t254 = t258 then (if t255 = t259 then ((ticklerlaw16_num.f t256).bind fun t287 => (if t287 = t260 then (if (bt261.1 == bt270.1 && (bt261.2.1 == bt270.2.1 && (bt261.2.2.1 == bt270.2.2.1 && (bt261.2.2.2.1 == bt270.2.2.2.1 && (bt261.2.2.2.2.1 == bt270.2.2.2.2.1 && (bt261.2.2.2.2.2.1 == bt270.2.2.2.2.2.1 && (bt261.2.2.2.2.2.2.1 == bt270.2.2.2.2.2.2.1))))))) = true then ((ticklerlaw16_num.f bt261.2.2.2.2.2.2.2).bind fun t288 => (if t288 = bt270.2.2.2.2.2.2.2 then (if bt279.1.toList = bt281.1.toList then ((ticklerlaw16_num.f bt279.2).bind fun t289 => (if t289 = bt281.2 then ((ticklerlaw16_alive.f k).bind fun t290 => (some t290)) else (some false))) else (some false)) else (some false))) else (some false)) else (some false))) else (some false)) else (some false)) else (some false)) else (some false))) else (some false)) else (some false))) else (some false)) else (some false)))))))) = some true := H
  have A10 := Aside0.mk A100
  clear A100
  replace H := Option.bind_eq_some_iff.mp H
  obtain ⟨⟨t261, t262, t263, t264, t265, t266, t267, t268⟩, A110, H⟩ := H
  replace H : ((ticklerref16_Split.f k a3).bind fun bt270 => ((civil_Text.f k a3).bind fun bt279 => ((ticklerref16_Text.f k a3).bind fun bt281 => ((civil_Leap.f a0).bind fun t283 => ((ticklerref16_Leap.f a0).bind fun t284 => (if (t283 == t284) = true then (if t245 = t247 then ((ticklerlaw16_num.f t246).bind fun t285 => (if t285 = t248 then (if t249 = t251 then ((ticklerlaw16_num.f t250).bind fun t286 => (if t286 = t252 then (if t253 = t257 then (if t254 = t258 then (if t255 = t259 then ((ticklerlaw16_num.f t256).bind fun t287 => (if t287 = t260 then (if (t261 == bt270.1 && (t262 == bt270.2.1 && (t263 == bt270.2.2.1 && (t264 == bt270.2.2.2.1 && (t265 == bt270.2.2.2.2.1 && (t266 == bt270.2.2.2.2.2.1 && (t267 == bt270.2.2.2.2.2.2.1))))))) = true then ((ticklerlaw16_num.f t268).bind fun t288 => (if t288 = bt270.2.2.2.2.2.2.2 then (if bt279.1.toList = bt281.1.toList then ((ticklerlaw16_num.f bt279.2).bind fun t289 => (if t289 = bt281.2 then ((ticklerlaw16_alive.f k).bind fun t290 => (some t290)) else (some false))) else (some false)) else (some false))) else (some false)) else (some false))) else (some false)) else (some false)) else (some false)) else (some false))) else (some false)) else (some false))) else (some false)) else (some false))))))) = some true := H
  have A11 := Aside0.mk A110
  clear A110
  replace H := Option.bind_eq_some_iff.mp H
  obtain ⟨⟨t270, t271, t272, t273, t274, t275, t276, t277⟩, A120, H⟩ := H
  replace H : ((civil_Text.f k a3).bind fun bt279 => ((ticklerref16_Text.f k a3).bind fun bt281 => ((civil_Leap.f a0).bind fun t283 => ((ticklerref16_Leap.f a0).bind fun t284 => (if (t283 == t284) = true then (if t245 = t247 then ((ticklerlaw16_num.f t246).bind fun t285 => (if t285 = t248 then (if t249 = t251 then ((ticklerlaw16_num.f t250).bind fun t286 => (if t286 = t252 then (if t253 = t257 then (if t254 = t258 then (if t255 = t259 then ((ticklerlaw16_num.f t256).bind fun t287 => (if t287 = t260 then (if (t261 == t270 && (t262 == t271 && (t263 == t272 && (t264 == t273 && (t265 == t274 && (t266 == t275 && (t267 == t276))))))) = true then ((ticklerlaw16_num.f t268).bind fun t288 => (if t288 = t277 then (if bt279.1.toList = bt281.1.toList then ((ticklerlaw16_num.f bt279.2).bind fun t289 => (if t289 = bt281.2 then ((ticklerlaw16_alive.f k).bind fun t290 => (some t290)) else (some false))) else (some false)) else (some false))) else (some false)) else (some false))) else (some false)) else (some false)) else (some false)) else (some false))) else (some false)) else (some false))) else (some false)) else (some false)))))) = some true := H
  have A12 := Aside0.mk A120
  clear A120
  replace H := Option.bind_eq_some_iff.mp H
  obtain ⟨⟨t279, t280⟩, A130, H⟩ := H
  replace H : ((ticklerref16_Text.f k a3).bind fun bt281 => ((civil_Leap.f a0).bind fun t283 => ((ticklerref16_Leap.f a0).bind fun t284 => (if (t283 == t284) = true then (if t245 = t247 then ((ticklerlaw16_num.f t246).bind fun t285 => (if t285 = t248 then (if t249 = t251 then ((ticklerlaw16_num.f t250).bind fun t286 => (if t286 = t252 then (if t253 = t257 then (if t254 = t258 then (if t255 = t259 then ((ticklerlaw16_num.f t256).bind fun t287 => (if t287 = t260 then (if (t261 == t270 && (t262 == t271 && (t263 == t272 && (t264 == t273 && (t265 == t274 && (t266 == t275 && (t267 == t276))))))) = true then ((ticklerlaw16_num.f t268).bind fun t288 => (if t288 = t277 then (if t279.toList = bt281.1.toList then ((ticklerlaw16_num.f t280).bind fun t289 => (if t289 = bt281.2 then ((ticklerlaw16_alive.f k).bind fun t290 => (some t290)) else (some false))) else (some false)) else (some false))) else (some false)) else (some false))) else (some false)) else (some false)) else (some false)) else (some false))) else (some false)) else (some false))) else (some false)) else (some false))))) = some true := H
  have A13 := Aside0.mk A130
  clear A130
  replace H := Option.bind_eq_some_iff.mp H
  obtain ⟨⟨t281, t282⟩, A140, H⟩ := H
  replace H : ((civil_Leap.f a0).bind fun t283 => ((ticklerref16_Leap.f a0).bind fun t284 => (if (t283 == t284) = true then (if t245 = t247 then ((ticklerlaw16_num.f t246).bind fun t285 => (if t285 = t248 then (if t249 = t251 then ((ticklerlaw16_num.f t250).bind fun t286 => (if t286 = t252 then (if t253 = t257 then (if t254 = t258 then (if t255 = t259 then ((ticklerlaw16_num.f t256).bind fun t287 => (if t287 = t260 then (if (t261 == t270 && (t262 == t271 && (t263 == t272 && (t264 == t273 && (t265 == t274 && (t266 == t275 && (t267 == t276))))))) = true then ((ticklerlaw16_num.f t268).bind fun t288 => (if t288 = t277 then (if t279.toList = t281.toList then ((ticklerlaw16_num.f t280).bind fun t289 => (if t289 = t282 then ((ticklerlaw16_alive.f k).bind fun t290 => (some t290)) else (some false))) else (some false)) else (some false))) else (some false)) else (some false))) else (some false)) else (some false)) else (some false)) else (some false))) else (some false)) else (some false))) else (some false)) else (some false)))) = some true := H
  have A14 := Aside0.mk A140
  clear A140
  replace H := Option.bind_eq_some_iff.mp H
  obtain ⟨t283, A150, H⟩ := H
  replace H : ((ticklerref16_Leap.f a0).bind fun t284 => (if (t283 == t284) = true then (if t245 = t247 then ((ticklerlaw16_num.f t246).bind fun t285 => (if t285 = t248 then (if t249 = t251 then ((ticklerlaw16_num.f t250).bind fun t286 => (if t286 = t252 then (if t253 = t257 then (if t254 = t258 then (if t255 = t259 then ((ticklerlaw16_num.f t256).bind fun t287 => (if t287 = t260 then (if (t261 == t270 && (t262 == t271 && (t263 == t272 && (t264 == t273 && (t265 == t274 && (t266 == t275 && (t267 == t276))))))) = true then ((ticklerlaw16_num.f t268).bind fun t288 => (if t288 = t277 then (if t279.toList = t281.toList then ((ticklerlaw16_num.f t280).bind fun t289 => (if t289 = t282 then ((ticklerlaw16_alive.f k).bind fun t290 => (some t290)) else (some false))) else (some false)) else (some false))) else (some false)) else (some false))) else (some false)) else (some false)) else (some false)) else (some false))) else (some false)) else (some false))) else (some false)) else (some false))) = some true := H
  have A15 := Aside0.mk A150
  clear A150
  replace H := Option.bind_eq_some_iff.mp H
  obtain ⟨t284, A160, H⟩ := H
  replace H : (if (t283 == t284) = true then (if t245 = t247 then ((ticklerlaw16_num.f t246).bind fun t285 => (if t285 = t248 then (if t249 = t251 then ((ticklerlaw16_num.f t250).bind fun t286 => (if t286 = t252 then (if t253 = t257 then (if t254 = t258 then (if t255 = t259 then ((ticklerlaw16_num.f t256).bind fun t287 => (if t287 = t260 then (if (t261 == t270 && (t262 == t271 && (t263 == t272 && (t264 == t273 && (t265 == t274 && (t266 == t275 && (t267 == t276))))))) = true then ((ticklerlaw16_num.f t268).bind fun t288 => (if t288 = t277 then (if t279.toList = t281.toList then ((ticklerlaw16_num.f t280).bind fun t289 => (if t289 = t282 then ((ticklerlaw16_alive.f k).bind fun t290 => (some t290)) else (some false))) else (some false)) else (some false))) else (some false)) else (some false))) else (some false)) else (some false)) else (some false)) else (some false))) else (some false)) else (some false))) else (some false)) else (some false)) = some true := H
  have A16 := Aside0.mk A160
  clear A160
  by_cases c17 : (t283 == t284) = true
  · rw [if_pos c17] at H
    have c17b0 : (t283 == t284) = true := c17
    (try (have c17b1 : decide (t283 = t284) = true := by simpa using c17))
    (try (have c17b2 : (t283 == t284) = true := by simpa using c17))
    clear c17
    by_cases c18 : t245 = t247
    · rw [if_pos c18] at H
      have c18b0 : (t245 == t247) = true := beq_iff_eq.mpr c18
      have c18b1 : (t245 != t247) = false := bne_eq_false_iff_eq.mpr c18
      clear c18
      replace H := Option.bind_eq_some_iff.mp H
      obtain ⟨t285, A190, H⟩ := H
      replace H : (if t285 = t248 then (if t249 = t251 then ((ticklerlaw16_num.f t250).bind fun t286 => (if t286 = t252 then (if t253 = t257 then (if t254 = t258 then (if t255 = t259 then ((ticklerlaw16_num.f t256).bind fun t287 => (if t287 = t260 then (if (t261 == t270 && (t262 == t271 && (t263 == t272 && (t264 == t273 && (t265 == t274 && (t266 == t275 && (t267 == t276))))))) = true then ((ticklerlaw16_num.f t268).bind fun t288 => (if t288 = t277 then (if t279.toList = t281.toList then ((ticklerlaw16_num.f t280).bind fun t289 => (if t289 = t282 then ((ticklerlaw16_alive.f k).bind fun t290 => (some t290)) else (some false))) else (some false)) else (some false))) else (some false)) else (some false))) else (some false)) else (some false)) else (some false)) else (some false))) else (some false)) else (some false)) = some true := H
      have A19 := Aside0.mk A190
      clear A190
      by_cases c20 : t285 = t248
      · rw [if_pos c20] at H
        have c20b0 : (t285 == t248) = true := beq_iff_eq.mpr c20
        have c20b1 : (t285 != t248) = false := bne_eq_false_iff_eq.mpr c20
        clear c20
        by_cases c21 : t249 = t251
        · rw [if_pos c21] at H
          have c21b0 : (t249 == t251) = true := beq_iff_eq.mpr c21
          have c21b1 : (t249 != t251) = false := bne_eq_false_iff_eq.mpr c21
          clear c21
          replace H := Option.bind_eq_some_iff.mp H
          obtain ⟨t286, A220, H⟩ := H
          replace H : (if t286 = t252 then (if t253 = t257 then (if t254 = t258 then (if t255 = t259 then ((ticklerlaw16_num.f t256).bind fun t287 => (if t287 = t260 then (if (t261 == t270 && (t262 == t271 && (t263 == t272 && (t264 == t273 && (t265 == t274 && (t266 == t275 && (t267 == t276))))))) = true then ((ticklerlaw16_num.f t268).bind fun t288 => (if t288 = t277 then (if t279.toList = t281.toList then ((ticklerlaw16_num.f t280).bind fun t289 => (if t289 = t282 then ((ticklerlaw16_alive.f k).bind fun t290 => (some t290)) else (some false))) else (some false)) else (some false))) else (some false)) else (some false))) else (some false)) else (some false)) else (some false)) else (some false)) = some true := H
          have A22 := Aside0.mk A220
          clear A220
          by_cases c23 : t286 = t252
          · rw [if_pos c23] at H
            have c23b0 : (t286 == t252) = true := beq_iff_eq.mpr c23
            have c23b1 : (t286 != t252) = false := bne_eq_false_iff_eq.mpr c23
            clear c23
            by_cases c24 : t253 = t257
            · rw [if_pos c24] at H
              have c24b0 : (t253 == t257) = true := beq_iff_eq.mpr c24
              have c24b1 : (t253 != t257) = false := bne_eq_false_iff_eq.mpr c24
              clear c24
              by_cases c25 : t254 = t258
              · rw [if_pos c25] at H
                have c25b0 : (t254 == t258) = true := beq_iff_eq.mpr c25
                have c25b1 : (t254 != t258) = false := bne_eq_false_iff_eq.mpr c25
                clear c25
                by_cases c26 : t255 = t259
                · rw [if_pos c26] at H
                  have c26b0 : (t255 == t259) = true := beq_iff_eq.mpr c26
                  have c26b1 : (t255 != t259) = false := bne_eq_false_iff_eq.mpr c26
                  clear c26
                  replace H := Option.bind_eq_some_iff.mp H
                  obtain ⟨t287, A270, H⟩ := H
                  replace H : (if t287 = t260 then (if (t261 == t270 && (t262 == t271 && (t263 == t272 && (t264 == t273 && (t265 == t274 && (t266 == t275 && (t267 == t276))))))) = true then ((ticklerlaw16_num.f t268).bind fun t288 => (if t288 = t277 then (if t279.toList = t281.toList then ((ticklerlaw16_num.f t280).bind fun t289 => (if t289 = t282 then ((ticklerlaw16_alive.f k).bind fun t290 => (some t290)) else (some false))) else (some false)) else (some false))) else (some false)) else (some false)) = some true := H
                  have A27 := Aside0.mk A270
                  clear A270
                  by_cases c28 : t287 = t260
                  · rw [if_pos c28] at H
                    have c28b0 : (t287 == t260) = true := beq_iff_eq.mpr c28
                    have c28b1 : (t287 != t260) = false := bne_eq_false_iff_eq.mpr c28
                    clear c28
                    by_cases c29 : (t261 == t270 && (t262 == t271 && (t263 == t272 && (t264 == t273 && (t265 == t274 && (t266 == t275 && (t267 == t276))))))) = true
                    · rw [if_pos c29] at H
                      have c29b0 : (t261 == t270 && (t262 == t271 && (t263 == t272 && (t264 == t273 && (t265 == t274 && (t266 == t275 && (t267 == t276))))))) = true := c29
                      (try (have c29b1 : decide (t261 = t270 && (t262 == t271 && (t263 == t272 && (t264 == t273 && (t265 == t274 && (t266 == t275 && (t267 == t276))))))) = true := by simpa using c29))
                      (try (have c29b2 : (t261 == t270 && (t262 == t271 && (t263 == t272 && (t264 == t273 && (t265 == t274 && (t266 == t275 && (t267 == t276))))))) = true := by simpa using c29))
                      clear c29
                      replace H := Option.bind_eq_some_iff.mp H
                      obtain ⟨t288, A300, H⟩ := H
                      replace H : (if t288 = t277 then (if t279.toList = t281.toList then ((ticklerlaw16_num.f t280).bind fun t289 => (if t289 = t282 then ((ticklerlaw16_alive.f k).bind fun t290 => (some t290)) else (some false))) else (some false)) else (some false)) = some true := H
                      have A30 := Aside0.mk A300
                      clear A300
                      by_cases c31 : t288 = t277
                      · rw [if_pos c31] at H
                        have c31b0 : (t288 == t277) = true := beq_iff_eq.mpr c31
                        have c31b1 : (t288 != t277) = false := bne_eq_false_iff_eq.mpr c31
                        clear c31
                        by_cases c32 : t279.toList = t281.toList
                        · rw [if_pos c32] at H
                          have c32b0 : (t279.toList == t281.toList) = true := beq_iff_eq.mpr c32
                          have c32b1 : (t279.toList != t281.toList) = false := bne_eq_false_iff_eq.mpr c32
                          clear c32
                          replace H := Option.bind_eq_some_iff.mp H
                          obtain ⟨t289, A330, H⟩ := H
                          replace H : (if t289 = t282 then ((ticklerlaw16_alive.f k).bind fun t290 => (some t290)) else (some false)) = some true := H
                          have A33 := Aside0.mk A330
                          clear A330
                          by_cases c34 : t289 = t282
                          · rw [if_pos c34] at H
                            have c34b0 : (t289 == t282) = true := beq_iff_eq.mpr c34
                            have c34b1 : (t289 != t282) = false := bne_eq_false_iff_eq.mpr c34
                            clear c34
                            replace H := Option.bind_eq_some_iff.mp H
                            obtain ⟨t290, A350, H⟩ := H
                            replace H : (some t290) = some true := H
                            have A35 := Aside0.mk A350
                            clear A350
                            obtain rfl := Option.some.inj H
                            go_enter Try.func9, Try.ntmps9
                            go_wp2_with (first | ((with_reducible refine gate_callee (f := 14) rfl ?_); refine goesL_ (some 36) rfl rfl Try.func14 (by kernel_rfl) rfl #[.int .i64 a0, .int .i64 a1] rfl (by (try simp only [List.map_toArray, List.map_cons, List.map_nil]); first | done | rfl | (simp only [List.length_drop, List.length_take]; rfl)) ?_; (with_reducible refine (civil_Days.calls k a0 a1 t245 t246 _ A5.out).mono ?_); rintro e w' ⟨rfl, ⟨nd, rfl⟩⟩; refine ⟨_, rfl, ?_⟩) | ((with_reducible refine gate_callee (f := 19) rfl ?_); refine goesL_ (some 42) rfl rfl Try.func19 (by kernel_rfl) rfl #[.int .i64 a0, .int .i64 a1] rfl (by (try simp only [List.map_toArray, List.map_cons, List.map_nil]); first | done | rfl | (simp only [List.length_drop, List.length_take]; rfl)) ?_; (with_reducible refine (ticklerref16_Days.calls k a0 a1 t247 t248 _ A6.out).mono ?_); rintro e w' ⟨rfl, ⟨nd, rfl⟩⟩; refine ⟨_, rfl, ?_⟩) | ((with_reducible refine gate_callee (f := 15) rfl ?_); refine goesL_ (some 49) rfl rfl Try.func15 (by kernel_rfl) rfl #[.int .i64 a0, .int .i64 a1, .int .i64 a2] rfl (by (try simp only [List.map_toArray, List.map_cons, List.map_nil]); first | done | rfl | (simp only [List.length_drop, List.length_take]; rfl)) ?_; (with_reducible refine (civil_Day.calls k a0 a1 a2 t249 t250 _ A7.out).mono ?_); rintro e w' ⟨rfl, ⟨nd, rfl⟩⟩; refine ⟨_, rfl, ?_⟩) | ((with_reducible refine gate_callee (f := 20) rfl ?_); refine goesL_ (some 56) rfl rfl Try.func20 (by kernel_rfl) rfl #[.int .i64 a0, .int .i64 a1, .int .i64 a2] rfl (by (try simp only [List.map_toArray, List.map_cons, List.map_nil]); first | done | rfl | (simp only [List.length_drop, List.length_take]; rfl)) ?_; (with_reducible refine (ticklerref16_Day.calls k a0 a1 a2 t251 t252 _ A8.out).mono ?_); rintro e w' ⟨rfl, ⟨nd, rfl⟩⟩; refine ⟨_, rfl, ?_⟩) | ((with_reducible refine gate_callee (f := 21) rfl ?_); refine goesL_ (some 61) rfl rfl Try.func21 (by kernel_rfl) rfl #[.int .i64 a2] rfl (by (try simp only [List.map_toArray, List.map_cons, List.map_nil]); first | done | rfl | (simp only [List.length_drop, List.length_take]; rfl)) ?_; (with_reducible refine (civil_Date.calls k a2 t253 t254 t255 t256 _ A9.out).mono ?_); rintro e w' ⟨rfl, ⟨nd, rfl⟩⟩; refine ⟨_, rfl, ?_⟩) | ((with_reducible refine gate_callee (f := 22) rfl ?_); refine goesL_ (some 68) rfl rfl Try.func22 (by kernel_rfl) rfl #[.int .i64 a2] rfl (by (try simp only [List.map_toArray, List.map_cons, List.map_nil]); first | done | rfl | (simp only [List.length_drop, List.length_take]; rfl)) ?_; (with_reducible refine (ticklerref16_Date.calls k a2 t257 t258 t259 t260 _ A10.out).mono ?_); rintro e w' ⟨rfl, ⟨nd, rfl⟩⟩; refine ⟨_, rfl, ?_⟩) | ((with_reducible refine gate_callee (f := 13) rfl ?_); refine goesL_ (some 75) rfl rfl Try.func13 (by kernel_rfl) rfl #[.int .i64 a3] rfl (by (try simp only [List.map_toArray, List.map_cons, List.map_nil]); first | done | rfl | (simp only [List.length_drop, List.length_take]; rfl)) ?_; (with_reducible refine (civil_Split.calls k a3 t261 t262 t263 t264 t265 t266 t267 t268 _ A11.out).mono ?_); rintro e w36 ⟨rfl, hb⟩; refine ⟨_, rfl, ?_⟩; have n0_ := Aside0.mk (below_step (by repeat (first | (with_reducible first | exact HB.out | apply below_alloc | apply pw_below_drewN | apply below_drew1) | exact HB.out)) hb); clear HB; have HB := n0_; clear n0_; (try clear hb); (try clear hb2); (try clear hk); (try clear hi)) | ((with_reducible refine gate_dst (N := 25) rfl ?_); refine box_event ?hg (N := 25) ?hd (cs := #[.int .i64 0, .int .i64 0, .int .i64 0, .int .i64 0, .int .i64 0, .int .i64 0, .int .i64 0]) (t := 29) ?hr ?_; (case hd => rfl); (case hg => rfl); (case hr => first | (go_simp; done) | (go_simp; rfl)); intro gb269 hg w37 hbox hb; have n0_ := Aside0.mk (below_step (by repeat (first | (with_reducible first | exact HB.out | apply below_alloc | apply pw_below_drewN | apply below_drew1) | exact HB.out)) hb); have n1_ := Aside0.mk (hbox); have n2_ := Aside0.mk ((by rw [hg]; exact (below_size (by repeat (first | (with_reducible first | exact HB.out | apply below_alloc | apply pw_below_drewN | apply below_drew1) | exact HB.out))) : w.heap.size ≤ gb269)); have n3_ := Aside0.mk ((by rw [hg]; exact (below_size (by repeat (first | (with_reducible first | exact HB.out | apply below_alloc | apply pw_below_drewN | apply below_drew1) | exact HB.out))) : w.heap.size ≤ gb269)); clear HB; have HB := n0_; have BK269 := n1_; have GW269 := n2_; have GE269 := n3_; clear n0_ n1_ n2_ n3_; clear hb hbox hg; have hcz38_0 : w37.cell? ⟨gb269, 0, none⟩ = some (.int .i64 0) := (blk_cell BK269.out 0).trans rfl; have hcz38_1 : w37.cell? ⟨gb269, 1, none⟩ = some (.int .i64 0) := (blk_cell BK269.out 1).trans rfl; have hcz38_2 : w37.cell? ⟨gb269, 2, none⟩ = some (.int .i64 0) := (blk_cell BK269.out 2).trans rfl; have hcz38_3 : w37.cell? ⟨gb269, 3, none⟩ = some (.int .i64 0) := (blk_cell BK269.out 3).trans rfl; have hcz38_4 : w37.cell? ⟨gb269, 4, none⟩ = some (.int .i64 0) := (blk_cell BK269.out 4).trans rfl; have hcz38_5 : w37.cell? ⟨gb269, 5, none⟩ = some (.int .i64 0) := (blk_cell BK269.out 5).trans rfl; have hcz38_6 : w37.cell? ⟨gb269, 6, none⟩ = some (.int .i64 0) := (blk_cell BK269.out 6).trans rfl; have hfz38_0 := blk_frozen BK269.out 0; have hfz38_1 := blk_frozen BK269.out 1; have hfz38_2 := blk_frozen BK269.out 2; have hfz38_3 := blk_frozen BK269.out 3; have hfz38_4 := blk_frozen BK269.out 4; have hfz38_5 := blk_frozen BK269.out 5; have hfz38_6 := blk_frozen BK269.out 6) | ((with_reducible refine gate_callee (f := 23) rfl ?_); refine goesL_ (some 80) rfl rfl Try.func23 (by kernel_rfl) rfl #[.int .i64 a3] rfl (by (try simp only [List.map_toArray, List.map_cons, List.map_nil]); first | done | rfl | (simp only [List.length_drop, List.length_take]; rfl)) ?_; (with_reducible refine (ticklerref16_Split.calls k a3 t270 t271 t272 t273 t274 t275 t276 t277 _ A12.out).mono ?_); rintro e w39 ⟨rfl, hb⟩; refine ⟨_, rfl, ?_⟩; have n0_ := Aside0.mk (blk_below (g := gb269) (o := .cells #[.int .i64 t261, .int .i64 t262, .int .i64 t263, .int .i64 t264, .int .i64 t265, .int .i64 t266, .int .i64 t267] 29 (0, 0)) (by (with_reducible repeat (first | refine blk_drewN ?_ _ | refine blk_drew ?_ | refine blk_alloc ?_ _)); refine blk_put (cs := #[.int .i64 t261, .int .i64 t262, .int .i64 t263, .int .i64 t264, .int .i64 t265, .int .i64 t266, .int .i64 0]) ?_ 6 _ rfl; (with_reducible repeat (first | refine blk_drewN ?_ _ | refine blk_drew ?_ | refine blk_alloc ?_ _)); refine blk_put (cs := #[.int .i64 t261, .int .i64 t262, .int .i64 t263, .int .i64 t264, .int .i64 t265, .int .i64 0, .int .i64 0]) ?_ 5 _ rfl; (with_reducible repeat (first | refine blk_drewN ?_ _ | refine blk_drew ?_ | refine blk_alloc ?_ _)); refine blk_put (cs := #[.int .i64 t261, .int .i64 t262, .int .i64 t263, .int .i64 t264, .int .i64 0, .int .i64 0, .int .i64 0]) ?_ 4 _ rfl; (with_reducible repeat (first | refine blk_drewN ?_ _ | refine blk_drew ?_ | refine blk_alloc ?_ _)); refine blk_put (cs := #[.int .i64 t261, .int .i64 t262, .int .i64 t263, .int .i64 0, .int .i64 0, .int .i64 0, .int .i64 0]) ?_ 3 _ rfl; (with_reducible repeat (first | refine blk_drewN ?_ _ | refine blk_drew ?_ | refine blk_alloc ?_ _)); refine blk_put (cs := #[.int .i64 t261, .int .i64 t262, .int .i64 0, .int .i64 0, .int .i64 0, .int .i64 0, .int .i64 0]) ?_ 2 _ rfl; (with_reducible repeat (first | refine blk_drewN ?_ _ | refine blk_drew ?_ | refine blk_alloc ?_ _)); refine blk_put (cs := #[.int .i64 t261, .int .i64 0, .int .i64 0, .int .i64 0, .int .i64 0, .int .i64 0, .int .i64 0]) ?_ 1 _ rfl; (with_reducible repeat (first | refine blk_drewN ?_ _ | refine blk_drew ?_ | refine blk_alloc ?_ _)); refine blk_put (cs := #[.int .i64 0, .int .i64 0, .int .i64 0, .int .i64 0, .int .i64 0, .int .i64 0, .int .i64 0]) ?_ 0 _ rfl; (with_reducible repeat (first | refine blk_drewN ?_ _ | refine blk_drew ?_ | refine blk_alloc ?_ _)); exact BK269.out) hb); have n1_ := Aside0.mk (below_step (by repeat (first | (with_reducible first | exact HB.out | apply below_alloc | apply pw_below_drewN | apply below_drew1 | refine below_set ?_ GE269.out) | exact HB.out)) hb); clear BK269; clear HB; have BK269 := n0_; have HB := n1_; clear n0_ n1_; (try clear hb); (try clear hb2); (try clear hk); (try clear hi)) | ((with_reducible refine gate_dst (N := 27) rfl ?_); refine box_event ?hg (N := 27) ?hd (cs := #[.int .i64 0, .int .i64 0, .int .i64 0, .int .i64 0, .int .i64 0, .int .i64 0, .int .i64 0]) (t := 37) ?hr ?_; (case hd => rfl); (case hg => rfl); (case hr => first | (go_simp; done) | (go_simp; rfl)); intro gb278 hg w40 hbox hb; have n0_ := Aside0.mk (blk_below (g := gb269) (o := .cells #[.int .i64 t261, .int .i64 t262, .int .i64 t263, .int .i64 t264, .int .i64 t265, .int .i64 t266, .int .i64 t267] 29 (0, 0)) (by (with_reducible repeat (first | refine blk_drewN ?_ _ | refine blk_drew ?_ | refine blk_alloc ?_ _)); exact BK269.out) hb); have n1_ := Aside0.mk (below_step (by repeat (first | (with_reducible first | exact HB.out | apply below_alloc | apply pw_below_drewN | apply below_drew1 | refine below_set ?_ GE269.out) | exact HB.out)) hb); have n2_ := Aside0.mk (hbox); have n3_ := Aside0.mk ((by rw [hg]; exact (below_size (by repeat (first | (with_reducible first | exact HB.out | apply below_alloc | apply pw_below_drewN | apply below_drew1 | refine below_set ?_ GE269.out) | exact HB.out))) : w.heap.size ≤ gb278)); have n4_ := Aside0.mk ((by rw [hg]; exact (below_size (by repeat (first | (with_reducible first | exact HB.out | apply below_alloc | apply pw_below_drewN | apply below_drew1 | refine below_set ?_ GE269.out) | exact HB.out))) : w.heap.size ≤ gb278)); have n5_ := Aside0.mk ((by rw [hg]; exact Nat.ne_of_lt (blk_lt (g := gb269) (o := .cells #[.int .i64 t261, .int .i64 t262, .int .i64 t263, .int .i64 t264, .int .i64 t265, .int .i64 t266, .int .i64 t267] 29 (0, 0)) (by (with_reducible repeat (first | refine blk_drewN ?_ _ | refine blk_drew ?_ | refine blk_alloc ?_ _)); exact BK269.out)) : gb269 ≠ gb278)); have n6_ := Aside0.mk ((by rw [hg]; exact Nat.ne_of_gt (blk_lt (g := gb269) (o := .cells #[.int .i64 t261, .int .i64 t262, .int .i64 t263, .int .i64 t264, .int .i64 t265, .int .i64 t266, .int .i64 t267] 29 (0, 0)) (by (with_reducible repeat (first | refine blk_drewN ?_ _ | refine blk_drew ?_ | refine blk_alloc ?_ _)); exact BK269.out)) : gb278 ≠ gb269)); clear BK269; clear HB; have BK269 := n0_; have HB := n1_; have BK278 := n2_; have GW278 := n3_; have GE278 := n4_; have NB269_278 := n5_; have NB278_269 := n6_; clear n0_ n1_ n2_ n3_ n4_ n5_ n6_; clear hb hbox hg; have hnb41 := NB278_269.out; have hnc41 := NB269_278.out; have hcz42_0 : w40.cell? ⟨gb278, 0, none⟩ = some (.int .i64 0) := (blk_cell BK278.out 0).trans rfl; have hcz42_1 : w40.cell? ⟨gb278, 1, none⟩ = some (.int .i64 0) := (blk_cell BK278.out 1).trans rfl; have hcz42_2 : w40.cell? ⟨gb278, 2, none⟩ = some (.int .i64 0) := (blk_cell BK278.out 2).trans rfl; have hcz42_3 : w40.cell? ⟨gb278, 3, none⟩ = some (.int .i64 0) := (blk_cell BK278.out 3).trans rfl; have hcz42_4 : w40.cell? ⟨gb278, 4, none⟩ = some (.int .i64 0) := (blk_cell BK278.out 4).trans rfl; have hcz42_5 : w40.cell? ⟨gb278, 5, none⟩ = some (.int .i64 0) := (blk_cell BK278.out 5).trans rfl; have hcz42_6 : w40.cell? ⟨gb278, 6, none⟩ = some (.int .i64 0) := (blk_cell BK278.out 6).trans rfl; have hfz42_0 := blk_frozen BK278.out 0; have hfz42_1 := blk_frozen BK278.out 1; have hfz42_2 := blk_frozen BK278.out 2; have hfz42_3 := blk_frozen BK278.out 3; have hfz42_4 := blk_frozen BK278.out 4; have hfz42_5 := blk_frozen BK278.out 5; have hfz42_6 := blk_frozen BK278.out 6) | ((with_reducible refine gate_callee (f := 11) rfl ?_); refine goesL_ (some 85) rfl rfl Try.func11 (by kernel_rfl) rfl #[.int .i64 a3] rfl (by (try simp only [List.map_toArray, List.map_cons, List.map_nil]); first | done | rfl | (simp only [List.length_drop, List.length_take]; rfl)) ?_; (with_reducible refine (civil_Text.calls k a3 t279 t280 _ A13.out).mono ?_); rintro e w43 ⟨rfl, hb⟩; refine ⟨_, rfl, ?_⟩; have n0_ := Aside0.mk (blk_below (g := gb269) (o := .cells #[.int .i64 t261, .int .i64 t262, .int .i64 t263, .int .i64 t264, .int .i64 t265, .int .i64 t266, .int .i64 t267] 29 (0, 0)) (by (with_reducible repeat (first | refine blk_drewN ?_ _ | refine blk_drew ?_ | refine blk_alloc ?_ _)); refine blk_far ?_ NB269_278.out _; (with_reducible repeat (first | refine blk_drewN ?_ _ | refine blk_drew ?_ | refine blk_alloc ?_ _)); refine blk_far ?_ NB269_278.out _; (with_reducible repeat (first | refine blk_drewN ?_ _ | refine blk_drew ?_ | refine blk_alloc ?_ _)); refine blk_far ?_ NB269_278.out _; (with_reducible repeat (first | refine blk_drewN ?_ _ | refine blk_drew ?_ | refine blk_alloc ?_ _)); refine blk_far ?_ NB269_278.out _; (with_reducible repeat (first | refine blk_drewN ?_ _ | refine blk_drew ?_ | refine blk_alloc ?_ _)); refine blk_far ?_ NB269_278.out _; (with_reducible repeat (first | refine blk_drewN ?_ _ | refine blk_drew ?_ | refine blk_alloc ?_ _)); refine blk_far ?_ NB269_278.out _; (with_reducible repeat (first | refine blk_drewN ?_ _ | refine blk_drew ?_ | refine blk_alloc ?_ _)); refine blk_far ?_ NB269_278.out _; (with_reducible repeat (first | refine blk_drewN ?_ _ | refine blk_drew ?_ | refine blk_alloc ?_ _)); exact BK269.out) hb); have n1_ := Aside0.mk (blk_below (g := gb278) (o := .cells #[.int .i64 t270, .int .i64 t271, .int .i64 t272, .int .i64 t273, .int .i64 t274, .int .i64 t275, .int .i64 t276] 37 (0, 0)) (by (with_reducible repeat (first | refine blk_drewN ?_ _ | refine blk_drew ?_ | refine blk_alloc ?_ _)); refine blk_put (cs := #[.int .i64 t270, .int .i64 t271, .int .i64 t272, .int .i64 t273, .int .i64 t274, .int .i64 t275, .int .i64 0]) ?_ 6 _ rfl; (with_reducible repeat (first | refine blk_drewN ?_ _ | refine blk_drew ?_ | refine blk_alloc ?_ _)); refine blk_put (cs := #[.int .i64 t270, .int .i64 t271, .int .i64 t272, .int .i64 t273, .int .i64 t274, .int .i64 0, .int .i64 0]) ?_ 5 _ rfl; (with_reducible repeat (first | refine blk_drewN ?_ _ | refine blk_drew ?_ | refine blk_alloc ?_ _)); refine blk_put (cs := #[.int .i64 t270, .int .i64 t271, .int .i64 t272, .int .i64 t273, .int .i64 0, .int .i64 0, .int .i64 0]) ?_ 4 _ rfl; (with_reducible repeat (first | refine blk_drewN ?_ _ | refine blk_drew ?_ | refine blk_alloc ?_ _)); refine blk_put (cs := #[.int .i64 t270, .int .i64 t271, .int .i64 t272, .int .i64 0, .int .i64 0, .int .i64 0, .int .i64 0]) ?_ 3 _ rfl; (with_reducible repeat (first | refine blk_drewN ?_ _ | refine blk_drew ?_ | refine blk_alloc ?_ _)); refine blk_put (cs := #[.int .i64 t270, .int .i64 t271, .int .i64 0, .int .i64 0, .int .i64 0, .int .i64 0, .int .i64 0]) ?_ 2 _ rfl; (with_reducible repeat (first | refine blk_drewN ?_ _ | refine blk_drew ?_ | refine blk_alloc ?_ _)); refine blk_put (cs := #[.int .i64 t270, .int .i64 0, .int .i64 0, .int .i64 0, .int .i64 0, .int .i64 0, .int .i64 0]) ?_ 1 _ rfl; (with_reducible repeat (first | refine blk_drewN ?_ _ | refine blk_drew ?_ | refine blk_alloc ?_ _)); refine blk_put (cs := #[.int .i64 0, .int .i64 0, .int .i64 0, .int .i64 0, .int .i64 0, .int .i64 0, .int .i64 0]) ?_ 0 _ rfl; (with_reducible repeat (first | refine blk_drewN ?_ _ | refine blk_drew ?_ | refine blk_alloc ?_ _)); exact BK278.out) hb); have n2_ := Aside0.mk (below_step (by repeat (first | (with_reducible first | exact HB.out | apply below_alloc | apply pw_below_drewN | apply below_drew1 | refine below_set ?_ GE269.out | refine below_set ?_ GE278.out) | exact HB.out)) hb); clear BK269; clear BK278; clear HB; have BK269 := n0_; have BK278 := n1_; have HB := n2_; clear n0_ n1_ n2_; (try clear hb); (try clear hb2); (try clear hk); (try clear hi)) | ((with_reducible refine gate_callee (f := 24) rfl ?_); refine goesL_ (some 90) rfl rfl Try.func24 (by kernel_rfl) rfl #[.int .i64 a3] rfl (by (try simp only [List.map_toArray, List.map_cons, List.map_nil]); first | done | rfl | (simp only [List.length_drop, List.length_take]; rfl)) ?_; (with_reducible refine (ticklerref16_Text.calls k a3 t281 t282 _ A14.out).mono ?_); rintro e w44 ⟨rfl, hb⟩; refine ⟨_, rfl, ?_⟩; have n0_ := Aside0.mk (blk_below (g := gb269) (o := .cells #[.int .i64 t261, .int .i64 t262, .int .i64 t263, .int .i64 t264, .int .i64 t265, .int .i64 t266, .int .i64 t267] 29 (0, 0)) (by (with_reducible repeat (first | refine blk_drewN ?_ _ | refine blk_drew ?_ | refine blk_alloc ?_ _)); exact BK269.out) hb); have n1_ := Aside0.mk (blk_below (g := gb278) (o := .cells #[.int .i64 t270, .int .i64 t271, .int .i64 t272, .int .i64 t273, .int .i64 t274, .int .i64 t275, .int .i64 t276] 37 (0, 0)) (by (with_reducible repeat (first | refine blk_drewN ?_ _ | refine blk_drew ?_ | refine blk_alloc ?_ _)); exact BK278.out) hb); have n2_ := Aside0.mk (below_step (by repeat (first | (with_reducible first | exact HB.out | apply below_alloc | apply pw_below_drewN | apply below_drew1 | refine below_set ?_ GE269.out | refine below_set ?_ GE278.out) | exact HB.out)) hb); clear BK269; clear BK278; clear HB; have BK269 := n0_; have BK278 := n1_; have HB := n2_; clear n0_ n1_ n2_; (try clear hb); (try clear hb2); (try clear hk); (try clear hi)) | ((with_reducible refine gate_callee (f := 16) rfl ?_); refine goesL_ (some 94) rfl rfl Try.func16 (by kernel_rfl) rfl #[.int .i64 a0] rfl (by (try simp only [List.map_toArray, List.map_cons, List.map_nil]); first | done | rfl | (simp only [List.length_drop, List.length_take]; rfl)) ?_; (with_reducible refine (civil_Leap.calls a0 t283 _ A15.out).mono ?_); rintro e w' ⟨rfl, ⟨nd, rfl⟩⟩; refine ⟨_, rfl, ?_⟩) | ((with_reducible refine gate_callee (f := 25) rfl ?_); refine goesL_ (some 96) rfl rfl Try.func25 (by kernel_rfl) rfl #[.int .i64 a0] rfl (by (try simp only [List.map_toArray, List.map_cons, List.map_nil]); first | done | rfl | (simp only [List.length_drop, List.length_take]; rfl)) ?_; (with_reducible refine (ticklerref16_Leap.calls a0 t284 _ A16.out).mono ?_); rintro e w' ⟨rfl, ⟨nd, rfl⟩⟩; refine ⟨_, rfl, ?_⟩) | (go_at_call 12; (with_reducible refine (ticklerlaw16_num.calls t246 t285 _ A19.out).mono ?_); rintro e w' ⟨rfl, ⟨nd, rfl⟩⟩) | (go_at_call 12; (with_reducible refine (ticklerlaw16_num.calls t250 t286 _ A22.out).mono ?_); rintro e w' ⟨rfl, ⟨nd, rfl⟩⟩) | (go_at_call 12; (with_reducible refine (ticklerlaw16_num.calls t256 t287 _ A27.out).mono ?_); rintro e w' ⟨rfl, ⟨nd, rfl⟩⟩; have hcz45_0 : w44.cell? ⟨gb269, 0, none⟩ = some (.int .i64 t261) := (blk_cell BK269.out 0).trans rfl; have hcz45_1 : w44.cell? ⟨gb269, 1, none⟩ = some (.int .i64 t262) := (blk_cell BK269.out 1).trans rfl; have hcz45_2 : w44.cell? ⟨gb269, 2, none⟩ = some (.int .i64 t263) := (blk_cell BK269.out 2).trans rfl; have hcz45_3 : w44.cell? ⟨gb269, 3, none⟩ = some (.int .i64 t264) := (blk_cell BK269.out 3).trans rfl; have hcz45_4 : w44.cell? ⟨gb269, 4, none⟩ = some (.int .i64 t265) := (blk_cell BK269.out 4).trans rfl; have hcz45_5 : w44.cell? ⟨gb269, 5, none⟩ = some (.int .i64 t266) := (blk_cell BK269.out 5).trans rfl; have hcz45_6 : w44.cell? ⟨gb269, 6, none⟩ = some (.int .i64 t267) := (blk_cell BK269.out 6).trans rfl; have hfz45_0 := blk_frozen BK269.out 0; have hfz45_1 := blk_frozen BK269.out 1; have hfz45_2 := blk_frozen BK269.out 2; have hfz45_3 := blk_frozen BK269.out 3; have hfz45_4 := blk_frozen BK269.out 4; have hfz45_5 := blk_frozen BK269.out 5; have hfz45_6 := blk_frozen BK269.out 6; have hcz46_0 : w44.cell? ⟨gb278, 0, none⟩ = some (.int .i64 t270) := (blk_cell BK278.out 0).trans rfl; have hcz46_1 : w44.cell? ⟨gb278, 1, none⟩ = some (.int .i64 t271) := (blk_cell BK278.out 1).trans rfl; have hcz46_2 : w44.cell? ⟨gb278, 2, none⟩ = some (.int .i64 t272) := (blk_cell BK278.out 2).trans rfl; have hcz46_3 : w44.cell? ⟨gb278, 3, none⟩ = some (.int .i64 t273) := (blk_cell BK278.out 3).trans rfl; have hcz46_4 : w44.cell? ⟨gb278, 4, none⟩ = some (.int .i64 t274) := (blk_cell BK278.out 4).trans rfl; have hcz46_5 : w44.cell? ⟨gb278, 5, none⟩ = some (.int .i64 t275) := (blk_cell BK278.out 5).trans rfl; have hcz46_6 : w44.cell? ⟨gb278, 6, none⟩ = some (.int .i64 t276) := (blk_cell BK278.out 6).trans rfl; have hfz46_0 := blk_frozen BK278.out 0; have hfz46_1 := blk_frozen BK278.out 1; have hfz46_2 := blk_frozen BK278.out 2; have hfz46_3 := blk_frozen BK278.out 3; have hfz46_4 := blk_frozen BK278.out 4; have hfz46_5 := blk_frozen BK278.out 5; have hfz46_6 := blk_frozen BK278.out 6) | (go_at_call 12; (with_reducible refine (ticklerlaw16_num.calls t268 t288 _ A30.out).mono ?_); rintro e w' ⟨rfl, ⟨nd, rfl⟩⟩) | (go_at_call 12; (with_reducible refine (ticklerlaw16_num.calls t280 t289 _ A33.out).mono ?_); rintro e w' ⟨rfl, ⟨nd, rfl⟩⟩) | (go_at_call 10; (with_reducible refine (ticklerlaw16_alive.calls k  t290 _ A35.out).mono ?_); rintro e w47 ⟨rfl, hb⟩; have n0_ := Aside0.mk (blk_below (g := gb269) (o := .cells #[.int .i64 t261, .int .i64 t262, .int .i64 t263, .int .i64 t264, .int .i64 t265, .int .i64 t266, .int .i64 t267] 29 (0, 0)) (by (with_reducible repeat (first | refine blk_drewN ?_ _ | refine blk_drew ?_ | refine blk_alloc ?_ _)); exact BK269.out) hb); have n1_ := Aside0.mk (blk_below (g := gb278) (o := .cells #[.int .i64 t270, .int .i64 t271, .int .i64 t272, .int .i64 t273, .int .i64 t274, .int .i64 t275, .int .i64 t276] 37 (0, 0)) (by (with_reducible repeat (first | refine blk_drewN ?_ _ | refine blk_drew ?_ | refine blk_alloc ?_ _)); exact BK278.out) hb); have n2_ := Aside0.mk (below_step (by repeat (first | (with_reducible first | exact HB.out | apply below_alloc | apply pw_below_drewN | apply below_drew1 | refine below_set ?_ GE269.out | refine below_set ?_ GE278.out) | exact HB.out)) hb); clear BK269; clear BK278; clear HB; have BK269 := n0_; have BK278 := n1_; have HB := n2_; clear n0_ n1_ n2_; (try clear hb); (try clear hb2); (try clear hk); (try clear hi)))
                            have hq := c29b0
                            simp only [Bool.and_eq_true, beq_iff_eq] at hq
                            obtain ⟨q0, q1, q2, q3, q4, q5, q6⟩ := hq
                            have p0 := eq_true q0
                            have p1 := eq_true q1
                            have p2 := eq_true q2
                            have p3 := eq_true q3
                            have p4 := eq_true q4
                            have p5 := eq_true q5
                            have p6 := eq_true q6
                            clear q0 q1 q2 q3 q4 q5 q6 c29b0 c29b1 c29b2
                            have hd269_0 := (blk_cell BK269.out 0)
                            have hd269_1 := (blk_cell BK269.out 1)
                            have hd269_2 := (blk_cell BK269.out 2)
                            have hd269_3 := (blk_cell BK269.out 3)
                            have hd269_4 := (blk_cell BK269.out 4)
                            have hd269_5 := (blk_cell BK269.out 5)
                            have hd269_6 := (blk_cell BK269.out 6)
                            have hd278_0 := (blk_cell BK278.out 0)
                            have hd278_1 := (blk_cell BK278.out 1)
                            have hd278_2 := (blk_cell BK278.out 2)
                            have hd278_3 := (blk_cell BK278.out 3)
                            have hd278_4 := (blk_cell BK278.out 4)
                            have hd278_5 := (blk_cell BK278.out 5)
                            have hd278_6 := (blk_cell BK278.out 6)
                            simp only [List.getElem?_toArray, List.getElem?_cons_zero, List.getElem?_cons_succ] at hd269_0 hd269_1 hd269_2 hd269_3 hd269_4 hd269_5 hd269_6 hd278_0 hd278_1 hd278_2 hd278_3 hd278_4 hd278_5 hd278_6
                            refine (civil_Leap.calls _ _ _ A15.out).mono ?_
                            rintro e w45 ⟨rfl, ⟨n1, rfl⟩⟩
                            go_wp2_with fail
                            refine (ticklerref16_Leap.calls _ _ _ A16.out).mono ?_
                            rintro e w46 ⟨rfl, ⟨n2, rfl⟩⟩
                            go_wp2_with fail
                            refine (ticklerlaw16_num.calls _ _ _ A19.out).mono ?_
                            rintro e w50 ⟨rfl, ⟨m0, rfl⟩⟩
                            go_wp2_with fail
                            refine (ticklerlaw16_num.calls _ _ _ A22.out).mono ?_
                            rintro e w51 ⟨rfl, ⟨m1, rfl⟩⟩
                            go_wp2_with fail
                            refine (ticklerlaw16_num.calls _ _ _ A27.out).mono ?_
                            rintro e w52 ⟨rfl, ⟨m2, rfl⟩⟩
                            go_wp2_with fail
                            refine (ticklerlaw16_num.calls _ _ _ A30.out).mono ?_
                            rintro e w53 ⟨rfl, ⟨m3, rfl⟩⟩
                            go_wp2_with fail
                            refine (ticklerlaw16_num.calls _ _ _ A33.out).mono ?_
                            rintro e w54 ⟨rfl, ⟨m4, rfl⟩⟩
                            go_wp2_with fail
                            refine (ticklerlaw16_alive.calls _ _ _ A35.out).mono ?_
                            rintro e w56 ⟨rfl, hb⟩
                            go_wp2_with fail
                            go_ret
                            exact ⟨rfl, hb_ HB.out hb⟩
                          · rw [if_neg c34] at H
                            have c34b0 : (t289 == t282) = false := beq_eq_false_iff_ne.mpr c34
                            have c34b1 : (t289 != t282) = true := bne_iff_ne.mpr c34
                            cases H
                        · rw [if_neg c32] at H
                          have c32b0 : (t279.toList == t281.toList) = false := beq_eq_false_iff_ne.mpr c32
                          have c32b1 : (t279.toList != t281.toList) = true := bne_iff_ne.mpr c32
                          cases H
                      · rw [if_neg c31] at H
                        have c31b0 : (t288 == t277) = false := beq_eq_false_iff_ne.mpr c31
                        have c31b1 : (t288 != t277) = true := bne_iff_ne.mpr c31
                        cases H
                    · rw [if_neg c29] at H
                      have c29b0 : (t261 == t270 && (t262 == t271 && (t263 == t272 && (t264 == t273 && (t265 == t274 && (t266 == t275 && (t267 == t276))))))) = false := by simpa using c29
                      (try (have c29b1 : decide (t261 = t270 && (t262 == t271 && (t263 == t272 && (t264 == t273 && (t265 == t274 && (t266 == t275 && (t267 == t276))))))) = false := by simpa using c29))
                      (try (have c29b2 : (t261 == t270 && (t262 == t271 && (t263 == t272 && (t264 == t273 && (t265 == t274 && (t266 == t275 && (t267 == t276))))))) = false := by simpa using c29))
                      (try (have c29b3 : ¬ (t261 = t270 && (t262 == t271 && (t263 == t272 && (t264 == t273 && (t265 == t274 && (t266 == t275 && (t267 == t276))))))) := by simpa using c29))
                      clear c29
                      cases H
                  · rw [if_neg c28] at H
                    have c28b0 : (t287 == t260) = false := beq_eq_false_iff_ne.mpr c28
                    have c28b1 : (t287 != t260) = true := bne_iff_ne.mpr c28
                    cases H
                · rw [if_neg c26] at H
                  have c26b0 : (t255 == t259) = false := beq_eq_false_iff_ne.mpr c26
                  have c26b1 : (t255 != t259) = true := bne_iff_ne.mpr c26
                  cases H
              · rw [if_neg c25] at H
                have c25b0 : (t254 == t258) = false := beq_eq_false_iff_ne.mpr c25
                have c25b1 : (t254 != t258) = true := bne_iff_ne.mpr c25
                cases H
            · rw [if_neg c24] at H
              have c24b0 : (t253 == t257) = false := beq_eq_false_iff_ne.mpr c24
              have c24b1 : (t253 != t257) = true := bne_iff_ne.mpr c24
              cases H
          · rw [if_neg c23] at H
            have c23b0 : (t286 == t252) = false := beq_eq_false_iff_ne.mpr c23
            have c23b1 : (t286 != t252) = true := bne_iff_ne.mpr c23
            cases H
        · rw [if_neg c21] at H
          have c21b0 : (t249 == t251) = false := beq_eq_false_iff_ne.mpr c21
          have c21b1 : (t249 != t251) = true := bne_iff_ne.mpr c21
          cases H
      · rw [if_neg c20] at H
        have c20b0 : (t285 == t248) = false := beq_eq_false_iff_ne.mpr c20
        have c20b1 : (t285 != t248) = true := bne_iff_ne.mpr c20
        cases H
    · rw [if_neg c18] at H
      have c18b0 : (t245 == t247) = false := beq_eq_false_iff_ne.mpr c18
      have c18b1 : (t245 != t247) = true := bne_iff_ne.mpr c18
      cases H
  · rw [if_neg c17] at H
    have c17b0 : (t283 == t284) = false := by simpa using c17
    (try (have c17b1 : decide (t283 = t284) = false := by simpa using c17))
    (try (have c17b2 : (t283 == t284) = false := by simpa using c17))
    (try (have c17b3 : ¬ (t283 = t284) := by simpa using c17))
    clear c17
    cases H

/-- THE ONE PURE STATEMENT of ticklerlaw16_CivilTells: yours. -/
def ticklerlaw16_CivilTells.Pure : Prop := ∀ (a0 : Int) (a1 : Int) (a2 : Int) (a3 : Int), (Lit.int .i64 a0).wf = true → (Lit.int .i64 a1).wf = true → (Lit.int .i64 a2).wf = true → (Lit.int .i64 a3).wf = true → ∃ k, ticklerlaw16_CivilTells.f k a0 a1 a2 a3 = some true
theorem ticklerlaw16_CivilTells.walk (P : ticklerlaw16_CivilTells.Pure) (a0 : Int) (a1 : Int) (a2 : Int) (a3 : Int) (w : World) (w0 : (Lit.int .i64 a0).wf = true) (w1 : (Lit.int .i64 a1).wf = true) (w2 : (Lit.int .i64 a2).wf = true) (w3 : (Lit.int .i64 a3).wf = true) :
    Calls Try.prog 9 #[.int .i64 a0, .int .i64 a1, .int .i64 a2, .int .i64 a3] w fun e w' => e = .returned (.bool true) ∧ Below w.heap.size w w' := by
  obtain ⟨k, h⟩ := P a0 a1 a2 a3 w0 w1 w2 w3
  refine (ticklerlaw16_CivilTells.calls k a0 a1 a2 a3 w h).mono ?_
  rintro e w' ⟨rfl, hd⟩
  exact ⟨rfl, hd⟩

end Go.Proofs.Ytkffmgalmooioaa.Civ
