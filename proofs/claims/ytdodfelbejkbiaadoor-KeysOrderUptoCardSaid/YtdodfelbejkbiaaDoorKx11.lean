/- Contracts of the Go functions over this seat's translation, each beside a Lean function with the same answers. Lines written for this claim by the kit's print tool, turned by this session. -/
import Derived.Test.YtdodfelbejkbiaaDoorKx0
import Derived.Test.YtdodfelbejkbiaaDoorCmp
import Derived.Test.YtdodfelbejkbiaaDoorEnc
import Derived.Test.YtdodfelbejkbiaaDoorKx4
namespace Go.Proofs.YtdodfelbejkbiaaDoor.K
open Go.RowKit Go.Proofs.YtdodfelbejkbiaaDoorW.PrintWords Go.Proofs.YtdodfelbejkbiaaDoorW.PrintLast Go.Proofs.YtdodfelbejkbiaaDoorW.PrintMore
attribute [local go_sem] max2_int min2_int max_two min_two max_three min_three max_four min_four   -- for this text's walks alone
set_option linter.unusedVariables false
set_option linter.unusedSimpArgs false

/-! ### ticklerlaw02_KeysOrder: function 8 -/
mutual
def ticklerlaw02_KeysOrder.j0 : Nat → List (S52) → List (S52) → ByteArray → ByteArray → Int → Int → Bool → Option (Bool)
  | 0, _, _, _, _, _, _, _ => none
  | k + 1, x0, x1, x5, x7, x9, x10, x43 => if x43 = true then ((ticklerlaw02_num.f x10).bind fun t315 => (if t315 = 0 then (some false) else (some (x9 == 0)))) else ((ticklerlaw02_num.f x10).bind fun t316 => (if t316 = 0 then (if ((Op.bytesLess x5.toList x7.toList) != (decide (x9 < 0))) = true then (ticklerlaw02_KeysOrder.j1 k x0 x1 x5 true) else (ticklerlaw02_KeysOrder.j1 k x0 x1 x5 ((x5.toList == x7.toList) != (x9 == 0)))) else (ticklerlaw02_KeysOrder.j1 k x0 x1 x5 true)))
def ticklerlaw02_KeysOrder.j1 : Nat → List (S52) → List (S52) → ByteArray → Bool → Option (Bool)
  | 0, _, _, _, _ => none
  | k + 1, x0, x1, x5, x69 => if x69 = true then (some false) else (if 0 ≤ (mn (x0.length : Int) (x1.length : Int)) then (if (mn (x0.length : Int) (x1.length : Int)) ≤ (x0.length : Int) then ((ticklerlaw02_of.f k (x0.take ((mn (x0.length : Int) (x1.length : Int)) : Int).toNat)).bind fun t321 => ((keys_Encode.f t321).bind fun bt324 => ((ticklerlaw02_num.f bt324.2).bind fun t326 => (if t326 = 0 then (if (bt324.1.size : Int) ≤ (x5.size : Int) then (if 0 ≤ (bt324.1.size : Int) then (some ((x5.extract 0 ((bt324.1.size : Int) : Int).toNat).toList == bt324.1.toList)) else (none)) else (some false)) else (some false))))) else (none)) else (none))
end
def ticklerlaw02_KeysOrder.f (k : Nat) (l0 : List (S52)) (l1 : List (S52)) : Option (Bool) := (ticklerlaw02_alive.f).bind fun t294 => (if t294 = true then ((ticklerlaw02_of.f k l0).bind fun t295 => ((keys_Encode.f t295).bind fun bt298 => ((ticklerlaw02_of.f k l1).bind fun t300 => ((keys_Encode.f t300).bind fun bt303 => ((ticklerlaw02_of.f k l0).bind fun t305 => ((ticklerlaw02_of.f k l1).bind fun t308 => ((keys_Compare.f t305 t308).bind fun bt311 => ((ticklerlaw02_num.f bt298.2).bind fun t313 => (if t313 = 0 then ((ticklerlaw02_num.f bt303.2).bind fun t314 => (ticklerlaw02_KeysOrder.j0 k l0 l1 bt298.1 bt303.1 bt311.1 bt311.2 (t314 != 0))) else (ticklerlaw02_KeysOrder.j0 k l0 l1 bt298.1 bt303.1 bt311.1 bt311.2 true)))))))))) else (some false))
theorem ticklerlaw02_KeysOrder.mono_l : ∀ k, (∀ y0 y1 y2 y3 y4 y5 y6, LeO (ticklerlaw02_KeysOrder.j0 k y0 y1 y2 y3 y4 y5 y6) (ticklerlaw02_KeysOrder.j0 (k + 1) y0 y1 y2 y3 y4 y5 y6)) ∧ (∀ y0 y1 y2 y3, LeO (ticklerlaw02_KeysOrder.j1 k y0 y1 y2 y3) (ticklerlaw02_KeysOrder.j1 (k + 1) y0 y1 y2 y3))
  | 0 => ⟨fun _ _ _ _ _ _ _ r h => by simp [ticklerlaw02_KeysOrder.j0] at h, fun _ _ _ _ r h => by simp [ticklerlaw02_KeysOrder.j1] at h⟩
  | k + 1 => by
    obtain ⟨ih0, ih1⟩ := ticklerlaw02_KeysOrder.mono_l k
    refine ⟨?_, ?_⟩
    · intro y0 y1 y2 y3 y4 y5 y6
      unfold ticklerlaw02_KeysOrder.j0
      repeat' first
      | (with_reducible exact ih0 _ _ _ _ _ _ _)
      | (with_reducible exact ih1 _ _ _ _)
      | (with_reducible exact ticklerlaw02_of.mono _ _)
      | (with_reducible exact LeO.refl _)
      | (with_reducible exact LeO.none _)
      | (with_reducible refine LeO.ite ?_ ?_)
      | (with_reducible refine LeO.bind ?_ (fun _ => ?_))
      | exact ih0 _ _ _ _ _ _ _
      | exact ih1 _ _ _ _
      | exact ticklerlaw02_of.mono _ _
      | exact LeO.none _
      | refine LeO.ite ?_ ?_
      | refine LeO.bind ?_ (fun _ => ?_)
    · intro y0 y1 y2 y3
      unfold ticklerlaw02_KeysOrder.j1
      repeat' first
      | (with_reducible exact ih0 _ _ _ _ _ _ _)
      | (with_reducible exact ih1 _ _ _ _)
      | (with_reducible exact ticklerlaw02_of.mono _ _)
      | (with_reducible exact LeO.refl _)
      | (with_reducible exact LeO.none _)
      | (with_reducible refine LeO.ite ?_ ?_)
      | (with_reducible refine LeO.bind ?_ (fun _ => ?_))
      | exact ih0 _ _ _ _ _ _ _
      | exact ih1 _ _ _ _
      | exact ticklerlaw02_of.mono _ _
      | exact LeO.none _
      | refine LeO.ite ?_ ?_
      | refine LeO.bind ?_ (fun _ => ?_)
theorem ticklerlaw02_KeysOrder.mono : ∀ a0 a1 k, LeO (ticklerlaw02_KeysOrder.f k a0 a1) (ticklerlaw02_KeysOrder.f (k + 1) a0 a1) := by
  intro a0 a1 k
  obtain ⟨ih0, ih1⟩ := ticklerlaw02_KeysOrder.mono_l k
  unfold ticklerlaw02_KeysOrder.f
  repeat' first
      | (with_reducible exact ih0 _ _ _ _ _ _ _)
      | (with_reducible exact ih1 _ _ _ _)
      | (with_reducible exact ticklerlaw02_of.mono _ _)
      | (with_reducible exact LeO.refl _)
      | (with_reducible exact LeO.none _)
      | (with_reducible refine LeO.ite ?_ ?_)
      | (with_reducible refine LeO.bind ?_ (fun _ => ?_))
      | exact ih0 _ _ _ _ _ _ _
      | exact ih1 _ _ _ _
      | exact ticklerlaw02_of.mono _ _
      | exact LeO.none _
      | refine LeO.ite ?_ ?_
      | refine LeO.bind ?_ (fun _ => ?_)
set_option maxHeartbeats 8000000 in
set_option maxRecDepth 100000 in
theorem ticklerlaw02_KeysOrder.calls (k : Nat) (A0 : Option Addr) (c0 : Nat) (l0 : List (S52)) (A1 : Option Addr) (c1 : Nat) (l1 : List (S52)) (r : Bool) (w : World) (hr0 : Kd.C k52 w A0 l0.length l0) (hc0 : l0.length ≤ c0) (hr1 : Kd.C k52 w A1 l1.length l1) (hc1 : l1.length ≤ c1) (h : ticklerlaw02_KeysOrder.f k l0 l1 = some r) (ht : HasMax w) :
    Calls Tryd.prog 8 #[.slice A0 l0.length c0, .slice A1 l1.length c1] w fun e w' => e = .returned (.bool r) ∧ Below w.heap.size w w' := by
  have HT := Aside0.mk ht
  clear ht
  have HR0 := Aside0.mk hr0
  have HC0 := Aside0.mk hc0
  clear hr0 hc0
  have HR1 := Aside0.mk hr1
  have HC1 := Aside0.mk hc1
  clear hr1 hc1
  have HB := Aside0.mk (Below.refl w.heap.size w)
  have H : ((ticklerlaw02_alive.f).bind fun t294 => (if t294 = true then ((ticklerlaw02_of.f k l0).bind fun t295 => ((keys_Encode.f t295).bind fun bt298 => ((ticklerlaw02_of.f k l1).bind fun t300 => ((keys_Encode.f t300).bind fun bt303 => ((ticklerlaw02_of.f k l0).bind fun t305 => ((ticklerlaw02_of.f k l1).bind fun t308 => ((keys_Compare.f t305 t308).bind fun bt311 => ((ticklerlaw02_num.f bt298.2).bind fun t313 => (if t313 = 0 then ((ticklerlaw02_num.f bt303.2).bind fun t314 => (ticklerlaw02_KeysOrder.j0 k l0 l1 bt298.1 bt303.1 bt311.1 bt311.2 (t314 != 0))) else (ticklerlaw02_KeysOrder.j0 k l0 l1 bt298.1 bt303.1 bt311.1 bt311.2 true)))))))))) else (some false))) = some r := h
  clear h
  replace H := Option.bind_eq_some_iff.mp H
  obtain ⟨t294, A30, H⟩ := H
  replace H : (if t294 = true then ((ticklerlaw02_of.f k l0).bind fun t295 => ((keys_Encode.f t295).bind fun bt298 => ((ticklerlaw02_of.f k l1).bind fun t300 => ((keys_Encode.f t300).bind fun bt303 => ((ticklerlaw02_of.f k l0).bind fun t305 => ((ticklerlaw02_of.f k l1).bind fun t308 => ((keys_Compare.f t305 t308).bind fun bt311 => ((ticklerlaw02_num.f bt298.2).bind fun t313 => (if t313 = 0 then ((ticklerlaw02_num.f bt303.2).bind fun t314 => (ticklerlaw02_KeysOrder.j0 k l0 l1 bt298.1 bt303.1 bt311.1 bt311.2 (t314 != 0))) else (ticklerlaw02_KeysOrder.j0 k l0 l1 bt298.1 bt303.1 bt311.1 bt311.2 true)))))))))) else (some false)) = some r := H
  have A3 := Aside0.mk A30
  clear A30
  by_cases c4 : t294 = true
  · subst c4
    have H1 : ((ticklerlaw02_of.f k l0).bind fun t295 => ((keys_Encode.f t295).bind fun bt298 => ((ticklerlaw02_of.f k l1).bind fun t300 => ((keys_Encode.f t300).bind fun bt303 => ((ticklerlaw02_of.f k l0).bind fun t305 => ((ticklerlaw02_of.f k l1).bind fun t308 => ((keys_Compare.f t305 t308).bind fun bt311 => ((ticklerlaw02_num.f bt298.2).bind fun t313 => (if t313 = 0 then ((ticklerlaw02_num.f bt303.2).bind fun t314 => (ticklerlaw02_KeysOrder.j0 k l0 l1 bt298.1 bt303.1 bt311.1 bt311.2 (t314 != 0))) else (ticklerlaw02_KeysOrder.j0 k l0 l1 bt298.1 bt303.1 bt311.1 bt311.2 true)))))))))) = some r := by rw [if_pos rfl] at H; exact H
    clear H
    have H := H1
    clear H1
    replace H := Option.bind_eq_some_iff.mp H
    obtain ⟨t295, A50, H⟩ := H
    replace H : ((keys_Encode.f t295).bind fun bt298 => ((ticklerlaw02_of.f k l1).bind fun t300 => ((keys_Encode.f t300).bind fun bt303 => ((ticklerlaw02_of.f k l0).bind fun t305 => ((ticklerlaw02_of.f k l1).bind fun t308 => ((keys_Compare.f t305 t308).bind fun bt311 => ((ticklerlaw02_num.f bt298.2).bind fun t313 => (if t313 = 0 then ((ticklerlaw02_num.f bt303.2).bind fun t314 => (ticklerlaw02_KeysOrder.j0 k l0 l1 bt298.1 bt303.1 bt311.1 bt311.2 (t314 != 0))) else (ticklerlaw02_KeysOrder.j0 k l0 l1 bt298.1 bt303.1 bt311.1 bt311.2 true))))))))) = some r := H
    have A5 := Aside0.mk A50
    clear A50
    replace H := Option.bind_eq_some_iff.mp H
    obtain ⟨⟨t298, t299⟩, A60, H⟩ := H
    replace H : ((ticklerlaw02_of.f k l1).bind fun t300 => ((keys_Encode.f t300).bind fun bt303 => ((ticklerlaw02_of.f k l0).bind fun t305 => ((ticklerlaw02_of.f k l1).bind fun t308 => ((keys_Compare.f t305 t308).bind fun bt311 => ((ticklerlaw02_num.f t299).bind fun t313 => (if t313 = 0 then ((ticklerlaw02_num.f bt303.2).bind fun t314 => (ticklerlaw02_KeysOrder.j0 k l0 l1 t298 bt303.1 bt311.1 bt311.2 (t314 != 0))) else (ticklerlaw02_KeysOrder.j0 k l0 l1 t298 bt303.1 bt311.1 bt311.2 true)))))))) = some r := H
    have A6 := Aside0.mk A60
    clear A60
    replace H := Option.bind_eq_some_iff.mp H
    obtain ⟨t300, A70, H⟩ := H
    replace H : ((keys_Encode.f t300).bind fun bt303 => ((ticklerlaw02_of.f k l0).bind fun t305 => ((ticklerlaw02_of.f k l1).bind fun t308 => ((keys_Compare.f t305 t308).bind fun bt311 => ((ticklerlaw02_num.f t299).bind fun t313 => (if t313 = 0 then ((ticklerlaw02_num.f bt303.2).bind fun t314 => (ticklerlaw02_KeysOrder.j0 k l0 l1 t298 bt303.1 bt311.1 bt311.2 (t314 != 0))) else (ticklerlaw02_KeysOrder.j0 k l0 l1 t298 bt303.1 bt311.1 bt311.2 true))))))) = some r := H
    have A7 := Aside0.mk A70
    clear A70
    replace H := Option.bind_eq_some_iff.mp H
    obtain ⟨⟨t303, t304⟩, A80, H⟩ := H
    replace H : ((ticklerlaw02_of.f k l0).bind fun t305 => ((ticklerlaw02_of.f k l1).bind fun t308 => ((keys_Compare.f t305 t308).bind fun bt311 => ((ticklerlaw02_num.f t299).bind fun t313 => (if t313 = 0 then ((ticklerlaw02_num.f t304).bind fun t314 => (ticklerlaw02_KeysOrder.j0 k l0 l1 t298 t303 bt311.1 bt311.2 (t314 != 0))) else (ticklerlaw02_KeysOrder.j0 k l0 l1 t298 t303 bt311.1 bt311.2 true)))))) = some r := H
    have A8 := Aside0.mk A80
    clear A80
    replace H := Option.bind_eq_some_iff.mp H
    obtain ⟨t305, A90, H⟩ := H
    replace H : ((ticklerlaw02_of.f k l1).bind fun t308 => ((keys_Compare.f t305 t308).bind fun bt311 => ((ticklerlaw02_num.f t299).bind fun t313 => (if t313 = 0 then ((ticklerlaw02_num.f t304).bind fun t314 => (ticklerlaw02_KeysOrder.j0 k l0 l1 t298 t303 bt311.1 bt311.2 (t314 != 0))) else (ticklerlaw02_KeysOrder.j0 k l0 l1 t298 t303 bt311.1 bt311.2 true))))) = some r := H
    have A9 := Aside0.mk A90
    clear A90
    replace H := Option.bind_eq_some_iff.mp H
    obtain ⟨t308, A100, H⟩ := H
    replace H : ((keys_Compare.f t305 t308).bind fun bt311 => ((ticklerlaw02_num.f t299).bind fun t313 => (if t313 = 0 then ((ticklerlaw02_num.f t304).bind fun t314 => (ticklerlaw02_KeysOrder.j0 k l0 l1 t298 t303 bt311.1 bt311.2 (t314 != 0))) else (ticklerlaw02_KeysOrder.j0 k l0 l1 t298 t303 bt311.1 bt311.2 true)))) = some r := H
    have A10 := Aside0.mk A100
    clear A100
    replace H := Option.bind_eq_some_iff.mp H
    obtain ⟨⟨t311, t312⟩, A110, H⟩ := H
    replace H : ((ticklerlaw02_num.f t299).bind fun t313 => (if t313 = 0 then ((ticklerlaw02_num.f t304).bind fun t314 => (ticklerlaw02_KeysOrder.j0 k l0 l1 t298 t303 t311 t312 (t314 != 0))) else (ticklerlaw02_KeysOrder.j0 k l0 l1 t298 t303 t311 t312 true))) = some r := H
    have A11 := Aside0.mk A110
    clear A110
    have HC12 := Aside0.mk H
    clear H
    go_enter Tryd.func8, Tryd.ntmps8
    go_upto_region 6 with (first | ((with_reducible refine gate_callee (f := 9) rfl ?_); refine goesL_ (some 14) rfl rfl Tryd.func9 (by kernel_rfl) rfl #[] rfl (by (try simp only [List.map_toArray, List.map_cons, List.map_nil]); first | done | rfl | (simp only [List.length_drop, List.length_take]; rfl)) ?_; (with_reducible refine (ticklerlaw02_alive.calls  true _ A3.out (HT.out.on (by repeat (first | (with_reducible first | exact HB.out | apply below_alloc | apply pw_below_drewN | apply below_drew1) | exact HB.out)))).mono ?_); rintro e w13 ⟨rfl, hb⟩; refine ⟨_, rfl, ?_⟩; have n0_ := Aside0.mk (below_step (by repeat (first | (with_reducible first | exact HB.out | apply below_alloc | apply pw_below_drewN | apply below_drew1) | exact HB.out)) hb); clear HB; have HB := n0_; clear n0_; (try clear hb); (try clear hb2); (try clear hk); (try clear hi)) | ((with_reducible refine gate_callee (f := 11) rfl ?_); refine goesL_ (some 18) rfl rfl Tryd.func11 (by kernel_rfl) rfl #[.slice A0 l0.length c0] rfl (by (try simp only [List.map_toArray, List.map_cons, List.map_nil]); first | done | rfl | (simp only [List.length_drop, List.length_take]; rfl)) ?_; (with_reducible refine (ticklerlaw02_of.calls k _ _ l0 t295 _ ?side1 ?side2 A5.out).mono ?_); (case side1 => repeat (first | exact (Kd.C_below HR0.out HB.out) | (with_reducible refine Kd.C_alloc ?_ _) | (with_reducible refine Kd.C_drewN ?_ _) | (with_reducible refine Kd.C_drew ?_))); (case side2 => exact HC0.out); rintro e w14 ⟨v296, rfl, ho0, hb⟩; refine ⟨_, rfl, ?_⟩; have n0_ := Aside0.mk (Kd.R_lower ho0 (below_size (by repeat (first | (with_reducible first | exact HB.out | apply below_alloc | apply pw_below_drewN | apply below_drew1) | exact HB.out)))); have n1_ := Aside0.mk (below_step (by repeat (first | (with_reducible first | exact HB.out | apply below_alloc | apply pw_below_drewN | apply below_drew1) | exact HB.out)) hb); clear HB; have HO297 := n0_; have HB := n1_; clear n0_ n1_; (try clear hb); (try clear hb2); (try clear hk); (try clear hi); (try clear ho0); obtain ⟨Ao15, co15, eo15⟩ := Kd.R_slice HO297.out; subst eo15) | ((with_reducible refine gate_callee (f := 12) rfl ?_); refine goesL_ (some 19) rfl rfl Tryd.func12 (by kernel_rfl) rfl #[.slice Ao15 t295.length co15] rfl (by (try simp only [List.map_toArray, List.map_cons, List.map_nil]); first | done | rfl | (simp only [List.length_drop, List.length_take]; rfl)) ?_; (with_reducible refine (keys_Encode.calls _ _ t295 t298 t299 _ ?side1 ?side2 A6.out (HT.out.on (by repeat (first | (with_reducible first | exact HB.out | apply below_alloc | apply pw_below_drewN | apply below_drew1) | exact HB.out)))).mono ?_); (case side1 => repeat (first | exact (Kd.R_reads' HO297.out).2.2 | (with_reducible refine Kd.C_alloc ?_ _) | (with_reducible refine Kd.C_drewN ?_ _) | (with_reducible refine Kd.C_drew ?_))); (case side2 => exact (Kd.R_reads' HO297.out).2.1); rintro e w16 ⟨rfl, hb⟩; refine ⟨_, rfl, ?_⟩; have n0_ := Aside0.mk (Kd.R_below (by (with_reducible repeat (first | apply Kd.R_alloc | apply Kd.R_drewN | apply Kd.R_drew)); exact HO297.out) hb); have n1_ := Aside0.mk (below_step (by repeat (first | (with_reducible first | exact HB.out | apply below_alloc | apply pw_below_drewN | apply below_drew1) | exact HB.out)) hb); clear HO297; clear HB; have HO297 := n0_; have HB := n1_; clear n0_ n1_; (try clear hb); (try clear hb2); (try clear hk); (try clear hi)) | ((with_reducible refine gate_callee (f := 11) rfl ?_); refine goesL_ (some 24) rfl rfl Tryd.func11 (by kernel_rfl) rfl #[.slice A1 l1.length c1] rfl (by (try simp only [List.map_toArray, List.map_cons, List.map_nil]); first | done | rfl | (simp only [List.length_drop, List.length_take]; rfl)) ?_; (with_reducible refine (ticklerlaw02_of.calls k _ _ l1 t300 _ ?side1 ?side2 A7.out).mono ?_); (case side1 => repeat (first | exact (Kd.C_below HR1.out HB.out) | (with_reducible refine Kd.C_alloc ?_ _) | (with_reducible refine Kd.C_drewN ?_ _) | (with_reducible refine Kd.C_drew ?_))); (case side2 => exact HC1.out); rintro e w17 ⟨v301, rfl, ho0, hb⟩; refine ⟨_, rfl, ?_⟩; have n0_ := Aside0.mk (Kd.R_elder' (by (with_reducible repeat (first | apply Kd.R_alloc | apply Kd.R_drewN | apply Kd.R_drew)); exact HO297.out) (Kd.R_base ho0) hb); have n1_ := Aside0.mk (Kd.R_lower (Kd.R_new' ho0 (Kd.R_lt (by (with_reducible repeat (first | apply Kd.R_alloc | apply Kd.R_drewN | apply Kd.R_drew)); exact HO297.out))) (below_size (by repeat (first | (with_reducible first | exact HB.out | apply below_alloc | apply pw_below_drewN | apply below_drew1) | exact HB.out)))); have n2_ := Aside0.mk (below_step (by repeat (first | (with_reducible first | exact HB.out | apply below_alloc | apply pw_below_drewN | apply below_drew1) | exact HB.out)) hb); clear HO297; clear HB; have HO297 := n0_; have HO302 := n1_; have HB := n2_; clear n0_ n1_ n2_; (try clear hb); (try clear hb2); (try clear hk); (try clear hi); (try clear ho0); obtain ⟨Ao18, co18, eo18⟩ := Kd.R_slice HO302.out; subst eo18) | ((with_reducible refine gate_callee (f := 12) rfl ?_); refine goesL_ (some 25) rfl rfl Tryd.func12 (by kernel_rfl) rfl #[.slice Ao18 t300.length co18] rfl (by (try simp only [List.map_toArray, List.map_cons, List.map_nil]); first | done | rfl | (simp only [List.length_drop, List.length_take]; rfl)) ?_; (with_reducible refine (keys_Encode.calls _ _ t300 t303 t304 _ ?side1 ?side2 A8.out (HT.out.on (by repeat (first | (with_reducible first | exact HB.out | apply below_alloc | apply pw_below_drewN | apply below_drew1) | exact HB.out)))).mono ?_); (case side1 => repeat (first | exact (Kd.R_reads' HO302.out).2.2 | (with_reducible refine Kd.C_alloc ?_ _) | (with_reducible refine Kd.C_drewN ?_ _) | (with_reducible refine Kd.C_drew ?_))); (case side2 => exact (Kd.R_reads' HO302.out).2.1); rintro e w19 ⟨rfl, hb⟩; refine ⟨_, rfl, ?_⟩; have n0_ := Aside0.mk (Kd.R_below (by (with_reducible repeat (first | apply Kd.R_alloc | apply Kd.R_drewN | apply Kd.R_drew)); exact HO297.out) hb); have n1_ := Aside0.mk (Kd.R_below (by (with_reducible repeat (first | apply Kd.R_alloc | apply Kd.R_drewN | apply Kd.R_drew)); exact HO302.out) hb); have n2_ := Aside0.mk (below_step (by repeat (first | (with_reducible first | exact HB.out | apply below_alloc | apply pw_below_drewN | apply below_drew1) | exact HB.out)) hb); clear HO297; clear HO302; clear HB; have HO297 := n0_; have HO302 := n1_; have HB := n2_; clear n0_ n1_ n2_; (try clear hb); (try clear hb2); (try clear hk); (try clear hi)) | ((with_reducible refine gate_callee (f := 11) rfl ?_); refine goesL_ (some 30) rfl rfl Tryd.func11 (by kernel_rfl) rfl #[.slice A0 l0.length c0] rfl (by (try simp only [List.map_toArray, List.map_cons, List.map_nil]); first | done | rfl | (simp only [List.length_drop, List.length_take]; rfl)) ?_; (with_reducible refine (ticklerlaw02_of.calls k _ _ l0 t305 _ ?side1 ?side2 A9.out).mono ?_); (case side1 => repeat (first | exact (Kd.C_below HR0.out HB.out) | (with_reducible refine Kd.C_alloc ?_ _) | (with_reducible refine Kd.C_drewN ?_ _) | (with_reducible refine Kd.C_drew ?_))); (case side2 => exact HC0.out); rintro e w20 ⟨v306, rfl, ho0, hb⟩; refine ⟨_, rfl, ?_⟩; have n0_ := Aside0.mk (Kd.R_elder' (by (with_reducible repeat (first | apply Kd.R_alloc | apply Kd.R_drewN | apply Kd.R_drew)); exact HO297.out) (Kd.R_base ho0) hb); have n1_ := Aside0.mk (Kd.R_elder' (by (with_reducible repeat (first | apply Kd.R_alloc | apply Kd.R_drewN | apply Kd.R_drew)); exact HO302.out) (Kd.R_base ho0) hb); have n2_ := Aside0.mk (Kd.R_lower (Kd.R_new' (Kd.R_new' ho0 (Kd.R_lt (by (with_reducible repeat (first | apply Kd.R_alloc | apply Kd.R_drewN | apply Kd.R_drew)); exact HO297.out))) (Kd.R_lt (by (with_reducible repeat (first | apply Kd.R_alloc | apply Kd.R_drewN | apply Kd.R_drew)); exact HO302.out))) (below_size (by repeat (first | (with_reducible first | exact HB.out | apply below_alloc | apply pw_below_drewN | apply below_drew1) | exact HB.out)))); have n3_ := Aside0.mk (below_step (by repeat (first | (with_reducible first | exact HB.out | apply below_alloc | apply pw_below_drewN | apply below_drew1) | exact HB.out)) hb); clear HO297; clear HO302; clear HB; have HO297 := n0_; have HO302 := n1_; have HO307 := n2_; have HB := n3_; clear n0_ n1_ n2_ n3_; (try clear hb); (try clear hb2); (try clear hk); (try clear hi); (try clear ho0)) | ((with_reducible refine gate_callee (f := 11) rfl ?_); refine goesL_ (some 32) rfl rfl Tryd.func11 (by kernel_rfl) rfl #[.slice A1 l1.length c1] rfl (by (try simp only [List.map_toArray, List.map_cons, List.map_nil]); first | done | rfl | (simp only [List.length_drop, List.length_take]; rfl)) ?_; (with_reducible refine (ticklerlaw02_of.calls k _ _ l1 t308 _ ?side1 ?side2 A10.out).mono ?_); (case side1 => repeat (first | exact (Kd.C_below HR1.out HB.out) | (with_reducible refine Kd.C_alloc ?_ _) | (with_reducible refine Kd.C_drewN ?_ _) | (with_reducible refine Kd.C_drew ?_))); (case side2 => exact HC1.out); rintro e w21 ⟨v309, rfl, ho0, hb⟩; refine ⟨_, rfl, ?_⟩; have n0_ := Aside0.mk (Kd.R_elder' (by (with_reducible repeat (first | apply Kd.R_alloc | apply Kd.R_drewN | apply Kd.R_drew)); exact HO297.out) (Kd.R_base ho0) hb); have n1_ := Aside0.mk (Kd.R_elder' (by (with_reducible repeat (first | apply Kd.R_alloc | apply Kd.R_drewN | apply Kd.R_drew)); exact HO302.out) (Kd.R_base ho0) hb); have n2_ := Aside0.mk (Kd.R_elder' (by (with_reducible repeat (first | apply Kd.R_alloc | apply Kd.R_drewN | apply Kd.R_drew)); exact HO307.out) (Kd.R_base ho0) hb); have n3_ := Aside0.mk (Kd.R_lower (Kd.R_new' (Kd.R_new' (Kd.R_new' ho0 (Kd.R_lt (by (with_reducible repeat (first | apply Kd.R_alloc | apply Kd.R_drewN | apply Kd.R_drew)); exact HO297.out))) (Kd.R_lt (by (with_reducible repeat (first | apply Kd.R_alloc | apply Kd.R_drewN | apply Kd.R_drew)); exact HO302.out))) (Kd.R_lt (by (with_reducible repeat (first | apply Kd.R_alloc | apply Kd.R_drewN | apply Kd.R_drew)); exact HO307.out))) (below_size (by repeat (first | (with_reducible first | exact HB.out | apply below_alloc | apply pw_below_drewN | apply below_drew1) | exact HB.out)))); have n4_ := Aside0.mk (below_step (by repeat (first | (with_reducible first | exact HB.out | apply below_alloc | apply pw_below_drewN | apply below_drew1) | exact HB.out)) hb); clear HO297; clear HO302; clear HO307; clear HB; have HO297 := n0_; have HO302 := n1_; have HO307 := n2_; have HO310 := n3_; have HB := n4_; clear n0_ n1_ n2_ n3_ n4_; (try clear hb); (try clear hb2); (try clear hk); (try clear hi); (try clear ho0); obtain ⟨Ao22, co22, eo22⟩ := Kd.R_slice HO307.out; subst eo22; obtain ⟨Ao23, co23, eo23⟩ := Kd.R_slice HO310.out; subst eo23) | ((with_reducible refine gate_callee (f := 21) rfl ?_); refine goesL_ (some 33) rfl rfl Tryd.func21 (by kernel_rfl) rfl #[.slice Ao22 t305.length co22, .slice Ao23 t308.length co23] rfl (by (try simp only [List.map_toArray, List.map_cons, List.map_nil]); first | done | rfl | (simp only [List.length_drop, List.length_take]; rfl)) ?_; (with_reducible refine (keys_Compare.calls _ _ t305 _ _ t308 t311 t312 _ ?side1 ?side2 ?side3 ?side4 A11.out).mono ?_); (case side1 => repeat (first | exact (Kd.R_reads' HO307.out).2.2 | (with_reducible refine Kd.C_alloc ?_ _) | (with_reducible refine Kd.C_drewN ?_ _) | (with_reducible refine Kd.C_drew ?_))); (case side2 => exact (Kd.R_reads' HO307.out).2.1); (case side3 => repeat (first | exact (Kd.R_reads' HO310.out).2.2 | (with_reducible refine Kd.C_alloc ?_ _) | (with_reducible refine Kd.C_drewN ?_ _) | (with_reducible refine Kd.C_drew ?_))); (case side4 => exact (Kd.R_reads' HO310.out).2.1); rintro e w24 ⟨rfl, hb⟩; refine ⟨_, rfl, ?_⟩; have n0_ := Aside0.mk (Kd.R_below (by (with_reducible repeat (first | apply Kd.R_alloc | apply Kd.R_drewN | apply Kd.R_drew)); exact HO297.out) hb); have n1_ := Aside0.mk (Kd.R_below (by (with_reducible repeat (first | apply Kd.R_alloc | apply Kd.R_drewN | apply Kd.R_drew)); exact HO302.out) hb); have n2_ := Aside0.mk (Kd.R_below (by (with_reducible repeat (first | apply Kd.R_alloc | apply Kd.R_drewN | apply Kd.R_drew)); exact HO307.out) hb); have n3_ := Aside0.mk (Kd.R_below (by (with_reducible repeat (first | apply Kd.R_alloc | apply Kd.R_drewN | apply Kd.R_drew)); exact HO310.out) hb); have n4_ := Aside0.mk (below_step (by repeat (first | (with_reducible first | exact HB.out | apply below_alloc | apply pw_below_drewN | apply below_drew1) | exact HB.out)) hb); clear HO297; clear HO302; clear HO307; clear HO310; clear HB; have HO297 := n0_; have HO302 := n1_; have HO307 := n2_; have HO310 := n3_; have HB := n4_; clear n0_ n1_ n2_ n3_ n4_; (try clear hb); (try clear hb2); (try clear hk); (try clear hi)))
    (try simp only [Act.put, List.setIfInBounds_toArray, List.set_cons_zero, List.set_cons_succ])
    go_cut [43] (fun v43 wc => ∃ (kq : Nat) (x43_11 : Bool), v43 = .bool x43_11 ∧ Aside0 (ticklerlaw02_KeysOrder.j0 kq l0 l1 t298 t303 t311 t312 x43_11 = some r) ∧ Aside0 (kq ≤ k) ∧ Aside0 (Below w.heap.size w wc))
    case first =>
      have H := HC12.out
      clear HC12
      replace H := Option.bind_eq_some_iff.mp H
      obtain ⟨t313, A250, H⟩ := H
      replace H : (if t313 = 0 then ((ticklerlaw02_num.f t304).bind fun t314 => (ticklerlaw02_KeysOrder.j0 k l0 l1 t298 t303 t311 t312 (t314 != 0))) else (ticklerlaw02_KeysOrder.j0 k l0 l1 t298 t303 t311 t312 true)) = some r := H
      have A25 := Aside0.mk A250
      clear A250
      by_cases c26 : t313 = 0
      · rw [if_pos c26] at H
        have c26b0 : (t313 == 0) = true := beq_iff_eq.mpr c26
        have c26b1 : (t313 != 0) = false := bne_eq_false_iff_eq.mpr c26
        clear c26
        (first | rw [c26b0] | (simp only [i64_w, i32_w]; rw [c26b0]) | skip)
        replace H := Option.bind_eq_some_iff.mp H
        obtain ⟨t314, A270, H⟩ := H
        replace H : (ticklerlaw02_KeysOrder.j0 k l0 l1 t298 t303 t311 t312 (t314 != 0)) = some r := H
        have A27 := Aside0.mk A270
        clear A270
        have H' := Aside0.mk H
        clear H
        go_wp2_with (first | ((with_reducible refine gate_callee (f := 17) rfl ?_); refine goesL_ (some 37) rfl rfl Tryd.func17 (by kernel_rfl) rfl #[.int .i64 t299] rfl (by (try simp only [List.map_toArray, List.map_cons, List.map_nil]); first | done | rfl | (simp only [List.length_drop, List.length_take]; rfl)) ?_; (with_reducible refine (ticklerlaw02_num.calls t299 t313 _ A25.out).mono ?_); rintro e w' ⟨rfl, ⟨nd, rfl⟩⟩; refine ⟨_, rfl, ?_⟩) | (go_at_call 17; (with_reducible refine (ticklerlaw02_num.calls t304 t314 _ A27.out).mono ?_); rintro e w' ⟨rfl, ⟨nd, rfl⟩⟩))
        go_meet
        case rel => exact ⟨_, ((t314 != 0)), (by first | rfl | (simp; done) | (simp [*]; done)), H', ⟨by first | omega | exact Nat.le_refl _⟩, ⟨by repeat (first | (with_reducible first | exact HB.out | apply below_alloc | apply pw_below_drewN | apply below_drew1) | exact HB.out)⟩⟩
      · rw [if_neg c26] at H
        have c26b0 : (t313 == 0) = false := beq_eq_false_iff_ne.mpr c26
        have c26b1 : (t313 != 0) = true := bne_iff_ne.mpr c26
        (first | rw [c26b0] | (simp only [i64_w, i32_w]; rw [c26b0]) | skip)
        have H' := Aside0.mk H
        clear H
        go_wp2_with (first | ((with_reducible refine gate_callee (f := 17) rfl ?_); refine goesL_ (some 37) rfl rfl Tryd.func17 (by kernel_rfl) rfl #[.int .i64 t299] rfl (by (try simp only [List.map_toArray, List.map_cons, List.map_nil]); first | done | rfl | (simp only [List.length_drop, List.length_take]; rfl)) ?_; (with_reducible refine (ticklerlaw02_num.calls t299 t313 _ A25.out).mono ?_); rintro e w' ⟨rfl, ⟨nd, rfl⟩⟩; refine ⟨_, rfl, ?_⟩))
        go_meet
        case rel => exact ⟨_, (true), (by first | rfl | (simp; done) | (simp [*]; done)), H', ⟨by first | omega | exact Nat.le_refl _⟩, ⟨by repeat (first | (with_reducible first | exact HB.out | apply below_alloc | apply pw_below_drewN | apply below_drew1) | exact HB.out)⟩⟩
    case rest =>
      clear HC12
      try clear c1
      try clear c2
      try clear p2
      try clear c4
      try clear c8
      try clear c9
      try clear c11
      try clear c12
      try clear c17
      try clear c21
      try clear c26
      try clear c26b0
      try clear c26b1
      obtain ⟨kq, x43_11, rfl, HA, HJ11, HB⟩ := hcut
      cases kq with
      | zero => exact absurd HA.out (by simp [ticklerlaw02_KeysOrder.j0])
      | succ kj11 =>
        have H := HA.out
        clear HA
        simp only [ticklerlaw02_KeysOrder.j0] at H
        by_cases c28 : x43_11 = true
        · subst c28
          have H1 : ((ticklerlaw02_num.f t312).bind fun t315 => (if t315 = 0 then (some false) else (some (t311 == 0)))) = some r := by rw [if_pos rfl] at H; exact H
          clear H
          have H := H1
          clear H1
          replace H := Option.bind_eq_some_iff.mp H
          obtain ⟨t315, A290, H⟩ := H
          replace H : (if t315 = 0 then (some false) else (some (t311 == 0))) = some r := H
          have A29 := Aside0.mk A290
          clear A290
          by_cases c30 : t315 = 0
          · rw [if_pos c30] at H
            have c30b0 : (t315 == 0) = true := beq_iff_eq.mpr c30
            have c30b1 : (t315 != 0) = false := bne_eq_false_iff_eq.mpr c30
            clear c30
            obtain rfl := Option.some.inj H
            go_wp2_with (first | ((with_reducible refine gate_callee (f := 17) rfl ?_); refine goesL_ (some 45) rfl rfl Tryd.func17 (by kernel_rfl) rfl #[.int .i64 t312] rfl (by (try simp only [List.map_toArray, List.map_cons, List.map_nil]); first | done | rfl | (simp only [List.length_drop, List.length_take]; rfl)) ?_; (with_reducible refine (ticklerlaw02_num.calls t312 t315 _ A29.out).mono ?_); rintro e w' ⟨rfl, ⟨nd, rfl⟩⟩; refine ⟨_, rfl, ?_⟩))
            go_ret
            exact ⟨by first | rfl | (simp [errW_none, errW_some] <;> rfl) | (simp [*, errW_none, errW_some] <;> rfl), by repeat (first | (with_reducible first | exact HB.out | apply below_alloc | apply pw_below_drewN | apply below_drew1) | exact HB.out)⟩
          · rw [if_neg c30] at H
            have c30b0 : (t315 == 0) = false := beq_eq_false_iff_ne.mpr c30
            have c30b1 : (t315 != 0) = true := bne_iff_ne.mpr c30
            obtain rfl := Option.some.inj H
            go_wp2_with (first | ((with_reducible refine gate_callee (f := 17) rfl ?_); refine goesL_ (some 45) rfl rfl Tryd.func17 (by kernel_rfl) rfl #[.int .i64 t312] rfl (by (try simp only [List.map_toArray, List.map_cons, List.map_nil]); first | done | rfl | (simp only [List.length_drop, List.length_take]; rfl)) ?_; (with_reducible refine (ticklerlaw02_num.calls t312 t315 _ A29.out).mono ?_); rintro e w' ⟨rfl, ⟨nd, rfl⟩⟩; refine ⟨_, rfl, ?_⟩))
            go_ret
            exact ⟨by first | rfl | (simp [errW_none, errW_some] <;> rfl) | (simp [*, errW_none, errW_some] <;> rfl), by repeat (first | (with_reducible first | exact HB.out | apply below_alloc | apply pw_below_drewN | apply below_drew1) | exact HB.out)⟩
        · replace c28 := Bool.eq_false_iff.mpr c28
          subst c28
          have H1 : ((ticklerlaw02_num.f t312).bind fun t316 => (if t316 = 0 then (if ((Op.bytesLess t298.toList t303.toList) != (decide (t311 < 0))) = true then (ticklerlaw02_KeysOrder.j1 kj11 l0 l1 t298 true) else (ticklerlaw02_KeysOrder.j1 kj11 l0 l1 t298 ((t298.toList == t303.toList) != (t311 == 0)))) else (ticklerlaw02_KeysOrder.j1 kj11 l0 l1 t298 true))) = some r := by rw [if_neg (show ¬ (false = true) by decide)] at H; exact H
          clear H
          have H := H1
          clear H1
          have HC31 := Aside0.mk H
          clear H
          go_upto_region 8 with (fail)
          go_cut [69] (fun v69 wc => ∃ (kq : Nat) (x69_30 : Bool), v69 = .bool x69_30 ∧ Aside0 (ticklerlaw02_KeysOrder.j1 kq l0 l1 t298 x69_30 = some r) ∧ Aside0 (kq ≤ kj11) ∧ Aside0 (Below w.heap.size w wc))
          case first =>
            have H := HC31.out
            clear HC31
            replace H := Option.bind_eq_some_iff.mp H
            obtain ⟨t316, A320, H⟩ := H
            replace H : (if t316 = 0 then (if ((Op.bytesLess t298.toList t303.toList) != (decide (t311 < 0))) = true then (ticklerlaw02_KeysOrder.j1 kj11 l0 l1 t298 true) else (ticklerlaw02_KeysOrder.j1 kj11 l0 l1 t298 ((t298.toList == t303.toList) != (t311 == 0)))) else (ticklerlaw02_KeysOrder.j1 kj11 l0 l1 t298 true)) = some r := H
            have A32 := Aside0.mk A320
            clear A320
            by_cases c33 : t316 = 0
            · rw [if_pos c33] at H
              have c33b0 : (t316 == 0) = true := beq_iff_eq.mpr c33
              have c33b1 : (t316 != 0) = false := bne_eq_false_iff_eq.mpr c33
              clear c33
              (first | rw [c33b0] | (simp only [i64_w, i32_w]; rw [c33b0]) | skip)
              by_cases c34 : ((Op.bytesLess t298.toList t303.toList) != (decide (t311 < 0))) = true
              · rw [if_pos c34] at H
                have c34b0 : ((Op.bytesLess t298.toList t303.toList) != (decide (t311 < 0))) = true := c34
                (try (have c34b1 : decide ((Op.bytesLess t298.toList t303.toList) = (decide (t311 < 0))) = false := by simpa using c34))
                (try (have c34b2 : ((Op.bytesLess t298.toList t303.toList) == (decide (t311 < 0))) = false := by simpa using c34))
                (try (have c34b3 : ¬ ((Op.bytesLess t298.toList t303.toList) = (decide (t311 < 0))) := by simpa using c34))
                clear c34
                have H' := Aside0.mk H
                clear H
                go_wp2_with (first | ((with_reducible refine gate_callee (f := 17) rfl ?_); refine goesL_ (some 52) rfl rfl Tryd.func17 (by kernel_rfl) rfl #[.int .i64 t312] rfl (by (try simp only [List.map_toArray, List.map_cons, List.map_nil]); first | done | rfl | (simp only [List.length_drop, List.length_take]; rfl)) ?_; (with_reducible refine (ticklerlaw02_num.calls t312 t316 _ A32.out).mono ?_); rintro e w' ⟨rfl, ⟨nd, rfl⟩⟩; refine ⟨_, rfl, ?_⟩))
                go_meet
                case rel => exact ⟨_, (true), (by first | rfl | (simp; done) | (simp [*]; done)), H', ⟨by have := HJ11.out; first | omega | exact Nat.le_refl _⟩, ⟨by repeat (first | (with_reducible first | exact HB.out | apply below_alloc | apply pw_below_drewN | apply below_drew1) | exact HB.out)⟩⟩
              · rw [if_neg c34] at H
                have c34b0 : ((Op.bytesLess t298.toList t303.toList) != (decide (t311 < 0))) = false := by simpa using c34
                (try (have c34b1 : decide ((Op.bytesLess t298.toList t303.toList) = (decide (t311 < 0))) = true := by simpa using c34))
                (try (have c34b2 : ((Op.bytesLess t298.toList t303.toList) == (decide (t311 < 0))) = true := by simpa using c34))
                clear c34
                have H' := Aside0.mk H
                clear H
                go_wp2_with (first | ((with_reducible refine gate_callee (f := 17) rfl ?_); refine goesL_ (some 52) rfl rfl Tryd.func17 (by kernel_rfl) rfl #[.int .i64 t312] rfl (by (try simp only [List.map_toArray, List.map_cons, List.map_nil]); first | done | rfl | (simp only [List.length_drop, List.length_take]; rfl)) ?_; (with_reducible refine (ticklerlaw02_num.calls t312 t316 _ A32.out).mono ?_); rintro e w' ⟨rfl, ⟨nd, rfl⟩⟩; refine ⟨_, rfl, ?_⟩))
                go_meet
                case rel => exact ⟨_, (((t298.toList == t303.toList) != (t311 == 0))), (by first | rfl | (simp; done) | (simp [*]; done)), H', ⟨by have := HJ11.out; first | omega | exact Nat.le_refl _⟩, ⟨by repeat (first | (with_reducible first | exact HB.out | apply below_alloc | apply pw_below_drewN | apply below_drew1) | exact HB.out)⟩⟩
            · rw [if_neg c33] at H
              have c33b0 : (t316 == 0) = false := beq_eq_false_iff_ne.mpr c33
              have c33b1 : (t316 != 0) = true := bne_iff_ne.mpr c33
              (first | rw [c33b0] | (simp only [i64_w, i32_w]; rw [c33b0]) | skip)
              have H' := Aside0.mk H
              clear H
              go_wp2_with (first | ((with_reducible refine gate_callee (f := 17) rfl ?_); refine goesL_ (some 52) rfl rfl Tryd.func17 (by kernel_rfl) rfl #[.int .i64 t312] rfl (by (try simp only [List.map_toArray, List.map_cons, List.map_nil]); first | done | rfl | (simp only [List.length_drop, List.length_take]; rfl)) ?_; (with_reducible refine (ticklerlaw02_num.calls t312 t316 _ A32.out).mono ?_); rintro e w' ⟨rfl, ⟨nd, rfl⟩⟩; refine ⟨_, rfl, ?_⟩))
              go_meet
              case rel => exact ⟨_, (true), (by first | rfl | (simp; done) | (simp [*]; done)), H', ⟨by have := HJ11.out; first | omega | exact Nat.le_refl _⟩, ⟨by repeat (first | (with_reducible first | exact HB.out | apply below_alloc | apply pw_below_drewN | apply below_drew1) | exact HB.out)⟩⟩
          case rest =>
            clear HC31
            try clear c1
            try clear c2
            try clear p2
            try clear c3
            try clear c4
            try clear c8
            try clear c9
            try clear c11
            try clear c12
            try clear c17
            try clear c21
            try clear c26
            try clear c26b0
            try clear c26b1
            try clear c28
            try clear c30
            try clear c30b0
            try clear c30b1
            try clear c33
            try clear c33b0
            try clear c33b1
            try clear c34
            try clear c34b0
            try clear c34b1
            try clear c34b2
            try clear p2
            obtain ⟨kq, x69_30, rfl, HA, HJ30, HB⟩ := hcut
            cases kq with
            | zero => exact absurd HA.out (by simp [ticklerlaw02_KeysOrder.j1])
            | succ kj30 =>
              have H := HA.out
              clear HA
              simp only [ticklerlaw02_KeysOrder.j1] at H
              by_cases c35 : x69_30 = true
              · subst c35
                have H1 : (some false) = some r := by rw [if_pos rfl] at H; exact H
                clear H
                have H := H1
                clear H1
                obtain rfl := Option.some.inj H
                go_wp2
                go_ret
                exact ⟨by first | rfl | (simp [errW_none, errW_some] <;> rfl) | (simp [*, errW_none, errW_some] <;> rfl), by repeat (first | (with_reducible first | exact HB.out | apply below_alloc | apply pw_below_drewN | apply below_drew1) | exact HB.out)⟩
              · replace c35 := Bool.eq_false_iff.mpr c35
                subst c35
                have H1 : (if 0 ≤ (mn (l0.length : Int) (l1.length : Int)) then (if (mn (l0.length : Int) (l1.length : Int)) ≤ (l0.length : Int) then ((ticklerlaw02_of.f kj30 (l0.take ((mn (l0.length : Int) (l1.length : Int)) : Int).toNat)).bind fun t321 => ((keys_Encode.f t321).bind fun bt324 => ((ticklerlaw02_num.f bt324.2).bind fun t326 => (if t326 = 0 then (if (bt324.1.size : Int) ≤ (t298.size : Int) then (if 0 ≤ (bt324.1.size : Int) then (some ((t298.extract 0 ((bt324.1.size : Int) : Int).toNat).toList == bt324.1.toList)) else (none)) else (some false)) else (some false))))) else (none)) else (none)) = some r := by rw [if_neg (show ¬ (false = true) by decide)] at H; exact H
                clear H
                have H := H1
                clear H1
                obtain ⟨ji36, hji36⟩ : ∃ j_ : Int, (mn (l0.length : Int) (l1.length : Int)) = j_ := ⟨_, rfl⟩
                replace H : (if 0 ≤ (ji36) then (if (ji36) ≤ (l0.length : Int) then ((ticklerlaw02_of.f kj30 (l0.take ((ji36) : Int).toNat)).bind fun t321 => ((keys_Encode.f t321).bind fun bt324 => ((ticklerlaw02_num.f bt324.2).bind fun t326 => (if t326 = 0 then (if (bt324.1.size : Int) ≤ (t298.size : Int) then (if 0 ≤ (bt324.1.size : Int) then (some ((t298.extract 0 ((bt324.1.size : Int) : Int).toNat).toList == bt324.1.toList)) else (none)) else (some false)) else (some false))))) else (none)) else (none)) = some r := by first | (rw [hji36] at H; exact H) | (simp only [hji36] at H ⊢; exact H)
                have hji36_ : (if (l1.length : Int) < (l0.length : Int) then (l1.length : Int) else (l0.length : Int)) = ji36 := hji36
                by_cases c37 : 0 ≤ (ji36)
                · rw [if_pos c37] at H
                  have c37b0 := eq_true c37
                  have c37b1 : decide (0 ≤ (ji36)) = true := decide_eq_true c37
                  clear c37
                  by_cases c38 : (ji36) ≤ (l0.length : Int)
                  · rw [if_pos c38] at H
                    have c38b0 := eq_true c38
                    have c38b1 : decide ((ji36) ≤ (l0.length : Int)) = true := decide_eq_true c38
                    clear c38
                    obtain ⟨y317, hy317⟩ : ∃ y_ : List (S52), y_ = (l0.take ((ji36) : Int).toNat) := ⟨_, rfl⟩
                    replace H : ((ticklerlaw02_of.f kj30 y317).bind fun t321 => ((keys_Encode.f t321).bind fun bt324 => ((ticklerlaw02_num.f bt324.2).bind fun t326 => (if t326 = 0 then (if (bt324.1.size : Int) ≤ (t298.size : Int) then (if 0 ≤ (bt324.1.size : Int) then (some ((t298.extract 0 ((bt324.1.size : Int) : Int).toNat).toList == bt324.1.toList)) else (none)) else (some false)) else (some false))))) = some r := by first | (rw [hy317]; with_reducible exact H) | (have H2_ := (Option.bind_some _ _).symm.trans H; rw [hy317]; with_reducible exact H2_) | (have H2_ := (Option.bind_some _ _).symm.trans H; with_reducible exact H2_) | with_reducible exact H | (rw [hy317]; exact H) | exact H
                    have Ny317 := Aside0.mk hy317
                    clear hy317
                    replace H := Option.bind_eq_some_iff.mp H
                    obtain ⟨t321, A390, H⟩ := H
                    replace H : ((keys_Encode.f t321).bind fun bt324 => ((ticklerlaw02_num.f bt324.2).bind fun t326 => (if t326 = 0 then (if (bt324.1.size : Int) ≤ (t298.size : Int) then (if 0 ≤ (bt324.1.size : Int) then (some ((t298.extract 0 ((bt324.1.size : Int) : Int).toNat).toList == bt324.1.toList)) else (none)) else (some false)) else (some false)))) = some r := H
                    have A39 := Aside0.mk A390
                    clear A390
                    replace H := Option.bind_eq_some_iff.mp H
                    obtain ⟨⟨t324, t325⟩, A400, H⟩ := H
                    replace H : ((ticklerlaw02_num.f t325).bind fun t326 => (if t326 = 0 then (if (t324.size : Int) ≤ (t298.size : Int) then (if 0 ≤ (t324.size : Int) then (some ((t298.extract 0 ((t324.size : Int) : Int).toNat).toList == t324.toList)) else (none)) else (some false)) else (some false))) = some r := H
                    have A40 := Aside0.mk A400
                    clear A400
                    replace H := Option.bind_eq_some_iff.mp H
                    obtain ⟨t326, A410, H⟩ := H
                    replace H : (if t326 = 0 then (if (t324.size : Int) ≤ (t298.size : Int) then (if 0 ≤ (t324.size : Int) then (some ((t298.extract 0 ((t324.size : Int) : Int).toNat).toList == t324.toList)) else (none)) else (some false)) else (some false)) = some r := H
                    have A41 := Aside0.mk A410
                    clear A410
                    by_cases c42 : t326 = 0
                    · rw [if_pos c42] at H
                      have c42b0 : (t326 == 0) = true := beq_iff_eq.mpr c42
                      have c42b1 : (t326 != 0) = false := bne_eq_false_iff_eq.mpr c42
                      clear c42
                      by_cases c43 : (t324.size : Int) ≤ (t298.size : Int)
                      · rw [if_pos c43] at H
                        have c43b0 : decide ((t324.size : Int) ≤ (t298.size : Int)) = true := decide_eq_true c43
                        have c43b1 : decide (t324.size ≤ t298.size) = true := decide_eq_true (Int.ofNat_le.mp c43)
                        clear c43
                        by_cases c44 : 0 ≤ (t324.size : Int)
                        · rw [if_pos c44] at H
                          have c44b0 := eq_true c44
                          have c44b1 : decide (0 ≤ (t324.size : Int)) = true := decide_eq_true c44
                          clear c44
                          have c45b0 := eq_true (of_decide_eq_true (by first | (with_reducible assumption) | assumption) : (t324.size : Int) ≤ (t298.size : Int))
                          obtain rfl := Option.some.inj H
                          have q46 : ((ji36) : Int) ≤ ((l0.length : Int) : Int) := of_decide_eq_true (by first | (with_reducible assumption) | assumption)
                          obtain ⟨i046, hi046, _, hsz46, _⟩ := info_parts info52
                          have hroom46 : l0.length ≤ c0 := HC0.out
                          have hC46 : Kd.C k52 _ A0 l0.length l0 := HR0.out
                          have hcut46 := cut_to (P := Tryd.prog) 26 52 .i64 Tryd.underlying26 hi046 A0 l0.length c0 (ji36) (of_decide_eq_true (by first | (with_reducible assumption) | assumption)) q46 hroom46
                          have hr46 := Kd.C_take (m := ((ji36) : Int).toNat) hC46 (by omega)
                          have hy46 : y317.length = ((ji36) : Int).toNat := (by rw [Ny317.out, List.length_take]; omega)
                          rw [← Ny317.out] at hr46
                          rw [← hy46] at hcut46
                          have HR320 := Aside0.mk hr46
                          have HC320 := Aside0.mk (show y317.length ≤ c0 from by omega)
                          clear hr46 hC46 hroom46 hi046 hsz46
                          have KY46 := Aside0.mk hy46
                          clear hy46
                          replace q46 := eq_true q46
                          rcases (show (l1.length < l0.length ∧ (l1.length : Int) = ji36) ∨ (¬ l1.length < l0.length ∧ (l0.length : Int) = ji36) from by rw [← hji36_]; split <;> omega) with ⟨hmn, hjj⟩ | ⟨hmn, hjj⟩
                          all_goals
                            go_wp2_with (first | ((with_reducible refine gate_callee (f := 11) rfl ?_); refine goesL_ (some 79) rfl rfl Tryd.func11 (by kernel_rfl) rfl #[.slice A0 y317.length c0] rfl (by (try simp only [List.map_toArray, List.map_cons, List.map_nil]); first | done | rfl | (simp only [List.length_drop, List.length_take]; rfl)) ?_; (with_reducible refine (ticklerlaw02_of.calls kj30 _ _ y317 t321 _ ?side1 ?side2 A39.out).mono ?_); (case side1 => repeat (first | exact (Kd.C_below HR320.out HB.out) | (with_reducible refine Kd.C_alloc ?_ _) | (with_reducible refine Kd.C_drewN ?_ _) | (with_reducible refine Kd.C_drew ?_))); (case side2 => exact HC320.out); rintro e w47 ⟨v322, rfl, ho0, hb⟩; refine ⟨_, rfl, ?_⟩; have n0_ := Aside0.mk (Kd.R_lower ho0 (below_size (by repeat (first | (with_reducible first | exact HB.out | apply below_alloc | apply pw_below_drewN | apply below_drew1) | exact HB.out)))); have n1_ := Aside0.mk (below_step (by repeat (first | (with_reducible first | exact HB.out | apply below_alloc | apply pw_below_drewN | apply below_drew1) | exact HB.out)) hb); clear HB; have HO323 := n0_; have HB := n1_; clear n0_ n1_; (try clear hb); (try clear hb2); (try clear hk); (try clear hi); (try clear ho0); obtain ⟨Ao48, co48, eo48⟩ := Kd.R_slice HO323.out; subst eo48) | ((with_reducible refine gate_callee (f := 12) rfl ?_); refine goesL_ (some 80) rfl rfl Tryd.func12 (by kernel_rfl) rfl #[.slice Ao48 t321.length co48] rfl (by (try simp only [List.map_toArray, List.map_cons, List.map_nil]); first | done | rfl | (simp only [List.length_drop, List.length_take]; rfl)) ?_; (with_reducible refine (keys_Encode.calls _ _ t321 t324 t325 _ ?side1 ?side2 A40.out (HT.out.on (by repeat (first | (with_reducible first | exact HB.out | apply below_alloc | apply pw_below_drewN | apply below_drew1) | exact HB.out)))).mono ?_); (case side1 => repeat (first | exact (Kd.R_reads' HO323.out).2.2 | (with_reducible refine Kd.C_alloc ?_ _) | (with_reducible refine Kd.C_drewN ?_ _) | (with_reducible refine Kd.C_drew ?_))); (case side2 => exact (Kd.R_reads' HO323.out).2.1); rintro e w49 ⟨rfl, hb⟩; refine ⟨_, rfl, ?_⟩; have n0_ := Aside0.mk (Kd.R_below (by (with_reducible repeat (first | apply Kd.R_alloc | apply Kd.R_drewN | apply Kd.R_drew)); exact HO323.out) hb); have n1_ := Aside0.mk (below_step (by repeat (first | (with_reducible first | exact HB.out | apply below_alloc | apply pw_below_drewN | apply below_drew1) | exact HB.out)) hb); clear HO323; clear HB; have HO323 := n0_; have HB := n1_; clear n0_ n1_; (try clear hb); (try clear hb2); (try clear hk); (try clear hi)) | ((with_reducible refine gate_callee (f := 17) rfl ?_); refine goesL_ (some 84) rfl rfl Tryd.func17 (by kernel_rfl) rfl #[.int .i64 t325] rfl (by (try simp only [List.map_toArray, List.map_cons, List.map_nil]); first | done | rfl | (simp only [List.length_drop, List.length_take]; rfl)) ?_; (with_reducible refine (ticklerlaw02_num.calls t325 t326 _ A41.out).mono ?_); rintro e w' ⟨rfl, ⟨nd, rfl⟩⟩; refine ⟨_, rfl, ?_⟩))
                            go_ret
                            exact ⟨by first | rfl | (simp [errW_none, errW_some] <;> rfl) | (simp only [← hji36]; first | rfl | (simp [errW_none, errW_some] <;> rfl)) | (simp [*, errW_none, errW_some] <;> rfl), by repeat (first | (with_reducible first | exact HB.out | apply below_alloc | apply pw_below_drewN | apply below_drew1) | exact HB.out)⟩
                        · rw [if_neg c44] at H
                          exact absurd H (by simp)
                      · rw [if_neg c43] at H
                        have c43b0 : decide ((t324.size : Int) ≤ (t298.size : Int)) = false := decide_eq_false c43
                        have c43b1 : decide (t324.size ≤ t298.size) = false := decide_eq_false (fun h => c43 (Int.ofNat_le.mpr h))
                        clear c43
                        obtain rfl := Option.some.inj H
                        have q50 : ((ji36) : Int) ≤ ((l0.length : Int) : Int) := of_decide_eq_true (by first | (with_reducible assumption) | assumption)
                        obtain ⟨i050, hi050, _, hsz50, _⟩ := info_parts info52
                        have hroom50 : l0.length ≤ c0 := HC0.out
                        have hC50 : Kd.C k52 _ A0 l0.length l0 := HR0.out
                        have hcut50 := cut_to (P := Tryd.prog) 26 52 .i64 Tryd.underlying26 hi050 A0 l0.length c0 (ji36) (of_decide_eq_true (by first | (with_reducible assumption) | assumption)) q50 hroom50
                        have hr50 := Kd.C_take (m := ((ji36) : Int).toNat) hC50 (by omega)
                        have hy50 : y317.length = ((ji36) : Int).toNat := (by rw [Ny317.out, List.length_take]; omega)
                        rw [← Ny317.out] at hr50
                        rw [← hy50] at hcut50
                        have HR320 := Aside0.mk hr50
                        have HC320 := Aside0.mk (show y317.length ≤ c0 from by omega)
                        clear hr50 hC50 hroom50 hi050 hsz50
                        have KY50 := Aside0.mk hy50
                        clear hy50
                        replace q50 := eq_true q50
                        rcases (show (l1.length < l0.length ∧ (l1.length : Int) = ji36) ∨ (¬ l1.length < l0.length ∧ (l0.length : Int) = ji36) from by rw [← hji36_]; split <;> omega) with ⟨hmn, hjj⟩ | ⟨hmn, hjj⟩
                        all_goals
                          go_wp2_with (first | ((with_reducible refine gate_callee (f := 11) rfl ?_); refine goesL_ (some 79) rfl rfl Tryd.func11 (by kernel_rfl) rfl #[.slice A0 y317.length c0] rfl (by (try simp only [List.map_toArray, List.map_cons, List.map_nil]); first | done | rfl | (simp only [List.length_drop, List.length_take]; rfl)) ?_; (with_reducible refine (ticklerlaw02_of.calls kj30 _ _ y317 t321 _ ?side1 ?side2 A39.out).mono ?_); (case side1 => repeat (first | exact (Kd.C_below HR320.out HB.out) | (with_reducible refine Kd.C_alloc ?_ _) | (with_reducible refine Kd.C_drewN ?_ _) | (with_reducible refine Kd.C_drew ?_))); (case side2 => exact HC320.out); rintro e w51 ⟨v322, rfl, ho0, hb⟩; refine ⟨_, rfl, ?_⟩; have n0_ := Aside0.mk (Kd.R_lower ho0 (below_size (by repeat (first | (with_reducible first | exact HB.out | apply below_alloc | apply pw_below_drewN | apply below_drew1) | exact HB.out)))); have n1_ := Aside0.mk (below_step (by repeat (first | (with_reducible first | exact HB.out | apply below_alloc | apply pw_below_drewN | apply below_drew1) | exact HB.out)) hb); clear HB; have HO323 := n0_; have HB := n1_; clear n0_ n1_; (try clear hb); (try clear hb2); (try clear hk); (try clear hi); (try clear ho0); obtain ⟨Ao52, co52, eo52⟩ := Kd.R_slice HO323.out; subst eo52) | ((with_reducible refine gate_callee (f := 12) rfl ?_); refine goesL_ (some 80) rfl rfl Tryd.func12 (by kernel_rfl) rfl #[.slice Ao52 t321.length co52] rfl (by (try simp only [List.map_toArray, List.map_cons, List.map_nil]); first | done | rfl | (simp only [List.length_drop, List.length_take]; rfl)) ?_; (with_reducible refine (keys_Encode.calls _ _ t321 t324 t325 _ ?side1 ?side2 A40.out (HT.out.on (by repeat (first | (with_reducible first | exact HB.out | apply below_alloc | apply pw_below_drewN | apply below_drew1) | exact HB.out)))).mono ?_); (case side1 => repeat (first | exact (Kd.R_reads' HO323.out).2.2 | (with_reducible refine Kd.C_alloc ?_ _) | (with_reducible refine Kd.C_drewN ?_ _) | (with_reducible refine Kd.C_drew ?_))); (case side2 => exact (Kd.R_reads' HO323.out).2.1); rintro e w53 ⟨rfl, hb⟩; refine ⟨_, rfl, ?_⟩; have n0_ := Aside0.mk (Kd.R_below (by (with_reducible repeat (first | apply Kd.R_alloc | apply Kd.R_drewN | apply Kd.R_drew)); exact HO323.out) hb); have n1_ := Aside0.mk (below_step (by repeat (first | (with_reducible first | exact HB.out | apply below_alloc | apply pw_below_drewN | apply below_drew1) | exact HB.out)) hb); clear HO323; clear HB; have HO323 := n0_; have HB := n1_; clear n0_ n1_; (try clear hb); (try clear hb2); (try clear hk); (try clear hi)) | ((with_reducible refine gate_callee (f := 17) rfl ?_); refine goesL_ (some 84) rfl rfl Tryd.func17 (by kernel_rfl) rfl #[.int .i64 t325] rfl (by (try simp only [List.map_toArray, List.map_cons, List.map_nil]); first | done | rfl | (simp only [List.length_drop, List.length_take]; rfl)) ?_; (with_reducible refine (ticklerlaw02_num.calls t325 t326 _ A41.out).mono ?_); rintro e w' ⟨rfl, ⟨nd, rfl⟩⟩; refine ⟨_, rfl, ?_⟩))
                          go_ret
                          exact ⟨by first | rfl | (simp [errW_none, errW_some] <;> rfl) | (simp only [← hji36]; first | rfl | (simp [errW_none, errW_some] <;> rfl)) | (simp [*, errW_none, errW_some] <;> rfl), by repeat (first | (with_reducible first | exact HB.out | apply below_alloc | apply pw_below_drewN | apply below_drew1) | exact HB.out)⟩
                    · rw [if_neg c42] at H
                      have c42b0 : (t326 == 0) = false := beq_eq_false_iff_ne.mpr c42
                      have c42b1 : (t326 != 0) = true := bne_iff_ne.mpr c42
                      obtain rfl := Option.some.inj H
                      have q54 : ((ji36) : Int) ≤ ((l0.length : Int) : Int) := of_decide_eq_true (by first | (with_reducible assumption) | assumption)
                      obtain ⟨i054, hi054, _, hsz54, _⟩ := info_parts info52
                      have hroom54 : l0.length ≤ c0 := HC0.out
                      have hC54 : Kd.C k52 _ A0 l0.length l0 := HR0.out
                      have hcut54 := cut_to (P := Tryd.prog) 26 52 .i64 Tryd.underlying26 hi054 A0 l0.length c0 (ji36) (of_decide_eq_true (by first | (with_reducible assumption) | assumption)) q54 hroom54
                      have hr54 := Kd.C_take (m := ((ji36) : Int).toNat) hC54 (by omega)
                      have hy54 : y317.length = ((ji36) : Int).toNat := (by rw [Ny317.out, List.length_take]; omega)
                      rw [← Ny317.out] at hr54
                      rw [← hy54] at hcut54
                      have HR320 := Aside0.mk hr54
                      have HC320 := Aside0.mk (show y317.length ≤ c0 from by omega)
                      clear hr54 hC54 hroom54 hi054 hsz54
                      have KY54 := Aside0.mk hy54
                      clear hy54
                      replace q54 := eq_true q54
                      rcases (show (l1.length < l0.length ∧ (l1.length : Int) = ji36) ∨ (¬ l1.length < l0.length ∧ (l0.length : Int) = ji36) from by rw [← hji36_]; split <;> omega) with ⟨hmn, hjj⟩ | ⟨hmn, hjj⟩
                      all_goals
                        go_wp2_with (first | ((with_reducible refine gate_callee (f := 11) rfl ?_); refine goesL_ (some 79) rfl rfl Tryd.func11 (by kernel_rfl) rfl #[.slice A0 y317.length c0] rfl (by (try simp only [List.map_toArray, List.map_cons, List.map_nil]); first | done | rfl | (simp only [List.length_drop, List.length_take]; rfl)) ?_; (with_reducible refine (ticklerlaw02_of.calls kj30 _ _ y317 t321 _ ?side1 ?side2 A39.out).mono ?_); (case side1 => repeat (first | exact (Kd.C_below HR320.out HB.out) | (with_reducible refine Kd.C_alloc ?_ _) | (with_reducible refine Kd.C_drewN ?_ _) | (with_reducible refine Kd.C_drew ?_))); (case side2 => exact HC320.out); rintro e w55 ⟨v322, rfl, ho0, hb⟩; refine ⟨_, rfl, ?_⟩; have n0_ := Aside0.mk (Kd.R_lower ho0 (below_size (by repeat (first | (with_reducible first | exact HB.out | apply below_alloc | apply pw_below_drewN | apply below_drew1) | exact HB.out)))); have n1_ := Aside0.mk (below_step (by repeat (first | (with_reducible first | exact HB.out | apply below_alloc | apply pw_below_drewN | apply below_drew1) | exact HB.out)) hb); clear HB; have HO323 := n0_; have HB := n1_; clear n0_ n1_; (try clear hb); (try clear hb2); (try clear hk); (try clear hi); (try clear ho0); obtain ⟨Ao56, co56, eo56⟩ := Kd.R_slice HO323.out; subst eo56) | ((with_reducible refine gate_callee (f := 12) rfl ?_); refine goesL_ (some 80) rfl rfl Tryd.func12 (by kernel_rfl) rfl #[.slice Ao56 t321.length co56] rfl (by (try simp only [List.map_toArray, List.map_cons, List.map_nil]); first | done | rfl | (simp only [List.length_drop, List.length_take]; rfl)) ?_; (with_reducible refine (keys_Encode.calls _ _ t321 t324 t325 _ ?side1 ?side2 A40.out (HT.out.on (by repeat (first | (with_reducible first | exact HB.out | apply below_alloc | apply pw_below_drewN | apply below_drew1) | exact HB.out)))).mono ?_); (case side1 => repeat (first | exact (Kd.R_reads' HO323.out).2.2 | (with_reducible refine Kd.C_alloc ?_ _) | (with_reducible refine Kd.C_drewN ?_ _) | (with_reducible refine Kd.C_drew ?_))); (case side2 => exact (Kd.R_reads' HO323.out).2.1); rintro e w57 ⟨rfl, hb⟩; refine ⟨_, rfl, ?_⟩; have n0_ := Aside0.mk (Kd.R_below (by (with_reducible repeat (first | apply Kd.R_alloc | apply Kd.R_drewN | apply Kd.R_drew)); exact HO323.out) hb); have n1_ := Aside0.mk (below_step (by repeat (first | (with_reducible first | exact HB.out | apply below_alloc | apply pw_below_drewN | apply below_drew1) | exact HB.out)) hb); clear HO323; clear HB; have HO323 := n0_; have HB := n1_; clear n0_ n1_; (try clear hb); (try clear hb2); (try clear hk); (try clear hi)) | ((with_reducible refine gate_callee (f := 17) rfl ?_); refine goesL_ (some 84) rfl rfl Tryd.func17 (by kernel_rfl) rfl #[.int .i64 t325] rfl (by (try simp only [List.map_toArray, List.map_cons, List.map_nil]); first | done | rfl | (simp only [List.length_drop, List.length_take]; rfl)) ?_; (with_reducible refine (ticklerlaw02_num.calls t325 t326 _ A41.out).mono ?_); rintro e w' ⟨rfl, ⟨nd, rfl⟩⟩; refine ⟨_, rfl, ?_⟩))
                        go_ret
                        exact ⟨by first | rfl | (simp [errW_none, errW_some] <;> rfl) | (simp only [← hji36]; first | rfl | (simp [errW_none, errW_some] <;> rfl)) | (simp [*, errW_none, errW_some] <;> rfl), by repeat (first | (with_reducible first | exact HB.out | apply below_alloc | apply pw_below_drewN | apply below_drew1) | exact HB.out)⟩
                  · rw [if_neg c38] at H
                    exact absurd H (by simp)
                · rw [if_neg c37] at H
                  exact absurd H (by simp)
  · replace c4 := Bool.eq_false_iff.mpr c4
    subst c4
    have H1 : (some false) = some r := by rw [if_neg (show ¬ (false = true) by decide)] at H; exact H
    clear H
    have H := H1
    clear H1
    obtain rfl := Option.some.inj H
    go_enter Tryd.func8, Tryd.ntmps8
    go_wp2_with (first | ((with_reducible refine gate_callee (f := 9) rfl ?_); refine goesL_ (some 14) rfl rfl Tryd.func9 (by kernel_rfl) rfl #[] rfl (by (try simp only [List.map_toArray, List.map_cons, List.map_nil]); first | done | rfl | (simp only [List.length_drop, List.length_take]; rfl)) ?_; (with_reducible refine (ticklerlaw02_alive.calls  false _ A3.out (HT.out.on (by repeat (first | (with_reducible first | exact HB.out | apply below_alloc | apply pw_below_drewN | apply below_drew1) | exact HB.out)))).mono ?_); rintro e w58 ⟨rfl, hb⟩; refine ⟨_, rfl, ?_⟩; have n0_ := Aside0.mk (below_step (by repeat (first | (with_reducible first | exact HB.out | apply below_alloc | apply pw_below_drewN | apply below_drew1) | exact HB.out)) hb); clear HB; have HB := n0_; clear n0_; (try clear hb); (try clear hb2); (try clear hk); (try clear hi)))
    go_ret
    exact ⟨by first | rfl | (simp [errW_none, errW_some] <;> rfl) | (simp [*, errW_none, errW_some] <;> rfl), by repeat (first | (with_reducible first | exact HB.out | apply below_alloc | apply pw_below_drewN | apply below_drew1) | exact HB.out)⟩

end Go.Proofs.YtdodfelbejkbiaaDoor.K
