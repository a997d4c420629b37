/- What the Go functions that FnWords reaches compute, as Lean functions, and that the machine's calls do so; no conditions. -/
import Derived.Test.YtglefglknlcojabPFnWordsx0
import Derived.Test.YtglefglknlcojabPFnWordsx1
import Derived.Test.YtglefglknlcojabPFnWordsx2
import Derived.Test.YtglefglknlcojabPFnWordsx3
namespace Go.Proofs.Ytglefglknlcojab.PFnWords
open Go.RowKit Go.Proofs.YtglefglknlcojabW.PrintWords Go.Proofs.YtglefglknlcojabW.PrintLast Go.Proofs.YtglefglknlcojabW.PrintMore
attribute [local go_sem] max2_int min2_int max_two min_two max_three min_three max_four min_four   -- for this text's walks alone
set_option linter.unusedVariables false
set_option linter.unusedSimpArgs false

/-! ### laws_FnWords: function 3 -/
def laws_FnWords.j0 : Nat → ByteArray → ByteArray → Int → Int → Bool → Option (Bool)
  | 0, _, _, _, _, _ => none
  | k + 1, x5, x6, x8, x9, x71 => if x71 = true then (some false) else ((impl_Less.f x5 x6).bind fun t287 => ((spec_Less.f x5 x6).bind fun t288 => (if (t287 == t288) = true then (if x5.toList = x6.toList then ((impl_Less.f x5 x5).bind fun t289 => (if t289 = true then (some false) else ((impl_Least.f x8 x9).bind fun t290 => ((impl_Most.f x8 x9).bind fun t291 => (if t290 ≤ t291 then ((impl_PlainOk.f k (⟨#[]⟩ : ByteArray)).bind fun t292 => (some t292)) else (some false)))))) else ((impl_Less.f x5 x6).bind fun t293 => ((impl_Less.f x6 x5).bind fun t294 => (if (t293 != t294) = true then ((impl_Less.f x5 x5).bind fun t295 => (if t295 = true then (some false) else ((impl_Least.f x8 x9).bind fun t296 => ((impl_Most.f x8 x9).bind fun t297 => (if t296 ≤ t297 then ((impl_PlainOk.f k (⟨#[]⟩ : ByteArray)).bind fun t298 => (some t298)) else (some false)))))) else (some false))))) else (some false))))
def laws_FnWords.f (k : Nat) (l0 : List Int) : Option (Bool) := (laws_big.f l0).bind fun t265 => (if t265 = true then (some true) else ((spec_DrawNameOk.f k l0).bind fun t266 => ((spec_DrawPlainOk.f k l0).bind fun t267 => ((spec_DrawLess.f k l0).bind fun bt268 => ((spec_DrawInOrder.f k l0).bind fun t270 => ((spec_DrawLeast.f k l0).bind fun bt273 => ((spec_DrawMost.f k l0).bind fun bt275 => ((impl_NameOk.f k t266).bind fun t277 => ((spec_NameOk.f k t266).bind fun t278 => (if (t277 != t278) = true then (laws_FnWords.j0 k bt268.1 bt268.2 bt273.1 bt273.2 true) else ((impl_PlainOk.f k t267).bind fun t279 => ((spec_PlainOk.f k t267).bind fun t280 => (if (t279 != t280) = true then (laws_FnWords.j0 k bt268.1 bt268.2 bt273.1 bt273.2 true) else ((impl_InOrder.f k t270).bind fun t281 => ((spec_InOrder.f k t270).bind fun t282 => (if (t281 != t282) = true then (laws_FnWords.j0 k bt268.1 bt268.2 bt273.1 bt273.2 true) else ((impl_Least.f bt273.1 bt273.2).bind fun t283 => ((spec_Least.f bt273.1 bt273.2).bind fun t284 => (if t283 = t284 then ((impl_Most.f bt275.1 bt275.2).bind fun t285 => ((spec_Most.f bt275.1 bt275.2).bind fun t286 => (laws_FnWords.j0 k bt268.1 bt268.2 bt273.1 bt273.2 (t285 != t286)))) else (laws_FnWords.j0 k bt268.1 bt268.2 bt273.1 bt273.2 true))))))))))))))))))))
theorem laws_FnWords.mono_l : ∀ k, (∀ y0 y1 y2 y3 y4, LeO (laws_FnWords.j0 k y0 y1 y2 y3 y4) (laws_FnWords.j0 (k + 1) y0 y1 y2 y3 y4))
  | 0 => fun _ _ _ _ _ r h => by simp [laws_FnWords.j0] at h
  | k + 1 => by
    have ih0 := laws_FnWords.mono_l k
    · intro y0 y1 y2 y3 y4
      unfold laws_FnWords.j0
      repeat' first
      | (with_reducible exact ih0 _ _ _ _ _)
      | (with_reducible exact impl_InOrder.mono _ _)
      | (with_reducible exact impl_NameOk.mono _ _)
      | (with_reducible exact impl_PlainOk.mono _ _)
      | (with_reducible exact spec_DrawInOrder.mono _ _)
      | (with_reducible exact spec_DrawLeast.mono _ _)
      | (with_reducible exact spec_DrawLess.mono _ _)
      | (with_reducible exact spec_DrawMost.mono _ _)
      | (with_reducible exact spec_DrawNameOk.mono _ _)
      | (with_reducible exact spec_DrawPlainOk.mono _ _)
      | (with_reducible exact spec_InOrder.mono _ _)
      | (with_reducible exact spec_NameOk.mono _ _)
      | (with_reducible exact spec_PlainOk.mono _ _)
      | (with_reducible exact LeO.refl _)
      | (with_reducible exact LeO.none _)
      | (with_reducible refine LeO.ite ?_ ?_)
      | (with_reducible refine LeO.bind ?_ (fun _ => ?_))
      | exact ih0 _ _ _ _ _
      | exact impl_InOrder.mono _ _
      | exact impl_NameOk.mono _ _
      | exact impl_PlainOk.mono _ _
      | exact spec_DrawInOrder.mono _ _
      | exact spec_DrawLeast.mono _ _
      | exact spec_DrawLess.mono _ _
      | exact spec_DrawMost.mono _ _
      | exact spec_DrawNameOk.mono _ _
      | exact spec_DrawPlainOk.mono _ _
      | exact spec_InOrder.mono _ _
      | exact spec_NameOk.mono _ _
      | exact spec_PlainOk.mono _ _
      | exact LeO.none _
      | refine LeO.ite ?_ ?_
      | refine LeO.bind ?_ (fun _ => ?_)
theorem laws_FnWords.mono : ∀ a0 k, LeO (laws_FnWords.f k a0) (laws_FnWords.f (k + 1) a0) := by
  intro a0 k
  have ih0 := laws_FnWords.mono_l k
  unfold laws_FnWords.f
  repeat' first
      | (with_reducible exact ih0 _ _ _ _ _)
      | (with_reducible exact impl_InOrder.mono _ _)
      | (with_reducible exact impl_NameOk.mono _ _)
      | (with_reducible exact impl_PlainOk.mono _ _)
      | (with_reducible exact spec_DrawInOrder.mono _ _)
      | (with_reducible exact spec_DrawLeast.mono _ _)
      | (with_reducible exact spec_DrawLess.mono _ _)
      | (with_reducible exact spec_DrawMost.mono _ _)
      | (with_reducible exact spec_DrawNameOk.mono _ _)
      | (with_reducible exact spec_DrawPlainOk.mono _ _)
      | (with_reducible exact spec_InOrder.mono _ _)
      | (with_reducible exact spec_NameOk.mono _ _)
      | (with_reducible exact spec_PlainOk.mono _ _)
      | (with_reducible exact LeO.refl _)
      | (with_reducible exact LeO.none _)
      | (with_reducible refine LeO.ite ?_ ?_)
      | (with_reducible refine LeO.bind ?_ (fun _ => ?_))
      | exact ih0 _ _ _ _ _
      | exact impl_InOrder.mono _ _
      | exact impl_NameOk.mono _ _
      | exact impl_PlainOk.mono _ _
      | exact spec_DrawInOrder.mono _ _
      | exact spec_DrawLeast.mono _ _
      | exact spec_DrawLess.mono _ _
      | exact spec_DrawMost.mono _ _
      | exact spec_DrawNameOk.mono _ _
      | exact spec_DrawPlainOk.mono _ _
      | exact spec_InOrder.mono _ _
      | exact spec_NameOk.mono _ _
      | exact spec_PlainOk.mono _ _
      | exact LeO.none _
      | refine LeO.ite ?_ ?_
      | refine LeO.bind ?_ (fun _ => ?_)
set_option maxHeartbeats 8000000 in
set_option maxRecDepth 100000 in
theorem laws_FnWords.calls (k : Nat) (A0 : Option Addr) (c0 : Nat) (l0 : List Int) (r : Bool) (w : World) (hr0 : Kd.C (Kd.int .u8) w A0 l0.length l0) (hc0 : l0.length ≤ c0) (h : laws_FnWords.f k l0 = some r) :
    Calls Try.prog 3 #[.slice A0 l0.length c0] w fun e w' => e = .returned (.bool r) ∧ Below w.heap.size w w' := by
  have HR0 := Aside0.mk hr0
  have HC0 := Aside0.mk hc0
  clear hr0 hc0
  have HB := Aside0.mk (Below.refl w.heap.size w)
  have H : ((laws_big.f l0).bind fun t265 => (if t265 = true then (some true) else ((spec_DrawNameOk.f k l0).bind fun t266 => ((spec_DrawPlainOk.f k l0).bind fun t267 => ((spec_DrawLess.f k l0).bind fun bt268 => ((spec_DrawInOrder.f k l0).bind fun t270 => ((spec_DrawLeast.f k l0).bind fun bt273 => ((spec_DrawMost.f k l0).bind fun bt275 => ((impl_NameOk.f k t266).bind fun t277 => ((spec_NameOk.f k t266).bind fun t278 => (if (t277 != t278) = true then (laws_FnWords.j0 k bt268.1 bt268.2 bt273.1 bt273.2 true) else ((impl_PlainOk.f k t267).bind fun t279 => ((spec_PlainOk.f k t267).bind fun t280 => (if (t279 != t280) = true then (laws_FnWords.j0 k bt268.1 bt268.2 bt273.1 bt273.2 true) else ((impl_InOrder.f k t270).bind fun t281 => ((spec_InOrder.f k t270).bind fun t282 => (if (t281 != t282) = true then (laws_FnWords.j0 k bt268.1 bt268.2 bt273.1 bt273.2 true) else ((impl_Least.f bt273.1 bt273.2).bind fun t283 => ((spec_Least.f bt273.1 bt273.2).bind fun t284 => (if t283 = t284 then ((impl_Most.f bt275.1 bt275.2).bind fun t285 => ((spec_Most.f bt275.1 bt275.2).bind fun t286 => (laws_FnWords.j0 k bt268.1 bt268.2 bt273.1 bt273.2 (t285 != t286)))) else (laws_FnWords.j0 k bt268.1 bt268.2 bt273.1 bt273.2 true))))))))))))))))))))) = some r := h
  clear h
  replace H := Option.bind_eq_some_iff.mp H
  obtain ⟨t265, A20, H⟩ := H
  replace H : (if t265 = true then (some true) else ((spec_DrawNameOk.f k l0).bind fun t266 => ((spec_DrawPlainOk.f k l0).bind fun t267 => ((spec_DrawLess.f k l0).bind fun bt268 => ((spec_DrawInOrder.f k l0).bind fun t270 => ((spec_DrawLeast.f k l0).bind fun bt273 => ((spec_DrawMost.f k l0).bind fun bt275 => ((impl_NameOk.f k t266).bind fun t277 => ((spec_NameOk.f k t266).bind fun t278 => (if (t277 != t278) = true then (laws_FnWords.j0 k bt268.1 bt268.2 bt273.1 bt273.2 true) else ((impl_PlainOk.f k t267).bind fun t279 => ((spec_PlainOk.f k t267).bind fun t280 => (if (t279 != t280) = true then (laws_FnWords.j0 k bt268.1 bt268.2 bt273.1 bt273.2 true) else ((impl_InOrder.f k t270).bind fun t281 => ((spec_InOrder.f k t270).bind fun t282 => (if (t281 != t282) = true then (laws_FnWords.j0 k bt268.1 bt268.2 bt273.1 bt273.2 true) else ((impl_Least.f bt273.1 bt273.2).bind fun t283 => ((spec_Least.f bt273.1 bt273.2).bind fun t284 => (if t283 = t284 then ((impl_Most.f bt275.1 bt275.2).bind fun t285 => ((spec_Most.f bt275.1 bt275.2).bind fun t286 => (laws_FnWords.j0 k bt268.1 bt268.2 bt273.1 bt273.2 (t285 != t286)))) else (laws_FnWords.j0 k bt268.1 bt268.2 bt273.1 bt273.2 true)))))))))))))))))))) = some r := H
  have A2 := Aside0.mk A20
  clear A20
  by_cases c3 : t265 = true
  · subst c3
    have H1 : (some true) = some r := by rw [if_pos rfl] at H; exact H
    clear H
    have H := H1
    clear H1
    obtain rfl := Option.some.inj H
    go_enter Try.func3, Try.ntmps3
    go_wp2_with (first | ((with_reducible refine gate_callee (f := 13) rfl ?_); refine goesL_ (some 13) rfl rfl Try.func13 (by kernel_rfl) rfl #[.slice A0 l0.length c0] rfl (by (try simp only [List.map_toArray, List.map_cons, List.map_nil]); first | done | rfl | (simp only [List.length_drop, List.length_take]; rfl)) ?_; (with_reducible refine (laws_big.calls _ _ l0 true _ ?side1 ?side2 A2.out).mono ?_); (case side1 => repeat (first | exact HR0.out | (with_reducible refine Kd.C_alloc ?_ _) | (with_reducible refine Kd.C_drewN ?_ _) | (with_reducible refine Kd.C_drew ?_))); (case side2 => exact HC0.out); rintro e w' ⟨rfl, ⟨nd, rfl⟩⟩; refine ⟨_, rfl, ?_⟩))
    go_ret
    exact ⟨by first | rfl | (simp [errW_none, errW_some] <;> rfl) | (simp [*, errW_none, errW_some] <;> rfl), by repeat (first | (with_reducible first | exact HB.out | apply below_alloc | apply pw_below_drewN | apply below_drew1) | exact HB.out)⟩
  · replace c3 := Bool.eq_false_iff.mpr c3
    subst c3
    have H1 : ((spec_DrawNameOk.f k l0).bind fun t266 => ((spec_DrawPlainOk.f k l0).bind fun t267 => ((spec_DrawLess.f k l0).bind fun bt268 => ((spec_DrawInOrder.f k l0).bind fun t270 => ((spec_DrawLeast.f k l0).bind fun bt273 => ((spec_DrawMost.f k l0).bind fun bt275 => ((impl_NameOk.f k t266).bind fun t277 => ((spec_NameOk.f k t266).bind fun t278 => (if (t277 != t278) = true then (laws_FnWords.j0 k bt268.1 bt268.2 bt273.1 bt273.2 true) else ((impl_PlainOk.f k t267).bind fun t279 => ((spec_PlainOk.f k t267).bind fun t280 => (if (t279 != t280) = true then (laws_FnWords.j0 k bt268.1 bt268.2 bt273.1 bt273.2 true) else ((impl_InOrder.f k t270).bind fun t281 => ((spec_InOrder.f k t270).bind fun t282 => (if (t281 != t282) = true then (laws_FnWords.j0 k bt268.1 bt268.2 bt273.1 bt273.2 true) else ((impl_Least.f bt273.1 bt273.2).bind fun t283 => ((spec_Least.f bt273.1 bt273.2).bind fun t284 => (if t283 = t284 then ((impl_Most.f bt275.1 bt275.2).bind fun t285 => ((spec_Most.f bt275.1 bt275.2).bind fun t286 => (laws_FnWords.j0 k bt268.1 bt268.2 bt273.1 bt273.2 (t285 != t286)))) else (laws_FnWords.j0 k bt268.1 bt268.2 bt273.1 bt273.2 true))))))))))))))))))) = some r := by rw [if_neg (show ¬ (false = true) by decide)] at H; exact H
    clear H
    have H := H1
    clear H1
    replace H := Option.bind_eq_some_iff.mp H
    obtain ⟨t266, A40, H⟩ := H
    replace H : ((spec_DrawPlainOk.f k l0).bind fun t267 => ((spec_DrawLess.f k l0).bind fun bt268 => ((spec_DrawInOrder.f k l0).bind fun t270 => ((spec_DrawLeast.f k l0).bind fun bt273 => ((spec_DrawMost.f k l0).bind fun bt275 => ((impl_NameOk.f k t266).bind fun t277 => ((spec_NameOk.f k t266).bind fun t278 => (if (t277 != t278) = true then (laws_FnWords.j0 k bt268.1 bt268.2 bt273.1 bt273.2 true) else ((impl_PlainOk.f k t267).bind fun t279 => ((spec_PlainOk.f k t267).bind fun t280 => (if (t279 != t280) = true then (laws_FnWords.j0 k bt268.1 bt268.2 bt273.1 bt273.2 true) else ((impl_InOrder.f k t270).bind fun t281 => ((spec_InOrder.f k t270).bind fun t282 => (if (t281 != t282) = true then (laws_FnWords.j0 k bt268.1 bt268.2 bt273.1 bt273.2 true) else ((impl_Least.f bt273.1 bt273.2).bind fun t283 => ((spec_Least.f bt273.1 bt273.2).bind fun t284 => (if t283 = t284 then ((impl_Most.f bt275.1 bt275.2).bind fun t285 => ((spec_Most.f bt275.1 bt275.2).bind fun t286 => (laws_FnWords.j0 k bt268.1 bt268.2 bt273.1 bt273.2 (t285 != t286)))) else (laws_FnWords.j0 k bt268.1 bt268.2 bt273.1 bt273.2 true)))))))))))))))))) = some r := H
    have A4 := Aside0.mk A40
    clear A40
    replace H := Option.bind_eq_some_iff.mp H
    obtain ⟨t267, A50, H⟩ := H
    replace H : ((spec_DrawLess.f k l0).bind fun bt268 => ((spec_DrawInOrder.f k l0).bind fun t270 => ((spec_DrawLeast.f k l0).bind fun bt273 => ((spec_DrawMost.f k l0).bind fun bt275 => ((impl_NameOk.f k t266).bind fun t277 => ((spec_NameOk.f k t266).bind fun t278 => (if (t277 != t278) = true then (laws_FnWords.j0 k bt268.1 bt268.2 bt273.1 bt273.2 true) else ((impl_PlainOk.f k t267).bind fun t279 => ((spec_PlainOk.f k t267).bind fun t280 => (if (t279 != t280) = true then (laws_FnWords.j0 k bt268.1 bt268.2 bt273.1 bt273.2 true) else ((impl_InOrder.f k t270).bind fun t281 => ((spec_InOrder.f k t270).bind fun t282 => (if (t281 != t282) = true then (laws_FnWords.j0 k bt268.1 bt268.2 bt273.1 bt273.2 true) else ((impl_Least.f bt273.1 bt273.2).bind fun t283 => ((spec_Least.f bt273.1 bt273.2).bind fun t284 => (if t283 = t284 then ((impl_Most.f bt275.1 bt275.2).bind fun t285 => ((spec_Most.f bt275.1 bt275.2).bind fun t286 => (laws_FnWords.j0 k bt268.1 bt268.2 bt273.1 bt273.2 (t285 != t286)))) else (laws_FnWords.j0 k bt268.1 bt268.2 bt273.1 bt273.2 true))))))))))))))))) = some r := H
    have A5 := Aside0.mk A50
    clear A50
    replace H := Option.bind_eq_some_iff.mp H
    obtain ⟨⟨t268, t269⟩, A60, H⟩ := H
    replace H : ((spec_DrawInOrder.f k l0).bind fun t270 => ((spec_DrawLeast.f k l0).bind fun bt273 => ((spec_DrawMost.f k l0).bind fun bt275 => ((impl_NameOk.f k t266).bind fun t277 => ((spec_NameOk.f k t266).bind fun t278 => (if (t277 != t278) = true then (laws_FnWords.j0 k t268 t269 bt273.1 bt273.2 true) else ((impl_PlainOk.f k t267).bind fun t279 => ((spec_PlainOk.f k t267).bind fun t280 => (if (t279 != t280) = true then (laws_FnWords.j0 k t268 t269 bt273.1 bt273.2 true) else ((impl_InOrder.f k t270).bind fun t281 => ((spec_InOrder.f k t270).bind fun t282 => (if (t281 != t282) = true then (laws_FnWords.j0 k t268 t269 bt273.1 bt273.2 true) else ((impl_Least.f bt273.1 bt273.2).bind fun t283 => ((spec_Least.f bt273.1 bt273.2).bind fun t284 => (if t283 = t284 then ((impl_Most.f bt275.1 bt275.2).bind fun t285 => ((spec_Most.f bt275.1 bt275.2).bind fun t286 => (laws_FnWords.j0 k t268 t269 bt273.1 bt273.2 (t285 != t286)))) else (laws_FnWords.j0 k t268 t269 bt273.1 bt273.2 true)))))))))))))))) = some r := H
    have A6 := Aside0.mk A60
    clear A60
    replace H := Option.bind_eq_some_iff.mp H
    obtain ⟨t270, A70, H⟩ := H
    replace H : ((spec_DrawLeast.f k l0).bind fun bt273 => ((spec_DrawMost.f k l0).bind fun bt275 => ((impl_NameOk.f k t266).bind fun t277 => ((spec_NameOk.f k t266).bind fun t278 => (if (t277 != t278) = true then (laws_FnWords.j0 k t268 t269 bt273.1 bt273.2 true) else ((impl_PlainOk.f k t267).bind fun t279 => ((spec_PlainOk.f k t267).bind fun t280 => (if (t279 != t280) = true then (laws_FnWords.j0 k t268 t269 bt273.1 bt273.2 true) else ((impl_InOrder.f k t270).bind fun t281 => ((spec_InOrder.f k t270).bind fun t282 => (if (t281 != t282) = true then (laws_FnWords.j0 k t268 t269 bt273.1 bt273.2 true) else ((impl_Least.f bt273.1 bt273.2).bind fun t283 => ((spec_Least.f bt273.1 bt273.2).bind fun t284 => (if t283 = t284 then ((impl_Most.f bt275.1 bt275.2).bind fun t285 => ((spec_Most.f bt275.1 bt275.2).bind fun t286 => (laws_FnWords.j0 k t268 t269 bt273.1 bt273.2 (t285 != t286)))) else (laws_FnWords.j0 k t268 t269 bt273.1 bt273.2 true))))))))))))))) = some r := H
    have A7 := Aside0.mk A70
    clear A70
    replace H := Option.bind_eq_some_iff.mp H
    obtain ⟨⟨t273, t274⟩, A80, H⟩ := H
    replace H : ((spec_DrawMost.f k l0).bind fun bt275 => ((impl_NameOk.f k t266).bind fun t277 => ((spec_NameOk.f k t266).bind fun t278 => (if (t277 != t278) = true then (laws_FnWords.j0 k t268 t269 t273 t274 true) else ((impl_PlainOk.f k t267).bind fun t279 => ((spec_PlainOk.f k t267).bind fun t280 => (if (t279 != t280) = true then (laws_FnWords.j0 k t268 t269 t273 t274 true) else ((impl_InOrder.f k t270).bind fun t281 => ((spec_InOrder.f k t270).bind fun t282 => (if (t281 != t282) = true then (laws_FnWords.j0 k t268 t269 t273 t274 true) else ((impl_Least.f t273 t274).bind fun t283 => ((spec_Least.f t273 t274).bind fun t284 => (if t283 = t284 then ((impl_Most.f bt275.1 bt275.2).bind fun t285 => ((spec_Most.f bt275.1 bt275.2).bind fun t286 => (laws_FnWords.j0 k t268 t269 t273 t274 (t285 != t286)))) else (laws_FnWords.j0 k t268 t269 t273 t274 true)))))))))))))) = some r := H
    have A8 := Aside0.mk A80
    clear A80
    replace H := Option.bind_eq_some_iff.mp H
    obtain ⟨⟨t275, t276⟩, A90, H⟩ := H
    replace H : ((impl_NameOk.f k t266).bind fun t277 => ((spec_NameOk.f k t266).bind fun t278 => (if (t277 != t278) = true then (laws_FnWords.j0 k t268 t269 t273 t274 true) else ((impl_PlainOk.f k t267).bind fun t279 => ((spec_PlainOk.f k t267).bind fun t280 => (if (t279 != t280) = true then (laws_FnWords.j0 k t268 t269 t273 t274 true) else ((impl_InOrder.f k t270).bind fun t281 => ((spec_InOrder.f k t270).bind fun t282 => (if (t281 != t282) = true then (laws_FnWords.j0 k t268 t269 t273 t274 true) else ((impl_Least.f t273 t274).bind fun t283 => ((spec_Least.f t273 t274).bind fun t284 => (if t283 = t284 then ((impl_Most.f t275 t276).bind fun t285 => ((spec_Most.f t275 t276).bind fun t286 => (laws_FnWords.j0 k t268 t269 t273 t274 (t285 != t286)))) else (laws_FnWords.j0 k t268 t269 t273 t274 true))))))))))))) = some r := H
    have A9 := Aside0.mk A90
    clear A90
    have HC10 := Aside0.mk H
    clear H
    go_enter Try.func3, Try.ntmps3
    go_upto_region 9 with (first | ((with_reducible refine gate_callee (f := 13) rfl ?_); refine goesL_ (some 13) rfl rfl Try.func13 (by kernel_rfl) rfl #[.slice A0 l0.length c0] rfl (by (try simp only [List.map_toArray, List.map_cons, List.map_nil]); first | done | rfl | (simp only [List.length_drop, List.length_take]; rfl)) ?_; (with_reducible refine (laws_big.calls _ _ l0 false _ ?side1 ?side2 A2.out).mono ?_); (case side1 => repeat (first | exact HR0.out | (with_reducible refine Kd.C_alloc ?_ _) | (with_reducible refine Kd.C_drewN ?_ _) | (with_reducible refine Kd.C_drew ?_))); (case side2 => exact HC0.out); rintro e w' ⟨rfl, ⟨nd, rfl⟩⟩; refine ⟨_, rfl, ?_⟩) | ((with_reducible refine gate_callee (f := 14) rfl ?_); refine goesL_ (some 15) rfl rfl Try.func14 (by kernel_rfl) rfl #[.slice A0 l0.length c0] rfl (by (try simp only [List.map_toArray, List.map_cons, List.map_nil]); first | done | rfl | (simp only [List.length_drop, List.length_take]; rfl)) ?_; (with_reducible refine (spec_DrawNameOk.calls k _ _ l0 t266 _ ?side1 ?side2 A4.out).mono ?_); (case side1 => repeat (first | exact HR0.out | (with_reducible refine Kd.C_alloc ?_ _) | (with_reducible refine Kd.C_drewN ?_ _) | (with_reducible refine Kd.C_drew ?_))); (case side2 => exact HC0.out); rintro e w11 ⟨rfl, hb⟩; refine ⟨_, rfl, ?_⟩; have n0_ := Aside0.mk (below_step (by repeat (first | (with_reducible first | exact HB.out | apply below_alloc | apply pw_below_drewN | apply below_drew1) | exact HB.out)) hb); clear HB; have HB := n0_; clear n0_; (try clear hb); (try clear hb2); (try clear hk); (try clear hi)) | ((with_reducible refine gate_callee (f := 15) rfl ?_); refine goesL_ (some 17) rfl rfl Try.func15 (by kernel_rfl) rfl #[.slice A0 l0.length c0] rfl (by (try simp only [List.map_toArray, List.map_cons, List.map_nil]); first | done | rfl | (simp only [List.length_drop, List.length_take]; rfl)) ?_; (with_reducible refine (spec_DrawPlainOk.calls k _ _ l0 t267 _ ?side1 ?side2 A5.out).mono ?_); (case side1 => repeat (first | exact (Kd.C_below HR0.out HB.out) | (with_reducible refine Kd.C_alloc ?_ _) | (with_reducible refine Kd.C_drewN ?_ _) | (with_reducible refine Kd.C_drew ?_))); (case side2 => exact HC0.out); rintro e w12 ⟨rfl, hb⟩; refine ⟨_, rfl, ?_⟩; have n0_ := Aside0.mk (below_step (by repeat (first | (with_reducible first | exact HB.out | apply below_alloc | apply pw_below_drewN | apply below_drew1) | exact HB.out)) hb); clear HB; have HB := n0_; clear n0_; (try clear hb); (try clear hb2); (try clear hk); (try clear hi)) | ((with_reducible refine gate_callee (f := 16) rfl ?_); refine goesL_ (some 20) rfl rfl Try.func16 (by kernel_rfl) rfl #[.slice A0 l0.length c0] rfl (by (try simp only [List.map_toArray, List.map_cons, List.map_nil]); first | done | rfl | (simp only [List.length_drop, List.length_take]; rfl)) ?_; (with_reducible refine (spec_DrawLess.calls k _ _ l0 t268 t269 _ ?side1 ?side2 A6.out).mono ?_); (case side1 => repeat (first | exact (Kd.C_below HR0.out HB.out) | (with_reducible refine Kd.C_alloc ?_ _) | (with_reducible refine Kd.C_drewN ?_ _) | (with_reducible refine Kd.C_drew ?_))); (case side2 => exact HC0.out); rintro e w13 ⟨rfl, hb⟩; refine ⟨_, rfl, ?_⟩; have n0_ := Aside0.mk (below_step (by repeat (first | (with_reducible first | exact HB.out | apply below_alloc | apply pw_below_drewN | apply below_drew1) | exact HB.out)) hb); clear HB; have HB := n0_; clear n0_; (try clear hb); (try clear hb2); (try clear hk); (try clear hi)) | ((with_reducible refine gate_callee (f := 17) rfl ?_); refine goesL_ (some 24) rfl rfl Try.func17 (by kernel_rfl) rfl #[.slice A0 l0.length c0] rfl (by (try simp only [List.map_toArray, List.map_cons, List.map_nil]); first | done | rfl | (simp only [List.length_drop, List.length_take]; rfl)) ?_; (with_reducible refine (spec_DrawInOrder.calls k _ _ l0 t270 _ ?side1 ?side2 A7.out).mono ?_); (case side1 => repeat (first | exact (Kd.C_below HR0.out HB.out) | (with_reducible refine Kd.C_alloc ?_ _) | (with_reducible refine Kd.C_drewN ?_ _) | (with_reducible refine Kd.C_drew ?_))); (case side2 => exact HC0.out); rintro e w14 ⟨v271, rfl, ho0, hb⟩; refine ⟨_, rfl, ?_⟩; have n0_ := Aside0.mk (Kd.R_lower ho0 (below_size (by repeat (first | (with_reducible first | exact HB.out | apply below_alloc | apply pw_below_drewN | apply below_drew1) | exact HB.out)))); have n1_ := Aside0.mk (below_step (by repeat (first | (with_reducible first | exact HB.out | apply below_alloc | apply pw_below_drewN | apply below_drew1) | exact HB.out)) hb); clear HB; have HO272 := n0_; have HB := n1_; clear n0_ n1_; (try clear hb); (try clear hb2); (try clear hk); (try clear hi); (try clear ho0)) | ((with_reducible refine gate_callee (f := 18) rfl ?_); refine goesL_ (some 27) rfl rfl Try.func18 (by kernel_rfl) rfl #[.slice A0 l0.length c0] rfl (by (try simp only [List.map_toArray, List.map_cons, List.map_nil]); first | done | rfl | (simp only [List.length_drop, List.length_take]; rfl)) ?_; (with_reducible refine (spec_DrawLeast.calls k _ _ l0 t273 t274 _ ?side1 ?side2 A8.out).mono ?_); (case side1 => repeat (first | exact (Kd.C_below HR0.out HB.out) | (with_reducible refine Kd.C_alloc ?_ _) | (with_reducible refine Kd.C_drewN ?_ _) | (with_reducible refine Kd.C_drew ?_))); (case side2 => exact HC0.out); rintro e w15 ⟨rfl, hb⟩; refine ⟨_, rfl, ?_⟩; have n0_ := Aside0.mk (Kd.R_below (by (with_reducible repeat (first | apply Kd.R_alloc | apply Kd.R_drewN | apply Kd.R_drew)); exact HO272.out) hb); have n1_ := Aside0.mk (below_step (by repeat (first | (with_reducible first | exact HB.out | apply below_alloc | apply pw_below_drewN | apply below_drew1) | exact HB.out)) hb); clear HO272; clear HB; have HO272 := n0_; have HB := n1_; clear n0_ n1_; (try clear hb); (try clear hb2); (try clear hk); (try clear hi)) | ((with_reducible refine gate_callee (f := 19) rfl ?_); refine goesL_ (some 32) rfl rfl Try.func19 (by kernel_rfl) rfl #[.slice A0 l0.length c0] rfl (by (try simp only [List.map_toArray, List.map_cons, List.map_nil]); first | done | rfl | (simp only [List.length_drop, List.length_take]; rfl)) ?_; (with_reducible refine (spec_DrawMost.calls k _ _ l0 t275 t276 _ ?side1 ?side2 A9.out).mono ?_); (case side1 => repeat (first | exact (Kd.C_below HR0.out HB.out) | (with_reducible refine Kd.C_alloc ?_ _) | (with_reducible refine Kd.C_drewN ?_ _) | (with_reducible refine Kd.C_drew ?_))); (case side2 => exact HC0.out); rintro e w16 ⟨rfl, hb⟩; refine ⟨_, rfl, ?_⟩; have n0_ := Aside0.mk (Kd.R_below (by (with_reducible repeat (first | apply Kd.R_alloc | apply Kd.R_drewN | apply Kd.R_drew)); exact HO272.out) hb); have n1_ := Aside0.mk (below_step (by repeat (first | (with_reducible first | exact HB.out | apply below_alloc | apply pw_below_drewN | apply below_drew1) | exact HB.out)) hb); clear HO272; clear HB; have HO272 := n0_; have HB := n1_; clear n0_ n1_; (try clear hb); (try clear hb2); (try clear hk); (try clear hi)))
    (try simp only [Act.put, List.setIfInBounds_toArray, List.set_cons_zero, List.set_cons_succ])
    go_cut [71] (fun v71 wc => ∃ (kq : Nat) (x71_9 : Bool), v71 = .bool x71_9 ∧ Aside0 (laws_FnWords.j0 kq t268 t269 t273 t274 x71_9 = some r) ∧ Aside0 (kq ≤ k) ∧ Aside0 (Below w.heap.size w wc))
    case first =>
      have H := HC10.out
      clear HC10
      replace H := Option.bind_eq_some_iff.mp H
      obtain ⟨t277, A170, H⟩ := H
      replace H : ((spec_NameOk.f k t266).bind fun t278 => (if (t277 != t278) = true then (laws_FnWords.j0 k t268 t269 t273 t274 true) else ((impl_PlainOk.f k t267).bind fun t279 => ((spec_PlainOk.f k t267).bind fun t280 => (if (t279 != t280) = true then (laws_FnWords.j0 k t268 t269 t273 t274 true) else ((impl_InOrder.f k t270).bind fun t281 => ((spec_InOrder.f k t270).bind fun t282 => (if (t281 != t282) = true then (laws_FnWords.j0 k t268 t269 t273 t274 true) else ((impl_Least.f t273 t274).bind fun t283 => ((spec_Least.f t273 t274).bind fun t284 => (if t283 = t284 then ((impl_Most.f t275 t276).bind fun t285 => ((spec_Most.f t275 t276).bind fun t286 => (laws_FnWords.j0 k t268 t269 t273 t274 (t285 != t286)))) else (laws_FnWords.j0 k t268 t269 t273 t274 true)))))))))))) = some r := H
      have A17 := Aside0.mk A170
      clear A170
      replace H := Option.bind_eq_some_iff.mp H
      obtain ⟨t278, A180, H⟩ := H
      replace H : (if (t277 != t278) = true then (laws_FnWords.j0 k t268 t269 t273 t274 true) else ((impl_PlainOk.f k t267).bind fun t279 => ((spec_PlainOk.f k t267).bind fun t280 => (if (t279 != t280) = true then (laws_FnWords.j0 k t268 t269 t273 t274 true) else ((impl_InOrder.f k t270).bind fun t281 => ((spec_InOrder.f k t270).bind fun t282 => (if (t281 != t282) = true then (laws_FnWords.j0 k t268 t269 t273 t274 true) else ((impl_Least.f t273 t274).bind fun t283 => ((spec_Least.f t273 t274).bind fun t284 => (if t283 = t284 then ((impl_Most.f t275 t276).bind fun t285 => ((spec_Most.f t275 t276).bind fun t286 => (laws_FnWords.j0 k t268 t269 t273 t274 (t285 != t286)))) else (laws_FnWords.j0 k t268 t269 t273 t274 true))))))))))) = some r := H
      have A18 := Aside0.mk A180
      clear A180
      by_cases c19 : (t277 != t278) = true
      · rw [if_pos c19] at H
        have c19b0 : (t277 != t278) = true := c19
        (try (have c19b1 : decide (t277 = t278) = false := by simpa using c19))
        (try (have c19b2 : (t277 == t278) = false := by simpa using c19))
        (try (have c19b3 : ¬ (t277 = t278) := by simpa using c19))
        clear c19
        (first | rw [c19b0] | (simp only [i64_w, i32_w]; rw [c19b0]) | skip)
        have H' := Aside0.mk H
        clear H
        go_wp2_with (first | ((with_reducible refine gate_callee (f := 20) rfl ?_); refine goesL_ (some 36) rfl rfl Try.func20 (by kernel_rfl) rfl #[.string t266] rfl (by (try simp only [List.map_toArray, List.map_cons, List.map_nil]); first | done | rfl | (simp only [List.length_drop, List.length_take]; rfl)) ?_; (with_reducible refine (impl_NameOk.calls k t266 t277 _ A17.out).mono ?_); rintro e w' ⟨rfl, ⟨nd, rfl⟩⟩; refine ⟨_, rfl, ?_⟩) | ((with_reducible refine gate_callee (f := 21) rfl ?_); refine goesL_ (some 38) rfl rfl Try.func21 (by kernel_rfl) rfl #[.string t266] rfl (by (try simp only [List.map_toArray, List.map_cons, List.map_nil]); first | done | rfl | (simp only [List.length_drop, List.length_take]; rfl)) ?_; (with_reducible refine (spec_NameOk.calls k t266 t278 _ A18.out).mono ?_); rintro e w' ⟨rfl, ⟨nd, rfl⟩⟩; refine ⟨_, rfl, ?_⟩))
        go_meet
        case rel => exact ⟨_, (true), (by first | rfl | (simp; done) | (simp [*]; done)), H', ⟨by first | omega | exact Nat.le_refl _⟩, ⟨by repeat (first | (with_reducible first | exact HB.out | apply below_alloc | apply pw_below_drewN | apply below_drew1) | exact HB.out)⟩⟩
      · rw [if_neg c19] at H
        have c19b0 : (t277 != t278) = false := by simpa using c19
        (try (have c19b1 : decide (t277 = t278) = true := by simpa using c19))
        (try (have c19b2 : (t277 == t278) = true := by simpa using c19))
        clear c19
        (first | rw [c19b0] | (simp only [i64_w, i32_w]; rw [c19b0]) | skip)
        replace H := Option.bind_eq_some_iff.mp H
        obtain ⟨t279, A200, H⟩ := H
        replace H : ((spec_PlainOk.f k t267).bind fun t280 => (if (t279 != t280) = true then (laws_FnWords.j0 k t268 t269 t273 t274 true) else ((impl_InOrder.f k t270).bind fun t281 => ((spec_InOrder.f k t270).bind fun t282 => (if (t281 != t282) = true then (laws_FnWords.j0 k t268 t269 t273 t274 true) else ((impl_Least.f t273 t274).bind fun t283 => ((spec_Least.f t273 t274).bind fun t284 => (if t283 = t284 then ((impl_Most.f t275 t276).bind fun t285 => ((spec_Most.f t275 t276).bind fun t286 => (laws_FnWords.j0 k t268 t269 t273 t274 (t285 != t286)))) else (laws_FnWords.j0 k t268 t269 t273 t274 true))))))))) = some r := H
        have A20 := Aside0.mk A200
        clear A200
        replace H := Option.bind_eq_some_iff.mp H
        obtain ⟨t280, A210, H⟩ := H
        replace H : (if (t279 != t280) = true then (laws_FnWords.j0 k t268 t269 t273 t274 true) else ((impl_InOrder.f k t270).bind fun t281 => ((spec_InOrder.f k t270).bind fun t282 => (if (t281 != t282) = true then (laws_FnWords.j0 k t268 t269 t273 t274 true) else ((impl_Least.f t273 t274).bind fun t283 => ((spec_Least.f t273 t274).bind fun t284 => (if t283 = t284 then ((impl_Most.f t275 t276).bind fun t285 => ((spec_Most.f t275 t276).bind fun t286 => (laws_FnWords.j0 k t268 t269 t273 t274 (t285 != t286)))) else (laws_FnWords.j0 k t268 t269 t273 t274 true)))))))) = some r := H
        have A21 := Aside0.mk A210
        clear A210
        by_cases c22 : (t279 != t280) = true
        · rw [if_pos c22] at H
          have c22b0 : (t279 != t280) = true := c22
          (try (have c22b1 : decide (t279 = t280) = false := by simpa using c22))
          (try (have c22b2 : (t279 == t280) = false := by simpa using c22))
          (try (have c22b3 : ¬ (t279 = t280) := by simpa using c22))
          clear c22
          have H' := Aside0.mk H
          clear H
          go_wp2_with (first | ((with_reducible refine gate_callee (f := 20) rfl ?_); refine goesL_ (some 36) rfl rfl Try.func20 (by kernel_rfl) rfl #[.string t266] rfl (by (try simp only [List.map_toArray, List.map_cons, List.map_nil]); first | done | rfl | (simp only [List.length_drop, List.length_take]; rfl)) ?_; (with_reducible refine (impl_NameOk.calls k t266 t277 _ A17.out).mono ?_); rintro e w' ⟨rfl, ⟨nd, rfl⟩⟩; refine ⟨_, rfl, ?_⟩) | ((with_reducible refine gate_callee (f := 21) rfl ?_); refine goesL_ (some 38) rfl rfl Try.func21 (by kernel_rfl) rfl #[.string t266] rfl (by (try simp only [List.map_toArray, List.map_cons, List.map_nil]); first | done | rfl | (simp only [List.length_drop, List.length_take]; rfl)) ?_; (with_reducible refine (spec_NameOk.calls k t266 t278 _ A18.out).mono ?_); rintro e w' ⟨rfl, ⟨nd, rfl⟩⟩; refine ⟨_, rfl, ?_⟩) | (go_at_call 22; (with_reducible refine (impl_PlainOk.calls k t267 t279 _ A20.out).mono ?_); rintro e w' ⟨rfl, ⟨nd, rfl⟩⟩) | (go_at_call 23; (with_reducible refine (spec_PlainOk.calls k t267 t280 _ A21.out).mono ?_); rintro e w' ⟨rfl, ⟨nd, rfl⟩⟩))
          go_meet
          case rel => exact ⟨_, (true), (by first | rfl | (simp; done) | (simp [*]; done)), H', ⟨by first | omega | exact Nat.le_refl _⟩, ⟨by repeat (first | (with_reducible first | exact HB.out | apply below_alloc | apply pw_below_drewN | apply below_drew1) | exact HB.out)⟩⟩
        · rw [if_neg c22] at H
          have c22b0 : (t279 != t280) = false := by simpa using c22
          (try (have c22b1 : decide (t279 = t280) = true := by simpa using c22))
          (try (have c22b2 : (t279 == t280) = true := by simpa using c22))
          clear c22
          replace H := Option.bind_eq_some_iff.mp H
          obtain ⟨t281, A230, H⟩ := H
          replace H : ((spec_InOrder.f k t270).bind fun t282 => (if (t281 != t282) = true then (laws_FnWords.j0 k t268 t269 t273 t274 true) else ((impl_Least.f t273 t274).bind fun t283 => ((spec_Least.f t273 t274).bind fun t284 => (if t283 = t284 then ((impl_Most.f t275 t276).bind fun t285 => ((spec_Most.f t275 t276).bind fun t286 => (laws_FnWords.j0 k t268 t269 t273 t274 (t285 != t286)))) else (laws_FnWords.j0 k t268 t269 t273 t274 true)))))) = some r := H
          have A23 := Aside0.mk A230
          clear A230
          replace H := Option.bind_eq_some_iff.mp H
          obtain ⟨t282, A240, H⟩ := H
          replace H : (if (t281 != t282) = true then (laws_FnWords.j0 k t268 t269 t273 t274 true) else ((impl_Least.f t273 t274).bind fun t283 => ((spec_Least.f t273 t274).bind fun t284 => (if t283 = t284 then ((impl_Most.f t275 t276).bind fun t285 => ((spec_Most.f t275 t276).bind fun t286 => (laws_FnWords.j0 k t268 t269 t273 t274 (t285 != t286)))) else (laws_FnWords.j0 k t268 t269 t273 t274 true))))) = some r := H
          have A24 := Aside0.mk A240
          clear A240
          by_cases c25 : (t281 != t282) = true
          · rw [if_pos c25] at H
            have c25b0 : (t281 != t282) = true := c25
            (try (have c25b1 : decide (t281 = t282) = false := by simpa using c25))
            (try (have c25b2 : (t281 == t282) = false := by simpa using c25))
            (try (have c25b3 : ¬ (t281 = t282) := by simpa using c25))
            clear c25
            have H' := Aside0.mk H
            clear H
            go_wp2_with (first | ((with_reducible refine gate_callee (f := 20) rfl ?_); refine goesL_ (some 36) rfl rfl Try.func20 (by kernel_rfl) rfl #[.string t266] rfl (by (try simp only [List.map_toArray, List.map_cons, List.map_nil]); first | done | rfl | (simp only [List.length_drop, List.length_take]; rfl)) ?_; (with_reducible refine (impl_NameOk.calls k t266 t277 _ A17.out).mono ?_); rintro e w' ⟨rfl, ⟨nd, rfl⟩⟩; refine ⟨_, rfl, ?_⟩) | ((with_reducible refine gate_callee (f := 21) rfl ?_); refine goesL_ (some 38) rfl rfl Try.func21 (by kernel_rfl) rfl #[.string t266] rfl (by (try simp only [List.map_toArray, List.map_cons, List.map_nil]); first | done | rfl | (simp only [List.length_drop, List.length_take]; rfl)) ?_; (with_reducible refine (spec_NameOk.calls k t266 t278 _ A18.out).mono ?_); rintro e w' ⟨rfl, ⟨nd, rfl⟩⟩; refine ⟨_, rfl, ?_⟩) | (go_at_call 22; (with_reducible refine (impl_PlainOk.calls k t267 t279 _ A20.out).mono ?_); rintro e w' ⟨rfl, ⟨nd, rfl⟩⟩) | (go_at_call 23; (with_reducible refine (spec_PlainOk.calls k t267 t280 _ A21.out).mono ?_); rintro e w' ⟨rfl, ⟨nd, rfl⟩⟩; obtain ⟨Ao26, co26, eo26⟩ := Kd.R_slice HO272.out; subst eo26) | (go_at_call 24; (with_reducible refine (impl_InOrder.calls k _ _ t270 t281 _ ?side1 ?side2 A23.out).mono ?_); (case side1 => repeat (first | exact (Kd.R_reads' HO272.out).2.2 | (with_reducible refine Kd.C_alloc ?_ _) | (with_reducible refine Kd.C_drewN ?_ _) | (with_reducible refine Kd.C_drew ?_))); (case side2 => exact (Kd.R_reads' HO272.out).2.1); rintro e w' ⟨rfl, ⟨nd, rfl⟩⟩) | (go_at_call 25; (with_reducible refine (spec_InOrder.calls k _ _ t270 t282 _ ?side1 ?side2 A24.out).mono ?_); (case side1 => repeat (first | exact (Kd.R_reads' HO272.out).2.2 | (with_reducible refine Kd.C_alloc ?_ _) | (with_reducible refine Kd.C_drewN ?_ _) | (with_reducible refine Kd.C_drew ?_))); (case side2 => exact (Kd.R_reads' HO272.out).2.1); rintro e w' ⟨rfl, ⟨nd, rfl⟩⟩))
            go_meet
            case rel => exact ⟨_, (true), (by first | rfl | (simp; done) | (simp [*]; done)), H', ⟨by first | omega | exact Nat.le_refl _⟩, ⟨by repeat (first | (with_reducible first | exact HB.out | apply below_alloc | apply pw_below_drewN | apply below_drew1) | exact HB.out)⟩⟩
          · rw [if_neg c25] at H
            have c25b0 : (t281 != t282) = false := by simpa using c25
            (try (have c25b1 : decide (t281 = t282) = true := by simpa using c25))
            (try (have c25b2 : (t281 == t282) = true := by simpa using c25))
            clear c25
            replace H := Option.bind_eq_some_iff.mp H
            obtain ⟨t283, A270, H⟩ := H
            replace H : ((spec_Least.f t273 t274).bind fun t284 => (if t283 = t284 then ((impl_Most.f t275 t276).bind fun t285 => ((spec_Most.f t275 t276).bind fun t286 => (laws_FnWords.j0 k t268 t269 t273 t274 (t285 != t286)))) else (laws_FnWords.j0 k t268 t269 t273 t274 true))) = some r := H
            have A27 := Aside0.mk A270
            clear A270
            replace H := Option.bind_eq_some_iff.mp H
            obtain ⟨t284, A280, H⟩ := H
            replace H : (if t283 = t284 then ((impl_Most.f t275 t276).bind fun t285 => ((spec_Most.f t275 t276).bind fun t286 => (laws_FnWords.j0 k t268 t269 t273 t274 (t285 != t286)))) else (laws_FnWords.j0 k t268 t269 t273 t274 true)) = some r := H
            have A28 := Aside0.mk A280
            clear A280
            by_cases c29 : t283 = t284
            · rw [if_pos c29] at H
              have c29b0 : (t283 == t284) = true := beq_iff_eq.mpr c29
              have c29b1 : (t283 != t284) = false := bne_eq_false_iff_eq.mpr c29
              clear c29
              replace H := Option.bind_eq_some_iff.mp H
              obtain ⟨t285, A300, H⟩ := H
              replace H : ((spec_Most.f t275 t276).bind fun t286 => (laws_FnWords.j0 k t268 t269 t273 t274 (t285 != t286))) = some r := H
              have A30 := Aside0.mk A300
              clear A300
              replace H := Option.bind_eq_some_iff.mp H
              obtain ⟨t286, A310, H⟩ := H
              replace H : (laws_FnWords.j0 k t268 t269 t273 t274 (t285 != t286)) = some r := H
              have A31 := Aside0.mk A310
              clear A310
              have H' := Aside0.mk H
              clear H
              go_wp2_with (first | ((with_reducible refine gate_callee (f := 20) rfl ?_); refine goesL_ (some 36) rfl rfl Try.func20 (by kernel_rfl) rfl #[.string t266] rfl (by (try simp only [List.map_toArray, List.map_cons, List.map_nil]); first | done | rfl | (simp only [List.length_drop, List.length_take]; rfl)) ?_; (with_reducible refine (impl_NameOk.calls k t266 t277 _ A17.out).mono ?_); rintro e w' ⟨rfl, ⟨nd, rfl⟩⟩; refine ⟨_, rfl, ?_⟩) | ((with_reducible refine gate_callee (f := 21) rfl ?_); refine goesL_ (some 38) rfl rfl Try.func21 (by kernel_rfl) rfl #[.string t266] rfl (by (try simp only [List.map_toArray, List.map_cons, List.map_nil]); first | done | rfl | (simp only [List.length_drop, List.length_take]; rfl)) ?_; (with_reducible refine (spec_NameOk.calls k t266 t278 _ A18.out).mono ?_); rintro e w' ⟨rfl, ⟨nd, rfl⟩⟩; refine ⟨_, rfl, ?_⟩) | (go_at_call 22; (with_reducible refine (impl_PlainOk.calls k t267 t279 _ A20.out).mono ?_); rintro e w' ⟨rfl, ⟨nd, rfl⟩⟩) | (go_at_call 23; (with_reducible refine (spec_PlainOk.calls k t267 t280 _ A21.out).mono ?_); rintro e w' ⟨rfl, ⟨nd, rfl⟩⟩; obtain ⟨Ao32, co32, eo32⟩ := Kd.R_slice HO272.out; subst eo32) | (go_at_call 24; (with_reducible refine (impl_InOrder.calls k _ _ t270 t281 _ ?side1 ?side2 A23.out).mono ?_); (case side1 => repeat (first | exact (Kd.R_reads' HO272.out).2.2 | (with_reducible refine Kd.C_alloc ?_ _) | (with_reducible refine Kd.C_drewN ?_ _) | (with_reducible refine Kd.C_drew ?_))); (case side2 => exact (Kd.R_reads' HO272.out).2.1); rintro e w' ⟨rfl, ⟨nd, rfl⟩⟩) | (go_at_call 25; (with_reducible refine (spec_InOrder.calls k _ _ t270 t282 _ ?side1 ?side2 A24.out).mono ?_); (case side1 => repeat (first | exact (Kd.R_reads' HO272.out).2.2 | (with_reducible refine Kd.C_alloc ?_ _) | (with_reducible refine Kd.C_drewN ?_ _) | (with_reducible refine Kd.C_drew ?_))); (case side2 => exact (Kd.R_reads' HO272.out).2.1); rintro e w' ⟨rfl, ⟨nd, rfl⟩⟩) | (go_at_call 26; (with_reducible refine (impl_Least.calls t273 t274 t283 _ A27.out).mono ?_); rintro e w33 ⟨rfl, hb⟩; have n0_ := Aside0.mk (Kd.R_below (by (with_reducible repeat (first | apply Kd.R_alloc | apply Kd.R_drewN | apply Kd.R_drew)); exact HO272.out) hb); have n1_ := Aside0.mk (below_step (by repeat (first | (with_reducible first | exact HB.out | apply below_alloc | apply pw_below_drewN | apply below_drew1) | exact HB.out)) hb); clear HO272; clear HB; have HO272 := n0_; have HB := n1_; clear n0_ n1_; (try clear hb); (try clear hb2); (try clear hk); (try clear hi)) | (go_at_call 27; (with_reducible refine (spec_Least.calls t273 t274 t284 _ A28.out).mono ?_); rintro e w' ⟨rfl, ⟨nd, rfl⟩⟩) | (go_at_call 28; (with_reducible refine (impl_Most.calls t275 t276 t285 _ A30.out).mono ?_); rintro e w34 ⟨rfl, hb⟩; have n0_ := Aside0.mk (Kd.R_below (by (with_reducible repeat (first | apply Kd.R_alloc | apply Kd.R_drewN | apply Kd.R_drew)); exact HO272.out) hb); have n1_ := Aside0.mk (below_step (by repeat (first | (with_reducible first | exact HB.out | apply below_alloc | apply pw_below_drewN | apply below_drew1) | exact HB.out)) hb); clear HO272; clear HB; have HO272 := n0_; have HB := n1_; clear n0_ n1_; (try clear hb); (try clear hb2); (try clear hk); (try clear hi)) | (go_at_call 29; (with_reducible refine (spec_Most.calls t275 t276 t286 _ A31.out).mono ?_); rintro e w' ⟨rfl, ⟨nd, rfl⟩⟩))
              go_meet
              case rel => exact ⟨_, ((t285 != t286)), (by first | rfl | (simp; done) | (simp [*]; done)), H', ⟨by first | omega | exact Nat.le_refl _⟩, ⟨by repeat (first | (with_reducible first | exact HB.out | apply below_alloc | apply pw_below_drewN | apply below_drew1) | exact HB.out)⟩⟩
            · rw [if_neg c29] at H
              have c29b0 : (t283 == t284) = false := beq_eq_false_iff_ne.mpr c29
              have c29b1 : (t283 != t284) = true := bne_iff_ne.mpr c29
              have H' := Aside0.mk H
              clear H
              go_wp2_with (first | ((with_reducible refine gate_callee (f := 20) rfl ?_); refine goesL_ (some 36) rfl rfl Try.func20 (by kernel_rfl) rfl #[.string t266] rfl (by (try simp only [List.map_toArray, List.map_cons, List.map_nil]); first | done | rfl | (simp only [List.length_drop, List.length_take]; rfl)) ?_; (with_reducible refine (impl_NameOk.calls k t266 t277 _ A17.out).mono ?_); rintro e w' ⟨rfl, ⟨nd, rfl⟩⟩; refine ⟨_, rfl, ?_⟩) | ((with_reducible refine gate_callee (f := 21) rfl ?_); refine goesL_ (some 38) rfl rfl Try.func21 (by kernel_rfl) rfl #[.string t266] rfl (by (try simp only [List.map_toArray, List.map_cons, List.map_nil]); first | done | rfl | (simp only [List.length_drop, List.length_take]; rfl)) ?_; (with_reducible refine (spec_NameOk.calls k t266 t278 _ A18.out).mono ?_); rintro e w' ⟨rfl, ⟨nd, rfl⟩⟩; refine ⟨_, rfl, ?_⟩) | (go_at_call 22; (with_reducible refine (impl_PlainOk.calls k t267 t279 _ A20.out).mono ?_); rintro e w' ⟨rfl, ⟨nd, rfl⟩⟩) | (go_at_call 23; (with_reducible refine (spec_PlainOk.calls k t267 t280 _ A21.out).mono ?_); rintro e w' ⟨rfl, ⟨nd, rfl⟩⟩; obtain ⟨Ao35, co35, eo35⟩ := Kd.R_slice HO272.out; subst eo35) | (go_at_call 24; (with_reducible refine (impl_InOrder.calls k _ _ t270 t281 _ ?side1 ?side2 A23.out).mono ?_); (case side1 => repeat (first | exact (Kd.R_reads' HO272.out).2.2 | (with_reducible refine Kd.C_alloc ?_ _) | (with_reducible refine Kd.C_drewN ?_ _) | (with_reducible refine Kd.C_drew ?_))); (case side2 => exact (Kd.R_reads' HO272.out).2.1); rintro e w' ⟨rfl, ⟨nd, rfl⟩⟩) | (go_at_call 25; (with_reducible refine (spec_InOrder.calls k _ _ t270 t282 _ ?side1 ?side2 A24.out).mono ?_); (case side1 => repeat (first | exact (Kd.R_reads' HO272.out).2.2 | (with_reducible refine Kd.C_alloc ?_ _) | (with_reducible refine Kd.C_drewN ?_ _) | (with_reducible refine Kd.C_drew ?_))); (case side2 => exact (Kd.R_reads' HO272.out).2.1); rintro e w' ⟨rfl, ⟨nd, rfl⟩⟩) | (go_at_call 26; (with_reducible refine (impl_Least.calls t273 t274 t283 _ A27.out).mono ?_); rintro e w36 ⟨rfl, hb⟩; have n0_ := Aside0.mk (Kd.R_below (by (with_reducible repeat (first | apply Kd.R_alloc | apply Kd.R_drewN | apply Kd.R_drew)); exact HO272.out) hb); have n1_ := Aside0.mk (below_step (by repeat (first | (with_reducible first | exact HB.out | apply below_alloc | apply pw_below_drewN | apply below_drew1) | exact HB.out)) hb); clear HO272; clear HB; have HO272 := n0_; have HB := n1_; clear n0_ n1_; (try clear hb); (try clear hb2); (try clear hk); (try clear hi)) | (go_at_call 27; (with_reducible refine (spec_Least.calls t273 t274 t284 _ A28.out).mono ?_); rintro e w' ⟨rfl, ⟨nd, rfl⟩⟩))
              go_meet
              case rel => exact ⟨_, (true), (by first | rfl | (simp; done) | (simp [*]; done)), H', ⟨by first | omega | exact Nat.le_refl _⟩, ⟨by repeat (first | (with_reducible first | exact HB.out | apply below_alloc | apply pw_below_drewN | apply below_drew1) | exact HB.out)⟩⟩
    case rest =>
      clear HC10
      try clear c1
      try clear c2
      try clear p2
      try clear c3
      try clear c13
      try clear c14
      try clear c15
      try clear c16
      try clear c17
      try clear c18
      try clear c19
      try clear c19b0
      try clear c19b1
      try clear c19b2
      try clear c20
      try clear c21
      try clear c22
      try clear c22b0
      try clear c22b1
      try clear c22b2
      try clear c25
      try clear c25b0
      try clear c25b1
      try clear c25b2
      try clear c29
      try clear c29b0
      try clear c29b1
      obtain ⟨kq, x71_9, rfl, HA, HJ9, HB⟩ := hcut
      cases kq with
      | zero => exact absurd HA.out (by simp [laws_FnWords.j0])
      | succ kj9 =>
        have H := HA.out
        clear HA
        simp only [laws_FnWords.j0] at H
        by_cases c37 : x71_9 = true
        · subst c37
          have H1 : (some false) = some r := by rw [if_pos rfl] at H; exact H
          clear H
          have H := H1
          clear H1
          obtain rfl := Option.some.inj H
          go_wp2
          go_ret
          exact ⟨by first | rfl | (simp [errW_none, errW_some] <;> rfl) | (simp [*, errW_none, errW_some] <;> rfl), by repeat (first | (with_reducible first | exact HB.out | apply below_alloc | apply pw_below_drewN | apply below_drew1) | exact HB.out)⟩
        · replace c37 := Bool.eq_false_iff.mpr c37
          subst c37
          have H1 : ((impl_Less.f t268 t269).bind fun t287 => ((spec_Less.f t268 t269).bind fun t288 => (if (t287 == t288) = true then (if t268.toList = t269.toList then ((impl_Less.f t268 t268).bind fun t289 => (if t289 = true then (some false) else ((impl_Least.f t273 t274).bind fun t290 => ((impl_Most.f t273 t274).bind fun t291 => (if t290 ≤ t291 then ((impl_PlainOk.f kj9 (⟨#[]⟩ : ByteArray)).bind fun t292 => (some t292)) else (some false)))))) else ((impl_Less.f t268 t269).bind fun t293 => ((impl_Less.f t269 t268).bind fun t294 => (if (t293 != t294) = true then ((impl_Less.f t268 t268).bind fun t295 => (if t295 = true then (some false) else ((impl_Least.f t273 t274).bind fun t296 => ((impl_Most.f t273 t274).bind fun t297 => (if t296 ≤ t297 then ((impl_PlainOk.f kj9 (⟨#[]⟩ : ByteArray)).bind fun t298 => (some t298)) else (some false)))))) else (some false))))) else (some false)))) = some r := by rw [if_neg (show ¬ (false = true) by decide)] at H; exact H
          clear H
          have H := H1
          clear H1
          replace H := Option.bind_eq_some_iff.mp H
          obtain ⟨t287, A380, H⟩ := H
          replace H : ((spec_Less.f t268 t269).bind fun t288 => (if (t287 == t288) = true then (if t268.toList = t269.toList then ((impl_Less.f t268 t268).bind fun t289 => (if t289 = true then (some false) else ((impl_Least.f t273 t274).bind fun t290 => ((impl_Most.f t273 t274).bind fun t291 => (if t290 ≤ t291 then ((impl_PlainOk.f kj9 (⟨#[]⟩ : ByteArray)).bind fun t292 => (some t292)) else (some false)))))) else ((impl_Less.f t268 t269).bind fun t293 => ((impl_Less.f t269 t268).bind fun t294 => (if (t293 != t294) = true then ((impl_Less.f t268 t268).bind fun t295 => (if t295 = true then (some false) else ((impl_Least.f t273 t274).bind fun t296 => ((impl_Most.f t273 t274).bind fun t297 => (if t296 ≤ t297 then ((impl_PlainOk.f kj9 (⟨#[]⟩ : ByteArray)).bind fun t298 => (some t298)) else (some false)))))) else (some false))))) else (some false))) = some r := H
          have A38 := Aside0.mk A380
          clear A380
          replace H := Option.bind_eq_some_iff.mp H
          obtain ⟨t288, A390, H⟩ := H
          replace H : (if (t287 == t288) = true then (if t268.toList = t269.toList then ((impl_Less.f t268 t268).bind fun t289 => (if t289 = true then (some false) else ((impl_Least.f t273 t274).bind fun t290 => ((impl_Most.f t273 t274).bind fun t291 => (if t290 ≤ t291 then ((impl_PlainOk.f kj9 (⟨#[]⟩ : ByteArray)).bind fun t292 => (some t292)) else (some false)))))) else ((impl_Less.f t268 t269).bind fun t293 => ((impl_Less.f t269 t268).bind fun t294 => (if (t293 != t294) = true then ((impl_Less.f t268 t268).bind fun t295 => (if t295 = true then (some false) else ((impl_Least.f t273 t274).bind fun t296 => ((impl_Most.f t273 t274).bind fun t297 => (if t296 ≤ t297 then ((impl_PlainOk.f kj9 (⟨#[]⟩ : ByteArray)).bind fun t298 => (some t298)) else (some false)))))) else (some false))))) else (some false)) = some r := H
          have A39 := Aside0.mk A390
          clear A390
          by_cases c40 : (t287 == t288) = true
          · rw [if_pos c40] at H
            have c40b0 : (t287 == t288) = true := c40
            (try (have c40b1 : decide (t287 = t288) = true := by simpa using c40))
            (try (have c40b2 : (t287 == t288) = true := by simpa using c40))
            clear c40
            by_cases c41 : t268.toList = t269.toList
            · rw [if_pos c41] at H
              have c41b0 : (t268.toList == t269.toList) = true := beq_iff_eq.mpr c41
              have c41b1 : (t268.toList != t269.toList) = false := bne_eq_false_iff_eq.mpr c41
              clear c41
              replace H := Option.bind_eq_some_iff.mp H
              obtain ⟨t289, A420, H⟩ := H
              replace H : (if t289 = true then (some false) else ((impl_Least.f t273 t274).bind fun t290 => ((impl_Most.f t273 t274).bind fun t291 => (if t290 ≤ t291 then ((impl_PlainOk.f kj9 (⟨#[]⟩ : ByteArray)).bind fun t292 => (some t292)) else (some false))))) = some r := H
              have A42 := Aside0.mk A420
              clear A420
              by_cases c43 : t289 = true
              · subst c43
                have H1 : (some false) = some r := by rw [if_pos rfl] at H; exact H
                clear H
                have H := H1
                clear H1
                obtain rfl := Option.some.inj H
                go_wp2_with (first | ((with_reducible refine gate_callee (f := 30) rfl ?_); refine goesL_ (some 74) rfl rfl Try.func30 (by kernel_rfl) rfl #[.string t268, .string t269] rfl (by (try simp only [List.map_toArray, List.map_cons, List.map_nil]); first | done | rfl | (simp only [List.length_drop, List.length_take]; rfl)) ?_; (with_reducible refine (impl_Less.calls t268 t269 t287 _ A38.out).mono ?_); rintro e w' ⟨rfl, ⟨nd, rfl⟩⟩; refine ⟨_, rfl, ?_⟩) | ((with_reducible refine gate_callee (f := 31) rfl ?_); refine goesL_ (some 77) rfl rfl Try.func31 (by kernel_rfl) rfl #[.string t268, .string t269] rfl (by (try simp only [List.map_toArray, List.map_cons, List.map_nil]); first | done | rfl | (simp only [List.length_drop, List.length_take]; rfl)) ?_; (with_reducible refine (spec_Less.calls t268 t269 t288 _ A39.out).mono ?_); rintro e w' ⟨rfl, ⟨nd, rfl⟩⟩; refine ⟨_, rfl, ?_⟩) | (go_at_call 30; (with_reducible refine (impl_Less.calls t268 t268 true _ A42.out).mono ?_); rintro e w' ⟨rfl, ⟨nd, rfl⟩⟩))
                go_ret
                exact ⟨by first | rfl | (simp [errW_none, errW_some] <;> rfl) | (simp [*, errW_none, errW_some] <;> rfl), by repeat (first | (with_reducible first | exact HB.out | apply below_alloc | apply pw_below_drewN | apply below_drew1) | exact HB.out)⟩
              · replace c43 := Bool.eq_false_iff.mpr c43
                subst c43
                have H1 : ((impl_Least.f t273 t274).bind fun t290 => ((impl_Most.f t273 t274).bind fun t291 => (if t290 ≤ t291 then ((impl_PlainOk.f kj9 (⟨#[]⟩ : ByteArray)).bind fun t292 => (some t292)) else (some false)))) = some r := by rw [if_neg (show ¬ (false = true) by decide)] at H; exact H
                clear H
                have H := H1
                clear H1
                replace H := Option.bind_eq_some_iff.mp H
                obtain ⟨t290, A440, H⟩ := H
                replace H : ((impl_Most.f t273 t274).bind fun t291 => (if t290 ≤ t291 then ((impl_PlainOk.f kj9 (⟨#[]⟩ : ByteArray)).bind fun t292 => (some t292)) else (some false))) = some r := H
                have A44 := Aside0.mk A440
                clear A440
                replace H := Option.bind_eq_some_iff.mp H
                obtain ⟨t291, A450, H⟩ := H
                replace H : (if t290 ≤ t291 then ((impl_PlainOk.f kj9 (⟨#[]⟩ : ByteArray)).bind fun t292 => (some t292)) else (some false)) = some r := H
                have A45 := Aside0.mk A450
                clear A450
                by_cases c46 : t290 ≤ t291
                · rw [if_pos c46] at H
                  have c46b0 : decide (t290 ≤ t291) = true := decide_eq_true c46
                  clear c46
                  replace H := Option.bind_eq_some_iff.mp H
                  obtain ⟨t292, A470, H⟩ := H
                  replace H : (some t292) = some r := H
                  have A47 := Aside0.mk A470
                  clear A470
                  obtain rfl := Option.some.inj H
                  go_wp2_with (first | ((with_reducible refine gate_callee (f := 30) rfl ?_); refine goesL_ (some 74) rfl rfl Try.func30 (by kernel_rfl) rfl #[.string t268, .string t269] rfl (by (try simp only [List.map_toArray, List.map_cons, List.map_nil]); first | done | rfl | (simp only [List.length_drop, List.length_take]; rfl)) ?_; (with_reducible refine (impl_Less.calls t268 t269 t287 _ A38.out).mono ?_); rintro e w' ⟨rfl, ⟨nd, rfl⟩⟩; refine ⟨_, rfl, ?_⟩) | ((with_reducible refine gate_callee (f := 31) rfl ?_); refine goesL_ (some 77) rfl rfl Try.func31 (by kernel_rfl) rfl #[.string t268, .string t269] rfl (by (try simp only [List.map_toArray, List.map_cons, List.map_nil]); first | done | rfl | (simp only [List.length_drop, List.length_take]; rfl)) ?_; (with_reducible refine (spec_Less.calls t268 t269 t288 _ A39.out).mono ?_); rintro e w' ⟨rfl, ⟨nd, rfl⟩⟩; refine ⟨_, rfl, ?_⟩) | (go_at_call 30; (with_reducible refine (impl_Less.calls t268 t268 false _ A42.out).mono ?_); rintro e w' ⟨rfl, ⟨nd, rfl⟩⟩) | (go_at_call 26; (with_reducible refine (impl_Least.calls t273 t274 t290 _ A44.out).mono ?_); rintro e w48 ⟨rfl, hb⟩; have n0_ := Aside0.mk (below_step (by repeat (first | (with_reducible first | exact HB.out | apply below_alloc | apply pw_below_drewN | apply below_drew1) | exact HB.out)) hb); clear HB; have HB := n0_; clear n0_; (try clear hb); (try clear hb2); (try clear hk); (try clear hi)) | (go_at_call 28; (with_reducible refine (impl_Most.calls t273 t274 t291 _ A45.out).mono ?_); rintro e w49 ⟨rfl, hb⟩; have n0_ := Aside0.mk (below_step (by repeat (first | (with_reducible first | exact HB.out | apply below_alloc | apply pw_below_drewN | apply below_drew1) | exact HB.out)) hb); clear HB; have HB := n0_; clear n0_; (try clear hb); (try clear hb2); (try clear hk); (try clear hi)) | (go_at_call 22; (with_reducible refine (impl_PlainOk.calls kj9 (⟨#[]⟩ : ByteArray) t292 _ A47.out).mono ?_); rintro e w' ⟨rfl, ⟨nd, rfl⟩⟩))
                  go_ret
                  exact ⟨by first | rfl | (simp [errW_none, errW_some] <;> rfl) | (simp [*, errW_none, errW_some] <;> rfl), by repeat (first | (with_reducible first | exact HB.out | apply below_alloc | apply pw_below_drewN | apply below_drew1) | exact HB.out)⟩
                · rw [if_neg c46] at H
                  have c46b0 : decide (t290 ≤ t291) = false := decide_eq_false c46
                  clear c46
                  obtain rfl := Option.some.inj H
                  go_wp2_with (first | ((with_reducible refine gate_callee (f := 30) rfl ?_); refine goesL_ (some 74) rfl rfl Try.func30 (by kernel_rfl) rfl #[.string t268, .string t269] rfl (by (try simp only [List.map_toArray, List.map_cons, List.map_nil]); first | done | rfl | (simp only [List.length_drop, List.length_take]; rfl)) ?_; (with_reducible refine (impl_Less.calls t268 t269 t287 _ A38.out).mono ?_); rintro e w' ⟨rfl, ⟨nd, rfl⟩⟩; refine ⟨_, rfl, ?_⟩) | ((with_reducible refine gate_callee (f := 31) rfl ?_); refine goesL_ (some 77) rfl rfl Try.func31 (by kernel_rfl) rfl #[.string t268, .string t269] rfl (by (try simp only [List.map_toArray, List.map_cons, List.map_nil]); first | done | rfl | (simp only [List.length_drop, List.length_take]; rfl)) ?_; (with_reducible refine (spec_Less.calls t268 t269 t288 _ A39.out).mono ?_); rintro e w' ⟨rfl, ⟨nd, rfl⟩⟩; refine ⟨_, rfl, ?_⟩) | (go_at_call 30; (with_reducible refine (impl_Less.calls t268 t268 false _ A42.out).mono ?_); rintro e w' ⟨rfl, ⟨nd, rfl⟩⟩) | (go_at_call 26; (with_reducible refine (impl_Least.calls t273 t274 t290 _ A44.out).mono ?_); rintro e w50 ⟨rfl, hb⟩; have n0_ := Aside0.mk (below_step (by repeat (first | (with_reducible first | exact HB.out | apply below_alloc | apply pw_below_drewN | apply below_drew1) | exact HB.out)) hb); clear HB; have HB := n0_; clear n0_; (try clear hb); (try clear hb2); (try clear hk); (try clear hi)) | (go_at_call 28; (with_reducible refine (impl_Most.calls t273 t274 t291 _ A45.out).mono ?_); rintro e w51 ⟨rfl, hb⟩; have n0_ := Aside0.mk (below_step (by repeat (first | (with_reducible first | exact HB.out | apply below_alloc | apply pw_below_drewN | apply below_drew1) | exact HB.out)) hb); clear HB; have HB := n0_; clear n0_; (try clear hb); (try clear hb2); (try clear hk); (try clear hi)))
                  go_ret
                  exact ⟨by first | rfl | (simp [errW_none, errW_some] <;> rfl) | (simp [*, errW_none, errW_some] <;> rfl), by repeat (first | (with_reducible first | exact HB.out | apply below_alloc | apply pw_below_drewN | apply below_drew1) | exact HB.out)⟩
            · rw [if_neg c41] at H
              have c41b0 : (t268.toList == t269.toList) = false := beq_eq_false_iff_ne.mpr c41
              have c41b1 : (t268.toList != t269.toList) = true := bne_iff_ne.mpr c41
              replace H := Option.bind_eq_some_iff.mp H
              obtain ⟨t293, A520, H⟩ := H
              replace H : ((impl_Less.f t269 t268).bind fun t294 => (if (t293 != t294) = true then ((impl_Less.f t268 t268).bind fun t295 => (if t295 = true then (some false) else ((impl_Least.f t273 t274).bind fun t296 => ((impl_Most.f t273 t274).bind fun t297 => (if t296 ≤ t297 then ((impl_PlainOk.f kj9 (⟨#[]⟩ : ByteArray)).bind fun t298 => (some t298)) else (some false)))))) else (some false))) = some r := H
              have A52 := Aside0.mk A520
              clear A520
              replace H := Option.bind_eq_some_iff.mp H
              obtain ⟨t294, A530, H⟩ := H
              replace H : (if (t293 != t294) = true then ((impl_Less.f t268 t268).bind fun t295 => (if t295 = true then (some false) else ((impl_Least.f t273 t274).bind fun t296 => ((impl_Most.f t273 t274).bind fun t297 => (if t296 ≤ t297 then ((impl_PlainOk.f kj9 (⟨#[]⟩ : ByteArray)).bind fun t298 => (some t298)) else (some false)))))) else (some false)) = some r := H
              have A53 := Aside0.mk A530
              clear A530
              by_cases c54 : (t293 != t294) = true
              · rw [if_pos c54] at H
                have c54b0 : (t293 != t294) = true := c54
                (try (have c54b1 : decide (t293 = t294) = false := by simpa using c54))
                (try (have c54b2 : (t293 == t294) = false := by simpa using c54))
                (try (have c54b3 : ¬ (t293 = t294) := by simpa using c54))
                clear c54
                replace H := Option.bind_eq_some_iff.mp H
                obtain ⟨t295, A550, H⟩ := H
                replace H : (if t295 = true then (some false) else ((impl_Least.f t273 t274).bind fun t296 => ((impl_Most.f t273 t274).bind fun t297 => (if t296 ≤ t297 then ((impl_PlainOk.f kj9 (⟨#[]⟩ : ByteArray)).bind fun t298 => (some t298)) else (some false))))) = some r := H
                have A55 := Aside0.mk A550
                clear A550
                by_cases c56 : t295 = true
                · subst c56
                  have H1 : (some false) = some r := by rw [if_pos rfl] at H; exact H
                  clear H
                  have H := H1
                  clear H1
                  obtain rfl := Option.some.inj H
                  go_wp2_with (first | ((with_reducible refine gate_callee (f := 30) rfl ?_); refine goesL_ (some 74) rfl rfl Try.func30 (by kernel_rfl) rfl #[.string t268, .string t269] rfl (by (try simp only [List.map_toArray, List.map_cons, List.map_nil]); first | done | rfl | (simp only [List.length_drop, List.length_take]; rfl)) ?_; (with_reducible refine (impl_Less.calls t268 t269 t287 _ A38.out).mono ?_); rintro e w' ⟨rfl, ⟨nd, rfl⟩⟩; refine ⟨_, rfl, ?_⟩) | ((with_reducible refine gate_callee (f := 31) rfl ?_); refine goesL_ (some 77) rfl rfl Try.func31 (by kernel_rfl) rfl #[.string t268, .string t269] rfl (by (try simp only [List.map_toArray, List.map_cons, List.map_nil]); first | done | rfl | (simp only [List.length_drop, List.length_take]; rfl)) ?_; (with_reducible refine (spec_Less.calls t268 t269 t288 _ A39.out).mono ?_); rintro e w' ⟨rfl, ⟨nd, rfl⟩⟩; refine ⟨_, rfl, ?_⟩) | (go_at_call 30; (with_reducible refine (impl_Less.calls t268 t269 t293 _ A52.out).mono ?_); rintro e w' ⟨rfl, ⟨nd, rfl⟩⟩) | (go_at_call 30; (with_reducible refine (impl_Less.calls t269 t268 t294 _ A53.out).mono ?_); rintro e w' ⟨rfl, ⟨nd, rfl⟩⟩) | (go_at_call 30; (with_reducible refine (impl_Less.calls t268 t268 true _ A55.out).mono ?_); rintro e w' ⟨rfl, ⟨nd, rfl⟩⟩))
                  go_ret
                  exact ⟨by first | rfl | (simp [errW_none, errW_some] <;> rfl) | (simp [*, errW_none, errW_some] <;> rfl), by repeat (first | (with_reducible first | exact HB.out | apply below_alloc | apply pw_below_drewN | apply below_drew1) | exact HB.out)⟩
                · replace c56 := Bool.eq_false_iff.mpr c56
                  subst c56
                  have H1 : ((impl_Least.f t273 t274).bind fun t296 => ((impl_Most.f t273 t274).bind fun t297 => (if t296 ≤ t297 then ((impl_PlainOk.f kj9 (⟨#[]⟩ : ByteArray)).bind fun t298 => (some t298)) else (some false)))) = some r := by rw [if_neg (show ¬ (false = true) by decide)] at H; exact H
                  clear H
                  have H := H1
                  clear H1
                  replace H := Option.bind_eq_some_iff.mp H
                  obtain ⟨t296, A570, H⟩ := H
                  replace H : ((impl_Most.f t273 t274).bind fun t297 => (if t296 ≤ t297 then ((impl_PlainOk.f kj9 (⟨#[]⟩ : ByteArray)).bind fun t298 => (some t298)) else (some false))) = some r := H
                  have A57 := Aside0.mk A570
                  clear A570
                  replace H := Option.bind_eq_some_iff.mp H
                  obtain ⟨t297, A580, H⟩ := H
                  replace H : (if t296 ≤ t297 then ((impl_PlainOk.f kj9 (⟨#[]⟩ : ByteArray)).bind fun t298 => (some t298)) else (some false)) = some r := H
                  have A58 := Aside0.mk A580
                  clear A580
                  by_cases c59 : t296 ≤ t297
                  · rw [if_pos c59] at H
                    have c59b0 : decide (t296 ≤ t297) = true := decide_eq_true c59
                    clear c59
                    replace H := Option.bind_eq_some_iff.mp H
                    obtain ⟨t298, A600, H⟩ := H
                    replace H : (some t298) = some r := H
                    have A60 := Aside0.mk A600
                    clear A600
                    obtain rfl := Option.some.inj H
                    go_wp2_with (first | ((with_reducible refine gate_callee (f := 30) rfl ?_); refine goesL_ (some 74) rfl rfl Try.func30 (by kernel_rfl) rfl #[.string t268, .string t269] rfl (by (try simp only [List.map_toArray, List.map_cons, List.map_nil]); first | done | rfl | (simp only [List.length_drop, List.length_take]; rfl)) ?_; (with_reducible refine (impl_Less.calls t268 t269 t287 _ A38.out).mono ?_); rintro e w' ⟨rfl, ⟨nd, rfl⟩⟩; refine ⟨_, rfl, ?_⟩) | ((with_reducible refine gate_callee (f := 31) rfl ?_); refine goesL_ (some 77) rfl rfl Try.func31 (by kernel_rfl) rfl #[.string t268, .string t269] rfl (by (try simp only [List.map_toArray, List.map_cons, List.map_nil]); first | done | rfl | (simp only [List.length_drop, List.length_take]; rfl)) ?_; (with_reducible refine (spec_Less.calls t268 t269 t288 _ A39.out).mono ?_); rintro e w' ⟨rfl, ⟨nd, rfl⟩⟩; refine ⟨_, rfl, ?_⟩) | (go_at_call 30; (with_reducible refine (impl_Less.calls t268 t269 t293 _ A52.out).mono ?_); rintro e w' ⟨rfl, ⟨nd, rfl⟩⟩) | (go_at_call 30; (with_reducible refine (impl_Less.calls t269 t268 t294 _ A53.out).mono ?_); rintro e w' ⟨rfl, ⟨nd, rfl⟩⟩) | (go_at_call 30; (with_reducible refine (impl_Less.calls t268 t268 false _ A55.out).mono ?_); rintro e w' ⟨rfl, ⟨nd, rfl⟩⟩) | (go_at_call 26; (with_reducible refine (impl_Least.calls t273 t274 t296 _ A57.out).mono ?_); rintro e w61 ⟨rfl, hb⟩; have n0_ := Aside0.mk (below_step (by repeat (first | (with_reducible first | exact HB.out | apply below_alloc | apply pw_below_drewN | apply below_drew1) | exact HB.out)) hb); clear HB; have HB := n0_; clear n0_; (try clear hb); (try clear hb2); (try clear hk); (try clear hi)) | (go_at_call 28; (with_reducible refine (impl_Most.calls t273 t274 t297 _ A58.out).mono ?_); rintro e w62 ⟨rfl, hb⟩; have n0_ := Aside0.mk (below_step (by repeat (first | (with_reducible first | exact HB.out | apply below_alloc | apply pw_below_drewN | apply below_drew1) | exact HB.out)) hb); clear HB; have HB := n0_; clear n0_; (try clear hb); (try clear hb2); (try clear hk); (try clear hi)) | (go_at_call 22; (with_reducible refine (impl_PlainOk.calls kj9 (⟨#[]⟩ : ByteArray) t298 _ A60.out).mono ?_); rintro e w' ⟨rfl, ⟨nd, rfl⟩⟩))
                    go_ret
                    exact ⟨by first | rfl | (simp [errW_none, errW_some] <;> rfl) | (simp [*, errW_none, errW_some] <;> rfl), by repeat (first | (with_reducible first | exact HB.out | apply below_alloc | apply pw_below_drewN | apply below_drew1) | exact HB.out)⟩
                  · rw [if_neg c59] at H
                    have c59b0 : decide (t296 ≤ t297) = false := decide_eq_false c59
                    clear c59
                    obtain rfl := Option.some.inj H
                    go_wp2_with (first | ((with_reducible refine gate_callee (f := 30) rfl ?_); refine goesL_ (some 74) rfl rfl Try.func30 (by kernel_rfl) rfl #[.string t268, .string t269] rfl (by (try simp only [List.map_toArray, List.map_cons, List.map_nil]); first | done | rfl | (simp only [List.length_drop, List.length_take]; rfl)) ?_; (with_reducible refine (impl_Less.calls t268 t269 t287 _ A38.out).mono ?_); rintro e w' ⟨rfl, ⟨nd, rfl⟩⟩; refine ⟨_, rfl, ?_⟩) | ((with_reducible refine gate_callee (f := 31) rfl ?_); refine goesL_ (some 77) rfl rfl Try.func31 (by kernel_rfl) rfl #[.string t268, .string t269] rfl (by (try simp only [List.map_toArray, List.map_cons, List.map_nil]); first | done | rfl | (simp only [List.length_drop, List.length_take]; rfl)) ?_; (with_reducible refine (spec_Less.calls t268 t269 t288 _ A39.out).mono ?_); rintro e w' ⟨rfl, ⟨nd, rfl⟩⟩; refine ⟨_, rfl, ?_⟩) | (go_at_call 30; (with_reducible refine (impl_Less.calls t268 t269 t293 _ A52.out).mono ?_); rintro e w' ⟨rfl, ⟨nd, rfl⟩⟩) | (go_at_call 30; (with_reducible refine (impl_Less.calls t269 t268 t294 _ A53.out).mono ?_); rintro e w' ⟨rfl, ⟨nd, rfl⟩⟩) | (go_at_call 30; (with_reducible refine (impl_Less.calls t268 t268 false _ A55.out).mono ?_); rintro e w' ⟨rfl, ⟨nd, rfl⟩⟩) | (go_at_call 26; (with_reducible refine (impl_Least.calls t273 t274 t296 _ A57.out).mono ?_); rintro e w63 ⟨rfl, hb⟩; have n0_ := Aside0.mk (below_step (by repeat (first | (with_reducible first | exact HB.out | apply below_alloc | apply pw_below_drewN | apply below_drew1) | exact HB.out)) hb); clear HB; have HB := n0_; clear n0_; (try clear hb); (try clear hb2); (try clear hk); (try clear hi)) | (go_at_call 28; (with_reducible refine (impl_Most.calls t273 t274 t297 _ A58.out).mono ?_); rintro e w64 ⟨rfl, hb⟩; have n0_ := Aside0.mk (below_step (by repeat (first | (with_reducible first | exact HB.out | apply below_alloc | apply pw_below_drewN | apply below_drew1) | exact HB.out)) hb); clear HB; have HB := n0_; clear n0_; (try clear hb); (try clear hb2); (try clear hk); (try clear hi)))
                    go_ret
                    exact ⟨by first | rfl | (simp [errW_none, errW_some] <;> rfl) | (simp [*, errW_none, errW_some] <;> rfl), by repeat (first | (with_reducible first | exact HB.out | apply below_alloc | apply pw_below_drewN | apply below_drew1) | exact HB.out)⟩
              · rw [if_neg c54] at H
                have c54b0 : (t293 != t294) = false := by simpa using c54
                (try (have c54b1 : decide (t293 = t294) = true := by simpa using c54))
                (try (have c54b2 : (t293 == t294) = true := by simpa using c54))
                clear c54
                obtain rfl := Option.some.inj H
                go_wp2_with (first | ((with_reducible refine gate_callee (f := 30) rfl ?_); refine goesL_ (some 74) rfl rfl Try.func30 (by kernel_rfl) rfl #[.string t268, .string t269] rfl (by (try simp only [List.map_toArray, List.map_cons, List.map_nil]); first | done | rfl | (simp only [List.length_drop, List.length_take]; rfl)) ?_; (with_reducible refine (impl_Less.calls t268 t269 t287 _ A38.out).mono ?_); rintro e w' ⟨rfl, ⟨nd, rfl⟩⟩; refine ⟨_, rfl, ?_⟩) | ((with_reducible refine gate_callee (f := 31) rfl ?_); refine goesL_ (some 77) rfl rfl Try.func31 (by kernel_rfl) rfl #[.string t268, .string t269] rfl (by (try simp only [List.map_toArray, List.map_cons, List.map_nil]); first | done | rfl | (simp only [List.length_drop, List.length_take]; rfl)) ?_; (with_reducible refine (spec_Less.calls t268 t269 t288 _ A39.out).mono ?_); rintro e w' ⟨rfl, ⟨nd, rfl⟩⟩; refine ⟨_, rfl, ?_⟩) | (go_at_call 30; (with_reducible refine (impl_Less.calls t268 t269 t293 _ A52.out).mono ?_); rintro e w' ⟨rfl, ⟨nd, rfl⟩⟩) | (go_at_call 30; (with_reducible refine (impl_Less.calls t269 t268 t294 _ A53.out).mono ?_); rintro e w' ⟨rfl, ⟨nd, rfl⟩⟩))
                go_ret
                exact ⟨by first | rfl | (simp [errW_none, errW_some] <;> rfl) | (simp [*, errW_none, errW_some] <;> rfl), by repeat (first | (with_reducible first | exact HB.out | apply below_alloc | apply pw_below_drewN | apply below_drew1) | exact HB.out)⟩
          · rw [if_neg c40] at H
            have c40b0 : (t287 == t288) = false := by simpa using c40
            (try (have c40b1 : decide (t287 = t288) = false := by simpa using c40))
            (try (have c40b2 : (t287 == t288) = false := by simpa using c40))
            (try (have c40b3 : ¬ (t287 = t288) := by simpa using c40))
            clear c40
            obtain rfl := Option.some.inj H
            go_wp2_with (first | ((with_reducible refine gate_callee (f := 30) rfl ?_); refine goesL_ (some 74) rfl rfl Try.func30 (by kernel_rfl) rfl #[.string t268, .string t269] rfl (by (try simp only [List.map_toArray, List.map_cons, List.map_nil]); first | done | rfl | (simp only [List.length_drop, List.length_take]; rfl)) ?_; (with_reducible refine (impl_Less.calls t268 t269 t287 _ A38.out).mono ?_); rintro e w' ⟨rfl, ⟨nd, rfl⟩⟩; refine ⟨_, rfl, ?_⟩) | ((with_reducible refine gate_callee (f := 31) rfl ?_); refine goesL_ (some 77) rfl rfl Try.func31 (by kernel_rfl) rfl #[.string t268, .string t269] rfl (by (try simp only [List.map_toArray, List.map_cons, List.map_nil]); first | done | rfl | (simp only [List.length_drop, List.length_take]; rfl)) ?_; (with_reducible refine (spec_Less.calls t268 t269 t288 _ A39.out).mono ?_); rintro e w' ⟨rfl, ⟨nd, rfl⟩⟩; refine ⟨_, rfl, ?_⟩))
            go_ret
            exact ⟨by first | rfl | (simp [errW_none, errW_some] <;> rfl) | (simp [*, errW_none, errW_some] <;> rfl), by repeat (first | (with_reducible first | exact HB.out | apply below_alloc | apply pw_below_drewN | apply below_drew1) | exact HB.out)⟩

/-- THE ONE PURE STATEMENT of laws_FnWords: yours. -/
def laws_FnWords.Pure : Prop := ∀ (l0 : List Int), l0.length ≤ maxLen → l0.length * 1 ≤ 140737488351232 → (∀ x ∈ l0, (Lit.int .u8 x).wf = true) → ∃ k, laws_FnWords.f k l0 = some true
theorem laws_FnWords.walk (P : laws_FnWords.Pure) (a0 : Option Addr) (len0 cap0 : Nat) (z0 : List Int) (w : World) (w0 : (a0 = none ∧ len0 = 0 ∧ cap0 = 0 ∧ z0 = []) ∨ ∃ x, a0 = some x ∧ len0 ≤ cap0 ∧ cap0 ≤ maxLen ∧ z0.length = cap0 ∧ (∀ i, i < z0.length → w.cell? (x.add i) = some (.int .u8 (z0.getD i 0))) ∧ ∀ n ∈ z0, (Lit.int .u8 n).wf = true) (y0 : len0 * 1 ≤ 140737488351232) :
    Calls Try.prog 3 #[.slice a0 len0 cap0] w fun e w' => e = .returned (.bool true) ∧ Below w.heap.size w w' := by
  obtain ⟨l0, rfl, hr0, hm0, hw0, hc0⟩ := ReadsInt.ofRowC w0
  obtain ⟨k, h⟩ := P l0 hm0 y0 hw0
  refine (laws_FnWords.calls k _ _ l0 true w (Kd.C_of_reads (d := (0 : Int)) (h1 := fun _ => rfl) hr0) hc0 h).mono ?_
  rintro e w' ⟨rfl, hd⟩
  exact ⟨rfl, hd⟩

end Go.Proofs.Ytglefglknlcojab.PFnWords
