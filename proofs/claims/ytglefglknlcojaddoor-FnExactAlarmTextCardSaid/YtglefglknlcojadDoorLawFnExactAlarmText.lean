/- The row of FnExactAlarmText, its tables as the program's text lays them, and its tied card: for every input the law returns true, and its arguments read as they did. -/
import Derived.Test.YtglefglknlcojadDoorRows
import Derived.Test.YtglefglknlcojadDoorCards
import Derived.Test.YtglefglknlcojadDoorTie
import Derived.Test.YtglefglknlcojadDoorPFnExactAlarmTextx7
import Derived.Test.YtglefglknlcojadDoorPureFnExactAlarmText
import Derived.Test.YtglefglknlcojadDoorOpen
import Derived.WalkKit
import Derived.ProofKit
import Derived.OpenShut
import Derived.ShutString
import Derived.ChangeOld
import Derived.Below
import Derived.SizedLaws
import Derived.Deep.DeepHandedRow
import Derived.Stop.Joined
import Derived.Stop.JoinedAt
import Derived.Lib.LaidTab
import Derived.Lib.LaidIn
import Derived.Stop.LaidErr
import Derived.SevenTiedAt
namespace Go.Proofs.YtglefglknlcojadDoor.fnExactAlarmText
open Go Go.ChangeShapes Go.WideShapes Go.ChangeAt Go.RowKit Go.Proofs.YtglefglknlcojadDoor.PFnExactAlarmText Go.Proofs.YtglefglknlcojadDoorW.PrintWords Go.Proofs.YtglefglknlcojadDoor.Opened
open Go.ChangeMaps (open_string shut_string)
set_option linter.unusedVariables false
theorem own : ownKnob Tryd.prog.godebug = none := by kernel_rfl
theorem laidOut : laidOutB Tryd.prog = true := by kernel_rfl
theorem p41 : Opens Tryd.prog 41 (Kd.pair Kd.string Kd.string) (fun p => p.1.size ≤ 9223372036854775807 ∧ p.2.size ≤ 9223372036854775807) := opens_struct2 Tryd.underlying41 (by kernel_rfl) rfl rfl  (by kernel_rfl) (by kernel_rfl)  (opens_string Tryd.underlying9) (opens_string Tryd.underlying9)
abbrev W41 (x : S41) : Prop := x.f0.size ≤ 9223372036854775807 ∧ x.f1.size ≤ 9223372036854775807
theorem o41 : Opens Tryd.prog 41 k41 W41 := opens_iso (fun x : S41 => (x.f0, x.f1)) (fun p => ⟨p.1, p.2⟩) (fun _ => rfl) p41
theorem p24 : Opens Tryd.prog 24 (Kd.pair (Kd.slice 41 k41) (Kd.pair (Kd.int .i64) (Kd.pair (Kd.int .i64) Kd.string))) (fun p => (p.1.length ≤ 9223372036854775807 ∧ ∀ b ∈ p.1, W41 b) ∧ (Lit.int .i64 p.2.1).wf = true ∧ (Lit.int .i64 p.2.2.1).wf = true ∧ p.2.2.2.size ≤ 9223372036854775807) := opens_struct4 Tryd.underlying24 (by kernel_rfl) rfl rfl rfl rfl  (by kernel_rfl) (by kernel_rfl) (by kernel_rfl) (by kernel_rfl)  (opens_slice Tryd.underlying22 (by kernel_rfl) o41) (opens_int (k := .i64) Tryd.underlying3) (opens_int (k := .i64) Tryd.underlying3) (opens_string Tryd.underlying9)
theorem gType : (Tryd.prog.globals[1]?).map (·.type) = some 75 := by kernel_rfl
/-- THE WITNESS: the settled world, the tables laid. -/
noncomputable def laidWorld (os : Os) : World :=
  let w0 := World.holding Tryd.prog os ⟨#[], #[], []⟩
  let put (h : Array Obj) (g : Nat) (cs : Array Value) : Array Obj := h.modify g fun
    | .cells _ t frozen => .cells cs t frozen
    | o => o
  { w0 with heap := (put (put (put w0.heap 2 (([0, 1, 28, 2, 29, 14, 24, 3, 30, 22, 20, 15, 25, 17, 4, 8, 31, 27, 13, 23, 21, 19, 16, 7, 26, 12, 18, 6, 11, 5, 10, 9] : List Int).map fun z => Value.int .u8 z).toArray) 3 (([0, 1, 56, 2, 57, 49, 28, 3, 61, 58, 42, 50, 38, 29, 17, 4, 62, 47, 59, 36, 45, 43, 51, 22, 53, 39, 33, 30, 24, 18, 12, 5, 63, 55, 48, 27, 60, 41, 37, 16, 46, 35, 44, 21, 52, 32, 23, 11, 54, 26, 40, 15, 34, 20, 31, 10, 25, 14, 19, 9, 13, 8, 7, 6] : List Int).map fun z => Value.int .u8 z).toArray) 1 (([1, 10, 100, 1000, 10000, 100000, 1000000, 10000000, 100000000, 1000000000, 10000000000, 100000000000, 1000000000000, 10000000000000, 100000000000000, 1000000000000000, 10000000000000000, 100000000000000000, 1000000000000000000, 10000000000000000000] : List Int).map fun z => Value.int .u64 z).toArray) }
set_option maxRecDepth 1000000 in
theorem laid_met (os : Os) (args : Array Value) : laidMet Tryd.prog Rows.fnExactAlarmTextRow.laid ((laidWorld os).forCall (fun _ _ => 0) ⟨#[], args, []⟩).memory :=
  (LaidIn.of_run [2, 3, 1] 8 (by kernel_rfl) (by kernel_rfl) (by kernel_rfl) (by kernel_rfl)).met
set_option maxRecDepth 100000 in
set_option maxHeartbeats 2000000 in
theorem lifted (os : Os) (started : os.Started) (H : Type) (enc : TypeId × Value → H) (F : Stop.Interp) :
    ReturnsInHanded {} Tryd.checked os 3 .any ((OpenSpec.ofChange Rows.fnExactAlarmTextSpec).preRow enc Tryd.prog Tryd.f3 Rows.fnExactAlarmTextRow.domain false Rows.fnExactAlarmTextRow.laid) (((OpenSpec.ofChange Rows.fnExactAlarmTextSpec).at F).post enc Tryd.prog Tryd.f3 false true false false) := by
  refine returnsInHanded_of_row (C := Tryd.checked) (s := OpenSpec.ofChange Rows.fnExactAlarmTextSpec) own started (by kernel_rfl) Tryd.func3
    (witness_row_at (enc := enc) (C := Tryd.checked) false (laidWorld os) #[.agg #[.slice none 0 0, .int .i64 0, .int .i64 0, .string ByteArray.empty]] rfl (by kernel_rfl) (by kernel_rfl) (by kernel_rfl) (OpenSpec.preRow_of_B rfl 8 (by kernel_rfl) (by kernel_rfl) (laid_met os _))) ?_
  intro W base args ds gs before hval0 hW _ _ hsz0 hL hsh _
  have hsz : (DataW.weightsEach Tryd.prog (Tryd.f3.params.toList ++ (OpenSpec.ofChange Rows.fnExactAlarmTextSpec).bare.plain.varTypes Tryd.prog) (ds ++ gs)).all (· ≤ reachBytes) = true := hsz0
  have hval : ∀ (j : Nat) t v, Tryd.f3.params[j]? = some t → args[j]? = some v → Value.okWide Tryd.prog W .any base t v := hval0
  have hW' := hW
  obtain ⟨p, q, hA0, hV, rfl, hfz, hnd⟩ := hW
  have hA : DataW.TrodAll enc Tryd.prog W 0 (fun _ => true) true Tryd.f3.params.toList args.toList ds p := hA0
  rw [Tryd.params3] at hA hval hsz
  obtain ⟨v0, vs0, d0, ds0, p0, q0, hargs, rfl, rfl, h0, r0⟩ := trodAll_cons hA
  obtain ⟨rfl, rfl, rfl⟩ := trodAll_nil r0
  obtain rfl : args = #[v0] := by cases args; simp_all
  obtain ⟨rfl, rfl⟩ := trodVars_none hV
  have k0 := h0
  have lt0 : ∀ x ∈ p0, x.block < W.heap.size := by obtain ⟨m, hm⟩ := k0; exact DataW.trod_lt m _ _ _ hm
  obtain ⟨cs0, x0, rfl, hk0, w0⟩ := arg_struct Tryd.underlying24 p24 (hval 0 24 v0 rfl rfl) h0
  obtain ⟨l0_0, a0_1, a0_2, a0_3⟩ := x0
  obtain ⟨_, _, rfl, ⟨A0_0, c0_0, rfl, hc0_0, hr0_0⟩, ⟨_, _, rfl, rfl, ⟨_, _, rfl, rfl, rfl⟩⟩⟩ := hk0
  clear hA0 hval0
  have hL' : laidMet Tryd.prog [("math/bits.deBruijn32tab", Rows.laid_math_bits_deBruijn32tab), ("math/bits.deBruijn64tab", Rows.laid_math_bits_deBruijn64tab), ("internal/strconv.uint64pow10", Lib.tabData .u64 Lib.pow10Tab)] W := hL
  have htab : Foreign.Laid W := Lib.tabIs_of_head Foreign.gT gType Tryd.underlying75 Tryd.underlying68 (by kernel_rfl) (by kernel_rfl) (laidMet.tail (laidMet.tail hL'))
  obtain ⟨k, hf⟩ := Pure.FnExactAlarmText l0_0 a0_1 a0_2 a0_3 w0
  refine (laws_FnExactAlarmText.calls k _ _ l0_0 a0_1 a0_2 a0_3 true W hr0_0 hc0_0 ⟨rfl⟩ hf htab).mono fun e W' ⟨he, bel0⟩ => ?_
  have bel : Below W.heap.size W W' := bel0
  subst he
  exact ⟨_, rfl, _, _, _, [], _, [], hW', trodAll_mk1 (shut_bool Tryd.underlying4 _), (trodAll_cons_mk (Below.trod laidOut (by kernel_rfl) (of_decide_eq_true (by kernel_rfl)) k0 bel lt0) trodAll_mk0), rfl, bel.frame _, fun h => by cases h⟩
theorem over : Rows.fnExactAlarmTextRow.holds Tryd.pinned (OpenSpec.ofChange Rows.fnExactAlarmTextSpec) :=
  OpenClaim.holds_of_cond 3 Tryd.f3 rfl rfl rfl rfl rfl rfl rfl ⟨rfl, rfl, rfl, rfl, rfl⟩ rfl rfl rfl rfl rfl (by kernel_rfl) Tryd.func3 (by kernel_rfl)
    (of_decide_eq_true (by kernel_rfl)) (by unfold Func.isWrapper; first | (rw [if_pos (by decide +kernel)]; kernel_rfl) | (rw [if_neg (by decide +kernel)]; exact ⟨rfl, rfl⟩))
    (fun os started H enc _ F0 => by rw [OpenClaim.pre_eq_preRow]; exact lifted os started H enc F0)
theorem card : Claim7.holds Tryd.pinned (.plain (OpenSpec.ofChange Rows.fnExactAlarmTextSpec)) Rows.fnExactAlarmTextCard :=
  Claim7.holds_tied_plain_at .later [] [.data, .data, .data] true (true, "2375755b1689183dea8ab02f42be7f65fa3880bc079941cf6eadc9f2dfba9806") false
    over (fun _ h => by cases h) (by kernel_rfl) (fun _ h => by cases h) fnExactAlarmText_row_tie rfl ⟨rfl, rfl⟩ (by kernel_rfl) rfl
    (fun f fn hf hfn => by
      obtain rfl : f = 3 := Option.some.inj ((show Tryd.prog.funcNamed "loop.example/g00490/laws.FnExactAlarmText" = some 3 by kernel_rfl).symm.trans hf) |>.symm
      obtain rfl : fn = Tryd.f3 := (Option.some.inj (Tryd.func3.symm.trans hfn)).symm
      exact ⟨by kernel_rfl, fun j t ht => by
        rw [Tryd.params3] at ht
        have h3 : t = 24 := by
          rcases j with _ | j
          · simpa using ht.symm
          · simp at ht
        subst h3
        exact (show Tryd.prog.wantsStandIn 24 = false by kernel_rfl)⟩)
    (by kernel_rfl)
theorem proved : Rows.FnExactAlarmTextCardSaid := card
#print axioms proved
end Go.Proofs.YtglefglknlcojadDoor.fnExactAlarmText
namespace Go.Proofs.YtglefglknlcojadDoor
/-- The tied card, under a short name, for the claim. -/
theorem fnExactAlarmText_holds : Rows.FnExactAlarmTextCardSaid := fnExactAlarmText.proved
end Go.Proofs.YtglefglknlcojadDoor
