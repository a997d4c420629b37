/- sort.SliceStable at elements of k cells: a permutation at every length; below one block the insertion sort. -/
import Derived.Test.YtgindocfjoalhabShelf
import Derived.Shelf.SlSortFuncK.HeapSortK
import Derived.Shelf.GgSortFunc.SmallK
import Derived.Test.YtgindocfjoalhabWMore
import Derived.Test.YtgindocfjoalhabSortK3
set_option linter.unusedVariables false
set_option linter.unusedSimpArgs false
namespace Go.Proofs.Ytgindocfjoalhab.SortK
open Go.Shelf Go.RowKit Go.Lib Go.Sort Go.Proofs.YtgindocfjoalhabW.PrintWords
noncomputable def svT : TypeInfo := (Try.prog.info? 24).get (by kernel_rfl)
noncomputable def svE : TypeInfo := (Try.prog.info? 86).get (by kernel_rfl)
theorem svK (n : Nat) (h2 : 2 ≤ n) : Lib.swapperK n svE 25 = 9 := by
  have a : svE.hasPointers = true := by kernel_rfl
  have b : svE.bytes = 32 := by kernel_rfl
  have c : (n == 0) = false := by simp; omega
  have d : (n == 1) = false := by simp; omega
  simp [Lib.swapperK, a, b, c, d]
/-- sort.SliceStable at elements of two cells: a permutation, and below 20 the insertion sort's. -/
theorem slice_any {α : Type} [Inhabited α] (enc : α → List Value) (hk : ∀ x, (enc x).length = 2) (h1 : ∀ x, ∀ v ∈ enc x, v.oneCell' = true) (lt : α → α → Bool) (g : Nat) (lb : Array Value) (eg : ∀ args w, (callFunc g args).run Try.prog w = .ok (.enter g args) w)
    (blk off c : Nat) (d : Array α) (h2 : 2 ≤ d.size) (hsz : d.size < 1152921504606846976) (w : World) (hless : LessReadsK Try.prog g lb enc 2 lt blk off d.size w) (hH : HoldsK enc 2 w blk off d) (hblk : blk < w.heap.size) :
    Calls Try.prog 121 #[.iface 24 (.slice (some ⟨blk, off, none⟩) d.size c), .func (.func g) #[] lb] w fun e w' => e = .returned (.tuple #[]) ∧ ∃ (d' : Array α) (n : Nat) (os : Array Obj), d'.toList.Perm d.toList ∧ (d.size < 20 → d' = Sort.insertionSort lt d 0 d.size) ∧ w' = grow (putRowK enc 2 (Sort.ahead w n) blk off d') os := by
  refine Any.sort_SliceStable_of_stable Try.laysGt8 24 86 svT svE (by kernel_rfl) (by kernel_rfl) (by kernel_rfl) (by kernel_rfl) 25 (fun _ => by kernel_rfl) _ d.size c (by omega) 163 (by rw [svK _ h2]; kernel_rfl) (.func g) #[] lb w _ ?_
  have hB : sliceBound Try.prog 86 svE 25 (some ⟨blk, off, none⟩) d.size c = #[.slice (some ⟨blk, off, none⟩) d.size c, typeHandle Try.prog 86] := by
    unfold sliceBound; rw [if_neg (swapperK_gt _ _ _ h2)]
  obtain ⟨os0, hW⟩ : ∃ os0, stableWorld Try.prog Try.laysGt8_ren 24 (some ⟨blk, off, none⟩) d.size c w = grow w os0 := ⟨_, by unfold stableWorld; rw [alloc_eq_grow, alloc_eq_grow, grow_grow]⟩
  rw [hB, hW]
  have hl := hless.grow hblk os0
  have hS := swapSwapsK_of_literal (P := Try.prog) false 163 (fun args W => run_callFunc_extern Try.func163 (by kernel_rfl) (by kernel_rfl) (by kernel_rfl) (e := Extern.ReflectliteSwapper.swap false) (by kernel_rfl) args W) 86 svE (by kernel_rfl) enc 2 hk (by kernel_rfl) (fun _ => by kernel_rfl) h1 blk off d.size c
  have hH0 := holdsK_grow enc 2 w os0 blk off d hblk hH
  have hb0 : blk < (grow w os0).heap.size := by rw [size_grow]; omega
  have fin : ∀ (d' : Array α) (q : Nat) (os : Array Obj), ∃ n os', sortWorldK enc 2 (grow w os0) blk off q d' os = grow (putRowK enc 2 (Sort.ahead w n) blk off d') os' := fun d' q os => ⟨q, _, by unfold sortWorldK; rw [ahead_grow, putRowK_grow enc 2 (Sort.ahead w q) _ blk off _ hblk, grow_grow]⟩
  by_cases h20 : d.size < 20
  · refine (stable_under20 enc 2 hk lt g lb 163 _ blk off d (grow w os0) eg hl hS hH0 hb0 h20).mono ?_
    rintro e w' ⟨rfl, q, os, rfl⟩
    obtain ⟨n, os', h⟩ := fin (Sort.insertionSort lt d 0 d.size) q os
    exact ⟨rfl, _, n, os', insertionSort_perm lt d 0 d.size (Nat.le_refl _), fun _ => rfl, h⟩
  · refine (stable_any enc 2 hk lt g lb 163 _ blk off d (grow w os0) eg hl hS hH0 hb0 hsz).mono ?_
    rintro e w' ⟨rfl, d', q, os, hp, rfl⟩
    obtain ⟨n, os', h⟩ := fin d' q os
    exact ⟨rfl, d', n, os', hp, fun h => absurd h h20, h⟩
/-- sort.SliceStable at no element or one. -/
theorem slice_tiny (p : Option Addr) (n c : Nat) (hn : n ≤ 1) (lf : Fn) (la lb : Array Value) (w : World) :
    Calls Try.prog 121 #[.iface 24 (.slice p n c), .func lf la lb] w fun e w' => e = .returned (.tuple #[]) ∧ ∃ os, w' = grow w os := by
  have h0 : n = 0 ∨ n = 1 := by omega
  rcases h0 with rfl | rfl
  · exact Any.sort_SliceStable_tiny Try.laysGt8 24 86 svT svE (by kernel_rfl) (by kernel_rfl) (by kernel_rfl) (by kernel_rfl) 25 (fun _ => by kernel_rfl) p 0 c (by omega) 155 (by kernel_rfl) lf la lb w
  · exact Any.sort_SliceStable_tiny Try.laysGt8 24 86 svT svE (by kernel_rfl) (by kernel_rfl) (by kernel_rfl) (by kernel_rfl) 25 (fun _ => by kernel_rfl) p 1 c (by omega) 156 (by kernel_rfl) lf la lb w
end Go.Proofs.Ytgindocfjoalhab.SortK
