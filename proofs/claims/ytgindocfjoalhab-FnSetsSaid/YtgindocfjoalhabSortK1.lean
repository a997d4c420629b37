/- sort.SliceStable at elements of k cells: a permutation at every length; below one block the insertion sort. -/
import Derived.Test.YtgindocfjoalhabShelf
import Derived.Shelf.SlSortFuncK.HeapSortK
import Derived.Shelf.GgSortFunc.SmallK
import Derived.Test.YtgindocfjoalhabWMore
set_option linter.unusedVariables false
set_option linter.unusedSimpArgs false
namespace Go.Proofs.Ytgindocfjoalhab.SortK
open Go.Shelf Go.RowKit Go.Lib Go.Sort Go.Proofs.YtgindocfjoalhabW.PrintWords
/-! ### sort.SliceStable's callees at elements of k cells: what is left is a permutation (whatever 'less' says); below one block it is the insertion sort -/
theorem perm_size {α : Type} {d d' : Array α} (h : d'.toList.Perm d.toList) : d'.size = d.size := by have := h.length_eq; simpa using this
section
variable {α : Type} [Inhabited α]
theorem swp_perm (d : Array α) (i j : Nat) (hi : i < d.size) (hj : j < d.size) : (swp d i j).toList.Perm d.toList := by
  have h := swp_permIn d 0 d.size i j (Nat.zero_le _) hi (Nat.zero_le _) hj (Nat.le_refl _)
  have h2 := h.2.2
  rwa [Array.extract_size, show (swp d i j).extract 0 d.size = swp d i j by rw [← h.1, Array.extract_size]] at h2
theorem insInner_perm (lt : α → α → Bool) (a : Nat) : ∀ (j : Nat) (d : Array α), j < d.size → (insInner lt a j d).toList.Perm d.toList
  | 0, d, _ => by unfold insInner; exact List.Perm.refl _
  | j + 1, d, h => by
    unfold insInner
    split
    · exact (insInner_perm lt a j (swp d (j + 1) j) (by rw [size_swp]; omega)).trans (swp_perm d (j + 1) j h (by omega))
    · exact List.Perm.refl _
theorem insOuter_perm (lt : α → α → Bool) (a b : Nat) : ∀ (n i : Nat) (d : Array α), b - i = n → b ≤ d.size → (insOuter lt a b i d).toList.Perm d.toList
  | 0, i, d, hn, _ => by rw [insOuter, if_neg (by omega)]
  | n + 1, i, d, hn, hb => by
    rw [insOuter, if_pos (by omega)]
    have h1 := insInner_perm lt a i d (by omega)
    exact (insOuter_perm lt a b n (i + 1) _ (by omega) (by rw [perm_size h1]; exact hb)).trans h1
theorem insertionSort_perm (lt : α → α → Bool) (d : Array α) (a b : Nat) (hb : b ≤ d.size) : (Sort.insertionSort lt d a b).toList.Perm d.toList := insOuter_perm lt a b _ _ d rfl hb
end
set_option maxHeartbeats 16000000 in
set_option maxRecDepth 1000000 in
theorem stable_under20 {α : Type} [Inhabited α] (enc : α → List Value) (k : Nat) (hk : ∀ x, (enc x).length = k) (lt : α → α → Bool) (g : Nat) (lb : Array Value) (sf : Nat) (sb : Array Value) (blk off : Nat) (d : Array α) (w : World) (eg : ∀ args w, (callFunc g args).run Try.prog w = .ok (.enter g args) w)
    (hless : LessReadsK Try.prog g lb enc k lt blk off d.size w) (hswap : SwapSwapsK Try.prog sf sb enc k blk off d.size) (hH : HoldsK enc k w blk off d) (hblk : blk < w.heap.size) (h20 : d.size < 20) :
    Calls Try.prog 147 #[.agg #[.func (.func g) #[] lb, .func (.func sf) #[] sb], .int .i64 d.size] w fun e w' => e = .returned (.tuple #[]) ∧ ∃ (q : Nat) (os : Array Obj), w' = sortWorldK enc k w blk off q (Sort.insertionSort lt d 0 d.size) os := by
  have hne : w.heap.size ≠ blk := by omega
  have S0 : SWK enc k w blk off d (w.alloc (.cells #[.func (.func g) #[] lb, .func (.func sf) #[] sb] 157)) := (SWK.start hH).alloc _
  have hc := Try.insertionSort_func_cells_w enc k hk lt g lb sf sb blk off 0 d.size d _ eg (S0.lessReads hless hblk rfl) hswap (S0.holds hblk hH rfl) (S0.lt hblk) (Nat.zero_le _) (Nat.le_refl _) (by omega)
  rw [show ((0 : Nat) : Int) = 0 from rfl] at hc
  have HS := Aside0.mk S0
  clear S0 hless hswap hH
  go_enter Try.func147, Try.ntmps147
  go_wp2
  go_loopg [5, 6] 1 (fun kx s5 s6 wr => s5 = .int .i64 0 ∧ s6 = .int .i64 20 ∧ kx = 1 ∧ wr = w.alloc (.cells #[.func (.func g) #[] lb, .func (.func sf) #[] sb] 157))
  case atStart => exact ⟨rfl, rfl, rfl, rfl⟩
  case round =>
    obtain ⟨rfl, rfl, _, rfl⟩ := hrel
    go_wp2_with (go_at_call 164; refine hc.mono ?_; rintro e w1 ⟨rfl, q, os, rfl⟩; have HS1 := Aside0.mk (HS.out.on hblk q (Sort.insertionSort lt d 0 d.size) os (perm_size (insertionSort_perm lt d 0 d.size (Nat.le_refl _)))); generalize sortWorldK enc k _ blk off q (Sort.insertionSort lt d 0 d.size) os = w2 at HS1 ⊢)
    go_loopg [4] 1 (fun kx s4 wr => s4 = .int .i64 20 ∧ wr = w2)
    case atStart => exact ⟨rfl, rfl⟩
    case round =>
      obtain ⟨rfl, rfl⟩ := hrel
      go_wp2
      go_end0
      obtain ⟨q, os, h⟩ := HS1.out
      exact ⟨rfl, q, os, h⟩
end Go.Proofs.Ytgindocfjoalhab.SortK
