/- sort.SliceStable at elements of k cells: a permutation at every length; below one block the insertion sort. -/
import Derived.Test.YtgindocfjoalhabShelf
import Derived.Shelf.SlSortFuncK.HeapSortK
import Derived.Shelf.GgSortFunc.SmallK
import Derived.Test.YtgindocfjoalhabWMore
import Derived.Test.YtgindocfjoalhabSortK2
set_option linter.unusedVariables false
set_option linter.unusedSimpArgs false
namespace Go.Proofs.Ytgindocfjoalhab.SortK
open Go.Shelf Go.RowKit Go.Lib Go.Sort Go.Proofs.YtgindocfjoalhabW.PrintWords
set_option maxHeartbeats 16000000 in
set_option maxRecDepth 1000000 in
theorem stable_any {α : Type} [Inhabited α] (enc : α → List Value) (k : Nat) (hk : ∀ x, (enc x).length = k) (lt : α → α → Bool) (g : Nat) (lb : Array Value) (sf : Nat) (sb : Array Value) (blk off : Nat) (d : Array α) (w : World) (eg : ∀ args w, (callFunc g args).run Try.prog w = .ok (.enter g args) w)
    (hless : LessReadsK Try.prog g lb enc k lt blk off d.size w) (hswap : SwapSwapsK Try.prog sf sb enc k blk off d.size) (hH : HoldsK enc k w blk off d) (hblk : blk < w.heap.size) (hsz : d.size < 1152921504606846976) :
    Calls Try.prog 147 #[.agg #[.func (.func g) #[] lb, .func (.func sf) #[] sb], .int .i64 d.size] w fun e w' => e = .returned (.tuple #[]) ∧ ∃ (d' : Array α) (q : Nat) (os : Array Obj), d'.toList.Perm d.toList ∧ w' = sortWorldK enc k w blk off q d' os := by
  have hne : w.heap.size ≠ blk := by omega
  have S0 : Aside0 (SWB enc k w blk off d (.func (.func g) #[] lb) (.func (.func sf) #[] sb) (w.alloc (.cells #[.func (.func g) #[] lb, .func (.func sf) #[] sb] 157))) := ⟨(SWK.start hH).alloc _, by simp, by simp, by simp⟩
  have HL := Aside0.mk hless
  have HW := Aside0.mk hswap
  have HH := Aside0.mk hH
  clear hless hswap hH
  obtain ⟨n, hn⟩ : ∃ n, n = d.size := ⟨_, rfl⟩
  rw [← hn] at hsz ⊢
  have HN := Aside0.mk hn
  clear hn
  go_enter Try.func147, Try.ntmps147
  go_wp2
  go_loopg [5, 6] n (fun kx s5 s6 wr => ∃ (a : Nat) (dk : Array α), s5 = .int .i64 a ∧ s6 = .int .i64 ((a : Int) + 20) ∧ a ≤ n ∧ n - a ≤ kx ∧ Aside0 (dk.toList.Perm d.toList) ∧ Aside0 (SWB enc k w blk off dk (.func (.func g) #[] lb) (.func (.func sf) #[] sb) wr))
  case atStart => exact ⟨0, d, rfl, rfl, Nat.zero_le _, Nat.le_refl _, ⟨List.Perm.refl _⟩, S0⟩
  case round =>
    clear S0
    obtain ⟨a, dk, rfl, rfl, han, hkx, HP, S⟩ := hrel
    by_cases hlt : a + 20 ≤ n
    · have hds := (perm_size HP.out).trans HN.out.symm
      have hcall := Try.insertionSort_func_cells_w enc k hk lt g lb sf sb blk off a (a + 20) dk _ eg (by rw [hds, HN.out]; exact S.out.1.lessReads HL.out hblk (by rw [hds]; exact HN.out)) (by rw [hds, HN.out]; exact HW.out) (S.out.1.holds hblk HH.out (by rw [hds]; exact HN.out)) (S.out.1.lt hblk) (by omega) (by omega) (by omega)
      rw [show ((a + 20 : Nat) : Int) = (a : Int) + 20 by omega] at hcall
      have hpi := insertionSort_perm lt dk a (a + 20) (by omega)
      have HPI := Aside0.mk hpi
      have c0 := S.out.2.1
      have c1 := S.out.2.2.1
      clear hpi
      go_wp2_with (go_at_call 164; refine hcall.mono ?_; rintro e w1 ⟨rfl, q, os, rfl⟩; have S1 := Aside0.mk (S.out.call hblk hne q os (perm_size HPI.out)))
      go_roundg (n - (a + 20))
      case measure => omega
      case rel => exact ⟨a + 20, _, by go_num, by go_num, hlt, Nat.le_refl _, ⟨HPI.out.trans HP.out⟩, S1⟩
    · have hds := (perm_size HP.out).trans HN.out.symm
      have hcall := Try.insertionSort_func_cells_w enc k hk lt g lb sf sb blk off a n dk _ eg (by rw [hds, HN.out]; exact S.out.1.lessReads HL.out hblk (by rw [hds]; exact HN.out)) (by rw [hds, HN.out]; exact HW.out) (S.out.1.holds hblk HH.out (by rw [hds]; exact HN.out)) (S.out.1.lt hblk) (by omega) (by omega) (by omega)
      have hpi := insertionSort_perm lt dk a n (by omega)
      have HPI := Aside0.mk (hpi.trans HP.out)
      have HPS := Aside0.mk (perm_size hpi)
      have c0 := S.out.2.1
      have c1 := S.out.2.2.1
      clear hpi hds
      go_wp2_with (go_at_call 164; refine hcall.mono ?_; rintro e w1 ⟨rfl, q, os, rfl⟩; have S1 := Aside0.mk (S.out.call hblk hne q os HPS.out))
      clear HP S c0 c1 HPS hcall
      have HP := HPI
      have S := S1
      clear HPI S1
      generalize Sort.insertionSort lt dk a n = dk0 at HP S ⊢
      clear hlt han hkx
      go_loopg [4] n (fun kx s4 wr => ∃ (bs : Nat) (dk : Array α), s4 = .int .i64 bs ∧ 0 < bs ∧ bs ≤ 2 * n + 20 ∧ n - bs ≤ kx ∧ Aside0 (dk.toList.Perm d.toList) ∧ Aside0 (SWB enc k w blk off dk (.func (.func g) #[] lb) (.func (.func sf) #[] sb) wr))
      case atStart => exact ⟨20, dk0, rfl, by omega, by omega, by omega, HP, S⟩
      case round =>
        clear HP S dk0
        obtain ⟨bs, dk, rfl, hbs0, hbs1, hkx, HP, S⟩ := hrel
        by_cases hbn : bs < n
        · go_wp2
          go_loopg [5, 6] n (fun kx s5 s6 wr => ∃ (a : Nat) (dk : Array α), s5 = .int .i64 a ∧ s6 = .int .i64 ((a : Int) + 2 * (bs : Int)) ∧ a ≤ n ∧ n - a ≤ kx ∧ Aside0 (dk.toList.Perm d.toList) ∧ Aside0 (SWB enc k w blk off dk (.func (.func g) #[] lb) (.func (.func sf) #[] sb) wr))
          case atStart => exact ⟨0, dk, rfl, by go_num, Nat.zero_le _, Nat.le_refl _, HP, S⟩
          case round =>
            clear HP S dk
            obtain ⟨a, dk, rfl, rfl, han, hka, HP, S⟩ := hrel
            have hds := perm_size HP.out
            by_cases hlt : a + 2 * bs ≤ n
            · have hcall := symMerge_k enc k hk lt g lb sf sb blk off eg (2 * bs) a (a + bs) (a + 2 * bs) dk _ (by omega) (by rw [hds]; exact S.out.1.lessReads HL.out hblk hds) (by rw [hds]; exact HW.out) (S.out.1.holds hblk HH.out hds) (S.out.1.lt hblk) (by omega) (by omega) (by rw [hds, ← HN.out]; exact hlt) (by rw [hds, ← HN.out]; exact hsz)
              rw [show ((a + bs : Nat) : Int) = (a : Int) + (bs : Int) by omega, show ((a + 2 * bs : Nat) : Int) = (a : Int) + 2 * (bs : Int) by omega] at hcall
              have c0 := S.out.2.1
              have c1 := S.out.2.2.1
              clear hds
              go_wp2_with (go_at_call 165; refine hcall.mono ?_; rintro e w1 ⟨rfl, d1, q, os, hp', rfl⟩; have HP1 := Aside0.mk (hp'.trans HP.out); have S1 := Aside0.mk (S.out.call hblk hne q os (perm_size hp')); clear hp')
              go_roundg (n - (a + 2 * bs))
              case measure => omega
              case rel => exact ⟨a + 2 * bs, d1, by go_num, by go_num, hlt, Nat.le_refl _, HP1, S1⟩
            · by_cases hm : a + bs < n
              · have hcall := symMerge_k enc k hk lt g lb sf sb blk off eg n a (a + bs) n dk _ (by omega) (by rw [hds]; exact S.out.1.lessReads HL.out hblk hds) (by rw [hds]; exact HW.out) (S.out.1.holds hblk HH.out hds) (S.out.1.lt hblk) (by omega) hm (by rw [hds, ← HN.out]; exact Nat.le_refl _) (by rw [hds, ← HN.out]; exact hsz)
                rw [show ((a + bs : Nat) : Int) = (a : Int) + (bs : Int) by omega] at hcall
                have c0 := S.out.2.1
                have c1 := S.out.2.2.1
                clear hds
                go_wp2_with (go_at_call 165; refine hcall.mono ?_; rintro e w1 ⟨rfl, d1, q, os, hp', rfl⟩; have HP1 := Aside0.mk (hp'.trans HP.out); have S1 := Aside0.mk (S.out.call hblk hne q os (perm_size hp')); clear hp')
                go_roundg (n - bs * 2)
                case measure => omega
                case rel => exact ⟨bs * 2, d1, by go_num, by omega, by omega, Nat.le_refl _, HP1, S1⟩
              · go_wp2
                go_roundg (n - bs * 2)
                case measure => omega
                case rel => exact ⟨bs * 2, dk, by go_num, by omega, by omega, Nat.le_refl _, HP, S⟩
        · go_wp2
          go_end0
          obtain ⟨q, os, h⟩ := S.out.1
          exact ⟨rfl, dk, q, os, HP.out, h⟩
end Go.Proofs.Ytgindocfjoalhab.SortK
