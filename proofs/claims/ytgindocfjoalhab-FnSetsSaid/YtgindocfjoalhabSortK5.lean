/- sort.SliceStable at elements of k cells: a permutation at every length; below one block the insertion sort. -/
import Derived.Test.YtgindocfjoalhabShelf
import Derived.Shelf.SlSortFuncK.HeapSortK
import Derived.Shelf.GgSortFunc.SmallK
import Derived.Test.YtgindocfjoalhabWMore
import Derived.Test.YtgindocfjoalhabSortK4
set_option linter.unusedVariables false
set_option linter.unusedSimpArgs false
namespace Go.Proofs.Ytgindocfjoalhab.SortK
open Go.Shelf Go.RowKit Go.Lib Go.Sort Go.Proofs.YtgindocfjoalhabW.PrintWords
section
variable {α : Type} [Inhabited α]
/-- The elements are the two cells that 'enc' tells. -/
structure Flat (d : Kd α) (enc : α → List Value) : Prop where
  sz : d.sz = 2
  of : ∀ {w : World} {base : Nat} {ok : Nat → Prop} {x : α} {cs : List Value}, d.M w base ok x cs → cs = enc x
  made : ∀ (w : World) (base : Nat) (ok : Nat → Prop) (x : α), d.M w base ok x (enc x)
  len : ∀ x, (enc x).length = 2
theorem open_row {d : Kd α} {enc : α → List Value} (F : Flat d enc) {e : Nat} {w : World} {base : Nat} {ok : Nat → Prop} {v : Value} {xs : List α} (h : d.R e w base ok v xs) (h1 : 1 ≤ xs.length) :
    ∃ (g cap : Nat) (cur : Array Value), v = .slice (some ⟨g, 0, none⟩) xs.length cap ∧ base ≤ g ∧ w.heap[g]? = some (.cells cur e (0, 0)) ∧ xs.length ≤ cap ∧ cap ≤ maxLen ∧ HoldsK enc 2 w g 0 xs.toArray := by
  obtain ⟨h0, inner, ⟨hl, ho⟩, hr⟩ := h
  rcases ho with ⟨_, hz⟩ | ⟨g, cap, cur, rfl, hg, hh, hc, hm, hs, ht⟩
  · omega
  · rw [F.sz] at hs ht hr
    refine ⟨g, cap, cur, rfl, hg, hh, hc, hm, fun j hj => ⟨?_, blk_frozen hh _⟩⟩
    have hj' : j < xs.toArray.size * 2 := by rw [← size_flatK enc 2]; exact hj
    have hjn : j < xs.length * 2 := by simpa using hj'
    rw [Nat.zero_add, blk_cell hh, get_flatK _ _ _ _ hj']
    have hi : j / 2 < xs.length := by omega
    have e1 := F.of (hr.2 (j / 2) _ (List.getElem?_eq_getElem hi))
    have e2 : inner[j]? = (enc xs[j / 2])[j % 2]? := by
      rw [← e1, List.getElem?_take, List.getElem?_drop, if_pos (by omega)]; congr 1; omega
    have e3 : cur[j]? = inner[j]? := by rw [← ht, List.getElem?_take, if_pos (by omega), Array.getElem?_toList]
    have e4 : xs.toArray[j / 2]! = xs[j / 2] := by simp [hi]
    rw [e3, e2, e4]
    have hq : j % 2 < (enc xs[j / 2]).length := by rw [F.len]; omega
    simp [List.getElem?_eq_getElem hq, List.getElem!_eq_getElem?_getD]
theorem heap_put {enc : α → List Value} {w : World} {g : Nat} {cur : Array Value} {e : Nat} (hh : w.heap[g]? = some (.cells cur e (0, 0))) (n : Nat) (os : Array Obj) (d' : Array α) :
    (grow (putRowK enc 2 (Sort.ahead w n) g 0 d') os).heap[g]? = some (.cells (putCells id 0 (flatK enc 2 d') cur) e (0, 0)) := by
  have hlt : g < w.heap.size := by
    rcases Nat.lt_or_ge g w.heap.size with h | h
    · exact h
    · rw [Array.getElem?_eq_none h] at hh; exact absurd hh (by simp)
  rw [heap_grow_old _ _ (by show g < (w.heap.modify g _).size; simpa using hlt)]
  show (w.heap.modify g (onCells (putCells id 0 (flatK enc 2 d'))))[g]? = _
  rw [Array.getElem?_modify, if_pos rfl, hh]
  rfl
theorem heap_put_other {enc : α → List Value} {w : World} {g k : Nat} (hk : k < w.heap.size) (hne : k ≠ g) (n : Nat) (os : Array Obj) (d' : Array α) :
    (grow (putRowK enc 2 (Sort.ahead w n) g 0 d') os).heap[k]? = w.heap[k]? := by
  rw [heap_grow_old _ _ (by show k < (w.heap.modify g _).size; simpa using hk)]
  show (w.heap.modify g (onCells (putCells id 0 (flatK enc 2 d'))))[k]? = _
  rw [Array.getElem?_modify, if_neg (fun h => hne h.symm)]
theorem close_row {d : Kd α} {enc : α → List Value} (F : Flat d enc) {e : Nat} {w : World} {base : Nat} {ok : Nat → Prop} {g cap : Nat} {xs : List α} (h : d.R e w base ok (.slice (some ⟨g, 0, none⟩) xs.length cap) xs) (d' : Array α) (hd : d'.size = xs.length) (n : Nat) (os : Array Obj) :
    d.R e (grow (putRowK enc 2 (Sort.ahead w n) g 0 d') os) base ok (.slice (some ⟨g, 0, none⟩) xs.length cap) d'.toList := by
  obtain ⟨h0, inner, ⟨hl, ho⟩, hr⟩ := h
  rcases ho with ⟨hz, _⟩ | ⟨g', cap', cur, he, hg, hh, hc, hm, hs, ht⟩
  · exact absurd hz (by simp)
  · injection he with he1 he2 he3
    injection he1 with he1
    injection he1 with he1
    subst he1
    subst he3
    rw [F.sz] at hs ht hr
    have hfs : (flatK enc 2 d').size = xs.length * 2 := by rw [size_flatK, hd]
    refine ⟨h0, (flatK enc 2 d').toList, ⟨?_, .inr ⟨g, cap, putCells id 0 (flatK enc 2 d') cur, ?_, hg, heap_put hh n os d', ?_, hm, ?_, ?_⟩⟩, ?_, ?_⟩
    · rw [F.sz, Array.length_toList, size_flatK, Array.length_toList]
    · rw [show d'.toList.length = xs.length from hd]
    · rw [show d'.toList.length = xs.length from hd]; exact hc
    · rw [F.sz]; simpa [putCells] using hs
    · rw [F.sz, show d'.toList.length = xs.length from hd]
      apply List.ext_getElem?
      intro j
      rw [List.getElem?_take]
      by_cases hj : j < xs.length * 2
      · rw [if_pos hj, Array.getElem?_toList, Array.getElem?_toList, putCells, Array.getElem?_mapIdx]
        have hlt : xs.length * 2 ≤ cap * 2 := Nat.mul_le_mul_right 2 hc
        rw [Array.getElem?_eq_getElem (show j < cur.size by omega), Option.map_some, if_pos ⟨Nat.zero_le _, by omega⟩, Nat.sub_zero, Array.getElem?_eq_getElem (show j < (flatK enc 2 d').size by omega), getElem!_pos (flatK enc 2 d') j (by omega)]
        rfl
      · rw [if_neg hj, List.getElem?_eq_none (by rw [Array.length_toList, hfs]; omega)]
    · rw [F.sz, Array.length_toList, size_flatK, Array.length_toList]
    · intro j p hp
      have hj : j < d'.size := by
        rcases Nat.lt_or_ge j d'.size with h | h
        · exact h
        · rw [List.getElem?_eq_none (by simpa using h)] at hp; exact absurd hp (by simp)
      have hpe : d'[j]! = p := by
        rw [getElem!_pos d' j hj]
        rw [Array.getElem?_toList, Array.getElem?_eq_getElem hj] at hp
        exact Option.some.inj hp
      have : ((flatK enc 2 d').toList.drop (j * d.sz)).take d.sz = enc p := by
        rw [F.sz]
        apply List.ext_getElem?
        intro i
        rw [List.getElem?_take, List.getElem?_drop]
        by_cases hi : i < 2
        · have hq : j * 2 + i < d'.size * 2 := by omega
          rw [if_pos hi, Array.getElem?_toList, Array.getElem?_eq_getElem (by rw [size_flatK]; exact hq), ← getElem!_pos (flatK enc 2 d') (j * 2 + i) (by rw [size_flatK]; exact hq), get_flatK _ _ _ _ hq,
            show (j * 2 + i) / 2 = j by omega, show (j * 2 + i) % 2 = i by omega, hpe]
          have hi' : i < (enc p).length := by rw [F.len]; exact hi
          simp [List.getElem?_eq_getElem hi', List.getElem!_eq_getElem?_getD]
        · rw [if_neg hi, List.getElem?_eq_none (by rw [F.len]; omega)]
      rw [this]
      exact F.made _ _ _ _
theorem below_put {enc : α → List Value} {w0 w : World} {g : Nat} (hb : Below w0.heap.size w0 w) (hg : w0.heap.size ≤ g) (n : Nat) (os : Array Obj) (d' : Array α) :
    Below w0.heap.size w0 (grow (putRowK enc 2 (Sort.ahead w n) g 0 d') os) := by
  refine hb.trans ⟨rfl, rfl, rfl, ?_, fun k hk => heap_put_other (by have := hb.size; omega) (by omega) n os d'⟩
  show w.heap.size ≤ ((w.heap.modify g _) ++ os).size
  simp
theorem below_grow {w : World} (os : Array Obj) : Below w.heap.size w (grow w os) := ⟨rfl, rfl, rfl, by rw [size_grow]; omega, fun k hk => heap_grow_old _ _ hk⟩
theorem grow_blk {w : World} {g : Nat} {o : Obj} (h : w.heap[g]? = some o) (os : Array Obj) : (grow w os).heap[g]? = some o := by
  have hlt : g < w.heap.size := by
    rcases Nat.lt_or_ge g w.heap.size with h1 | h1
    · exact h1
    · rw [Array.getElem?_eq_none h1] at h; exact absurd h (by simp)
  rw [heap_grow_old _ _ hlt, h]
end
end Go.Proofs.Ytgindocfjoalhab.SortK
