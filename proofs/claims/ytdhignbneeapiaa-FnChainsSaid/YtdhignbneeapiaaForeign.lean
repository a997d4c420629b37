/- What strings.Join computes, and that the machine's call of it does so, at every row of texts whose joined length is a Go size. -/
import Derived.Test.YtdhignbneeapiaaWMore
import Derived.Test.YtdhignbneeapiaaShelf
set_option linter.unusedVariables false
set_option linter.unusedSimpArgs false
namespace Go.Proofs.Ytdhignbneeapiaa.Foreign
open Go.RowKit Go.Proofs.YtdhignbneeapiaaW.PrintWords

def joinBytes (l : List ByteArray) (sep : ByteArray) : ByteArray := ⟨(Lib.join (l.map (·.data.toList)) sep.data.toList).toArray⟩
def joinOf (l : List ByteArray) (sep : ByteArray) : Option ByteArray :=
  if l.length ≤ 140737488355328 ∧ (Lib.join (l.map (·.data.toList)) sep.data.toList).length ≤ 140737488355328 then some (joinBytes l sep) else none
theorem join_calls (A0 : Option Addr) (c0 : Nat) (l0 : List ByteArray) (a1 : ByteArray) (r : ByteArray) (w : World) (hr0 : Kd.C Kd.string w A0 l0.length l0) (hc0 : l0.length ≤ c0) (h : joinOf l0 a1 = some r) :
    Calls Try.prog 73 #[.slice A0 l0.length c0, .string a1] w fun e w' => e = .returned (.string r) ∧ Below w.heap.size w w' := by
  unfold joinOf at h
  split at h
  · rename_i hb
    obtain rfl := Option.some.inj h
    by_cases hz : l0.length = 0
    · have e : l0 = [] := List.length_eq_zero_iff.1 hz
      subst e
      refine (Try.strings_Join_none A0 c0 a1 w).mono ?_
      rintro e w' ⟨rfl, rfl⟩
      exact ⟨rfl, Below.refl _ _⟩
    · obtain ⟨_, _, hx⟩ := hr0
      obtain ⟨ad, rfl, hcell⟩ := hx (by omega)
      have cell : ∀ (j : Nat) x, l0[j]? = some x → w.cell? (ad.add j) = some (.string x) := by
        intro j x hj
        obtain ⟨c, hc1, hc2, hc3⟩ := hcell j x hj
        have hc2 : c = [.string x] := hc2
        subst hc2
        have := hc3 0 (.string x) rfl
        simpa [Kd.string, Kd.scalar] using this
      have hp : 0 < l0.length := by omega
      have c0' := cell 0 l0[0] (List.getElem?_eq_getElem hp)
      have hblk : ad.block < w.heap.size := by
        have := World.block_lt_of_cell? w _ c0'
        simpa [Addr.add] using this
      have hspot : ad.spot = none := by
        cases hs : ad.spot with
        | none => rfl
        | some x =>
          exfalso
          have e0 : ad.add 0 = ad := by simp [Addr.add]
          rw [e0] at c0'
          unfold World.cell? at c0'
          rw [hs] at c0'
          split at c0' <;> simp at c0'
      obtain ⟨bk, o, sp⟩ := ad
      obtain rfl : sp = none := hspot
      refine (Try.strings_Join bk o c0 l0 a1 w (fun j x hj => ?_) hblk hb.1 hc0 hb.2)
      have := cell j x hj
      have ea : (⟨bk, o, none⟩ : Addr).add j = ⟨bk, o + j, none⟩ := by unfold Addr.add; split <;> simp_all
      rw [ea] at this
      exact this
  · cases h
end Go.Proofs.Ytdhignbneeapiaa.Foreign
