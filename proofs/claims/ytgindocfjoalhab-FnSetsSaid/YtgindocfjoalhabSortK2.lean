/- sort.SliceStable at elements of k cells: a permutation at every length; below one block the insertion sort. -/
import Derived.Test.YtgindocfjoalhabShelf
import Derived.Shelf.SlSortFuncK.HeapSortK
import Derived.Shelf.GgSortFunc.SmallK
import Derived.Test.YtgindocfjoalhabWMore
import Derived.Test.YtgindocfjoalhabSortK1
set_option linter.unusedVariables false
set_option linter.unusedSimpArgs false
namespace Go.Proofs.Ytgindocfjoalhab.SortK
open Go.Shelf Go.RowKit Go.Lib Go.Sort Go.Proofs.YtgindocfjoalhabW.PrintWords
set_option maxHeartbeats 4000000 in
set_option maxRecDepth 1000000 in
theorem swapRange_k {α : Type} [Inhabited α] (enc : α → List Value) (k : Nat) (hk : ∀ x, (enc x).length = k) (lf : Fn) (la lb : Array Value) (sf : Nat) (sb : Array Value) (blk off a b n : Nat) (d : Array α) (w : World)
    (hswap : SwapSwapsK Try.prog sf sb enc k blk off d.size) (hH : HoldsK enc k w blk off d) (hblk : blk < w.heap.size) (ha : a + n ≤ d.size) (hb : b + n ≤ d.size) (hsz : d.size < 1152921504606846976) :
    Calls Try.prog 175 #[.agg #[.func lf la lb, .func (.func sf) #[] sb], .int .i64 a, .int .i64 b, .int .i64 n] w fun e w' => e = .returned (.tuple #[]) ∧ ∃ (d' : Array α) (m : Nat) (os : Array Obj), d'.toList.Perm d.toList ∧ w' = sortWorldK enc k w blk off m d' os := by
  have hne : w.heap.size ≠ blk := by omega
  go_enter Try.func175, Try.ntmps175
  go_wp2
  go_loopg [8] n (fun kx s8 wr => ∃ (i : Nat) (dk : Array α), s8 = .int .i64 i ∧ i ≤ n ∧ n - i ≤ kx ∧ dk.toList.Perm d.toList ∧ Aside0 (SWK enc k w blk off dk wr) ∧ wr.cell? ⟨w.heap.size, 0, none⟩ = some (.func lf la lb) ∧ wr.cell? ⟨w.heap.size, 1, none⟩ = some (.func (.func sf) #[] sb))
  case atStart => exact ⟨0, d, rfl, Nat.zero_le _, Nat.le_refl _, List.Perm.refl _, ⟨(SWK.start hH).alloc _⟩, by simp, by simp⟩
  case round =>
    obtain ⟨i, dk, rfl, hin, hkx, hp, S, c0, c1⟩ := hrel
    have hds := perm_size hp
    by_cases hlt : i < n
    · have hs := hswap wr dk (S.out.holds hblk hH hds) hds (a + i) (b + i) (by omega) (by omega)
      rw [show ((a + i : Nat) : Int) = (a : Int) + (i : Int) by omega, show ((b + i : Nat) : Int) = (b : Int) + (i : Int) by omega] at hs
      have S2 := S.out.swap hk hblk (a + i) (b + i) (by omega) (by omega)
      have hp2 := (swp_perm dk (a + i) (b + i) (by omega) (by omega)).trans hp
      have c0' : ((wr.setCells blk (off + (a + i) * k) (enc dk[b + i]!)).setCells blk (off + (b + i) * k) (enc dk[a + i]!)).cell? ⟨w.heap.size, 0, none⟩ = some (.func lf la lb) := by
        rw [World.cell?_setCells_out blk _ _ _ _ (fun e _ => absurd e hne), World.cell?_setCells_out blk _ _ _ _ (fun e _ => absurd e hne)]; exact c0
      have c1' : ((wr.setCells blk (off + (a + i) * k) (enc dk[b + i]!)).setCells blk (off + (b + i) * k) (enc dk[a + i]!)).cell? ⟨w.heap.size, 1, none⟩ = some (.func (.func sf) #[] sb) := by
        rw [World.cell?_setCells_out blk _ _ _ _ (fun e _ => absurd e hne), World.cell?_setCells_out blk _ _ _ _ (fun e _ => absurd e hne)]; exact c1
      generalize (wr.setCells blk (off + (a + i) * k) (enc dk[b + i]!)).setCells blk (off + (b + i) * k) (enc dk[a + i]!) = w2 at hs S2 c0' c1'
      have HP2 := Aside0.mk hp2
      have HS2 := Aside0.mk S2
      clear S2 S hswap hH hp hp2
      go_wp2
      go_roundg (n - (i + 1))
      case measure => omega
      case rel => exact ⟨i + 1, swp dk (a + i) (b + i), by go_num, by omega, Nat.le_refl _, HP2.out, HS2, c0', c1'⟩
    · go_wp2
      go_end0
      exact ⟨rfl, dk, by obtain ⟨m, os, h⟩ := S.out; exact ⟨m, os, hp, h⟩⟩
set_option maxHeartbeats 4000000 in
set_option maxRecDepth 1000000 in
theorem rotate_k {α : Type} [Inhabited α] (enc : α → List Value) (k : Nat) (hk : ∀ x, (enc x).length = k) (lf : Fn) (la lb : Array Value) (sf : Nat) (sb : Array Value) (blk off a m b : Nat) (d : Array α) (w : World)
    (hswap : SwapSwapsK Try.prog sf sb enc k blk off d.size) (hH : HoldsK enc k w blk off d) (hblk : blk < w.heap.size) (ham : a < m) (hmb : m < b) (hb : b ≤ d.size) (hsz : d.size < 1152921504606846976) :
    Calls Try.prog 170 #[.agg #[.func lf la lb, .func (.func sf) #[] sb], .int .i64 a, .int .i64 m, .int .i64 b] w fun e w' => e = .returned (.tuple #[]) ∧ ∃ (d' : Array α) (q : Nat) (os : Array Obj), d'.toList.Perm d.toList ∧ w' = sortWorldK enc k w blk off q d' os := by
  have hne : w.heap.size ≠ blk := by omega
  have ei : (m : Int) - (a : Int) = ((m - a : Nat) : Int) := by omega
  have ej : (b : Int) - (m : Int) = ((b - m : Nat) : Int) := by omega
  go_enter Try.func170, Try.ntmps170
  go_wp2
  go_loopg [8, 9] (m - a + (b - m)) (fun kx s8 s9 wr => ∃ (i j : Nat) (dk : Array α), s8 = .int .i64 i ∧ s9 = .int .i64 j ∧ 0 < i ∧ i ≤ m - a ∧ 0 < j ∧ j ≤ b - m ∧ i + j ≤ kx ∧ dk.toList.Perm d.toList ∧ Aside0 (SWK enc k w blk off dk wr) ∧ wr.cell? ⟨w.heap.size, 0, none⟩ = some (.func lf la lb) ∧ wr.cell? ⟨w.heap.size, 1, none⟩ = some (.func (.func sf) #[] sb) ∧ w.heap.size < wr.heap.size)
  case atStart => exact ⟨m - a, b - m, d, by rw [← ei], by rw [← ej], by omega, Nat.le_refl _, by omega, Nat.le_refl _, Nat.le_refl _, List.Perm.refl _, ⟨(SWK.start hH).alloc _⟩, by simp, by simp, by simp⟩
  case round =>
    obtain ⟨i, j, dk, rfl, rfl, hi0, hi, hj0, hj, hkx, hp, S, c0, c1, hsz1⟩ := hrel
    have hds := perm_size hp
    by_cases hij : i = j
    · subst hij
      have hcall := swapRange_k enc k hk lf la lb sf sb blk off (m - i) m i dk wr (by rw [hds]; exact hswap) (S.out.holds hblk hH hds) (S.out.lt hblk) (by omega) (by omega) (by omega)
      rw [show ((m - i : Nat) : Int) = (m : Int) - (i : Int) by omega] at hcall
      have HS := S
      have HP := Aside0.mk hp
      clear S hswap hH hp
      go_wp2_with (go_at_call 175; refine hcall.mono ?_; rintro e w1 ⟨rfl, d', q, os, hp', rfl⟩; have HP' := Aside0.mk hp'; clear hp')
      go_end0
      obtain ⟨q2, os2, h2⟩ := HS.out.on hblk q d' os (perm_size HP'.out)
      exact ⟨rfl, d', q2, os2, HP'.out.trans HP.out, h2⟩
    · have nij : ((i : Int) != (j : Int)) = true := by rw [bne_iff_ne]; omega
      by_cases hgt : j < i
      · have hcall := swapRange_k enc k hk lf la lb sf sb blk off (m - i) m j dk wr (by rw [hds]; exact hswap) (S.out.holds hblk hH hds) (S.out.lt hblk) (by omega) (by omega) (by omega)
        rw [show ((m - i : Nat) : Int) = (m : Int) - (i : Int) by omega] at hcall
        have HS := S
        have HP := Aside0.mk hp
        clear S hswap hH hp
        go_wp2_with (go_at_call 175; refine hcall.mono ?_; rintro e w1 ⟨rfl, d', q, os, hp', rfl⟩; have HP' := Aside0.mk hp'; clear hp')
        go_roundg (i - j + j)
        case measure => omega
        case rel => exact ⟨i - j, j, d', by rw [show ((i - j : Nat) : Int) = (i : Int) - (j : Int) by omega], rfl, by omega, by omega, hj0, hj, Nat.le_refl _, HP'.out.trans HP.out, ⟨HS.out.on hblk q d' os (perm_size HP'.out)⟩, by rw [cell?_sortWorldK_other enc k wr blk off q _ os _ hne hsz1]; exact c0, by rw [cell?_sortWorldK_other enc k wr blk off q _ os _ hne hsz1]; exact c1, Nat.lt_of_lt_of_le hsz1 (SWK.le (⟨q, os, rfl⟩ : SWK enc k wr blk off _ _))⟩
      · have hcall := swapRange_k enc k hk lf la lb sf sb blk off (m - i) (m + j - i) i dk wr (by rw [hds]; exact hswap) (S.out.holds hblk hH hds) (S.out.lt hblk) (by omega) (by omega) (by omega)
        rw [show ((m - i : Nat) : Int) = (m : Int) - (i : Int) by omega, show ((m + j - i : Nat) : Int) = (m : Int) + (j : Int) - (i : Int) by omega] at hcall
        have HS := S
        have HP := Aside0.mk hp
        clear S hswap hH hp
        go_wp2_with (go_at_call 175; refine hcall.mono ?_; rintro e w1 ⟨rfl, d', q, os, hp', rfl⟩; have HP' := Aside0.mk hp'; clear hp')
        go_roundg (i + (j - i))
        case measure => omega
        case rel => exact ⟨i, j - i, d', rfl, by rw [show ((j - i : Nat) : Int) = (j : Int) - (i : Int) by omega], hi0, hi, by omega, by omega, Nat.le_refl _, HP'.out.trans HP.out, ⟨HS.out.on hblk q d' os (perm_size HP'.out)⟩, by rw [cell?_sortWorldK_other enc k wr blk off q _ os _ hne hsz1]; exact c0, by rw [cell?_sortWorldK_other enc k wr blk off q _ os _ hne hsz1]; exact c1, Nat.lt_of_lt_of_le hsz1 (SWK.le (⟨q, os, rfl⟩ : SWK enc k wr blk off _ _))⟩
/-- The sort's world, and what its own boxed pair holds. -/
def SWB {α : Type} [Inhabited α] (enc : α → List Value) (k : Nat) (w : World) (blk off : Nat) (dk : Array α) (x y : Value) (wr : World) : Prop :=
  SWK enc k w blk off dk wr ∧ wr.cell? ⟨w.heap.size, 0, none⟩ = some x ∧ wr.cell? ⟨w.heap.size, 1, none⟩ = some y ∧ w.heap.size < wr.heap.size
theorem SWB.call {α : Type} [Inhabited α] {enc : α → List Value} {k : Nat} {w : World} {blk off : Nat} {dk d1 : Array α} {x y : Value} {wr : World} (h : SWB enc k w blk off dk x y wr) (hblk : blk < w.heap.size) (hne : w.heap.size ≠ blk) (q : Nat) (os : Array Obj) (hs : d1.size = dk.size) :
    SWB enc k w blk off d1 x y (sortWorldK enc k wr blk off q d1 os) :=
  ⟨h.1.on hblk q d1 os hs, (cell?_sortWorldK_other enc k _ blk off q d1 os ⟨w.heap.size, 0, none⟩ hne h.2.2.2).trans h.2.1, (cell?_sortWorldK_other enc k _ blk off q d1 os ⟨w.heap.size, 1, none⟩ hne h.2.2.2).trans h.2.2.1,
    Nat.lt_of_lt_of_le h.2.2.2 (SWK.le (⟨q, os, rfl⟩ : SWK enc k _ blk off d1 _))⟩
set_option maxHeartbeats 16000000 in
set_option maxRecDepth 1000000 in
theorem symMerge_k {α : Type} [Inhabited α] (enc : α → List Value) (k : Nat) (hk : ∀ x, (enc x).length = k) (lt : α → α → Bool) (g : Nat) (lb : Array Value) (sf : Nat) (sb : Array Value) (blk off : Nat) (eg : ∀ args w, (callFunc g args).run Try.prog w = .ok (.enter g args) w) :
    ∀ (s a m b : Nat) (d : Array α) (w : World), b - a ≤ s → LessReadsK Try.prog g lb enc k lt blk off d.size w → SwapSwapsK Try.prog sf sb enc k blk off d.size → HoldsK enc k w blk off d → blk < w.heap.size → a < m → m < b → b ≤ d.size → d.size < 1152921504606846976 →
    Calls Try.prog 165 #[.agg #[.func (.func g) #[] lb, .func (.func sf) #[] sb], .int .i64 a, .int .i64 m, .int .i64 b] w fun e w' => e = .returned (.tuple #[]) ∧ ∃ (d' : Array α) (q : Nat) (os : Array Obj), d'.toList.Perm d.toList ∧ w' = sortWorldK enc k w blk off q d' os := by
  intro s
  induction s with
  | zero => intro a m b d w hs _ _ _ _ ham hmb; omega
  | succ s ih =>
  intro a m b d w hs hless hswap hH hblk ham hmb hb hsz
  have hne : w.heap.size ≠ blk := by omega
  have IH := Aside0.mk ih
  clear ih
  by_cases h1 : m - a = 1
  · have h1b : (((m : Int) - (a : Int)) == 1) = true := by rw [beq_iff_eq]; omega
    go_enter Try.func165, Try.ntmps165
    go_wp2
    go_loopg [8, 9] (b - m) (fun kx s8 s9 wr => ∃ (i j : Nat), s8 = .int .i64 i ∧ s9 = .int .i64 j ∧ m ≤ i ∧ i ≤ j ∧ j ≤ b ∧ j - i ≤ kx ∧ Aside0 (SWK enc k w blk off d wr) ∧ wr.cell? ⟨w.heap.size, 0, none⟩ = some (.func (.func g) #[] lb) ∧ wr.cell? ⟨w.heap.size, 1, none⟩ = some (.func (.func sf) #[] sb) ∧ w.heap.size < wr.heap.size)
    case atStart => exact ⟨m, b, rfl, rfl, Nat.le_refl _, by omega, Nat.le_refl _, Nat.le_refl _, ⟨(SWK.start hH).alloc _⟩, by simp, by simp, by simp⟩
    case round =>
      obtain ⟨i, j, rfl, rfl, hi, hij, hj, hkx, S, c0, c1, hsz1⟩ := hrel
      by_cases hlt : i < j
      · have hl := S.out.less hless rfl ((i + j) / 2) a (by omega) (by omega)
        rw [show (((i + j) / 2 : Nat) : Int) = ((i : Int) + (j : Int)) / 2 by omega] at hl
        have HS := S
        clear S
        have HL := Aside0.mk hless
        have HW := Aside0.mk hswap
        have HH := Aside0.mk hH
        clear hless hswap hH
        cases hlv : lt d[(i + j) / 2]! d[a]! with
        | true =>
          rw [hlv] at hl
          go_wp2_with (go_at_fn g; refine hl.mono ?_; rintro e w' ⟨rfl, q, rfl⟩)
          go_roundg (j - ((i + j) / 2 + 1))
          case measure => omega
          case rel => exact ⟨(i + j) / 2 + 1, j, by go_num, rfl, by omega, by omega, hj, Nat.le_refl _, ⟨HS.out.drewN q⟩, c0, c1, hsz1⟩
        | false =>
          rw [hlv] at hl
          go_wp2_with (go_at_fn g; refine hl.mono ?_; rintro e w' ⟨rfl, q, rfl⟩)
          go_roundg ((i + j) / 2 - i)
          case measure => omega
          case rel => exact ⟨i, (i + j) / 2, rfl, by go_num, hi, by omega, by omega, Nat.le_refl _, ⟨HS.out.drewN q⟩, c0, c1, hsz1⟩
      · go_wp2
        go_loopg [11] (i - 1 - a) (fun kx s11 wr => ∃ (q : Nat) (dk : Array α), s11 = .int .i64 q ∧ a ≤ q ∧ q ≤ i - 1 ∧ i - 1 - q ≤ kx ∧ dk.toList.Perm d.toList ∧ Aside0 (SWK enc k w blk off dk wr) ∧ wr.cell? ⟨w.heap.size, 0, none⟩ = some (.func (.func g) #[] lb) ∧ wr.cell? ⟨w.heap.size, 1, none⟩ = some (.func (.func sf) #[] sb) ∧ w.heap.size < wr.heap.size)
        case atStart => exact ⟨a, d, rfl, Nat.le_refl _, by omega, Nat.le_refl _, List.Perm.refl _, S, c0, c1, hsz1⟩
        case round =>
          clear S c0 c1 hsz1
          obtain ⟨q, dk, rfl, hq0, hq1, hqk, hp, S, c0, c1, hsz1⟩ := hrel
          have hds := perm_size hp
          by_cases hq : q < i - 1
          · have hqi : ((q : Int) < (i : Int) - 1) = True := eq_true (by omega)
            have hs := hswap wr dk (S.out.holds hblk hH hds) hds q (q + 1) (by omega) (by omega)
            rw [show ((q + 1 : Nat) : Int) = (q : Int) + 1 by omega] at hs
            have S2 := S.out.swap hk hblk (q) (q + 1) (by omega) (by omega)
            have hp2 := (swp_perm dk (q) (q + 1) (by omega) (by omega)).trans hp
            have c0' : ((wr.setCells blk (off + (q) * k) (enc dk[q + 1]!)).setCells blk (off + (q + 1) * k) (enc dk[q]!)).cell? ⟨w.heap.size, 0, none⟩ = some (.func (.func g) #[] lb) := by
              rw [World.cell?_setCells_out blk _ _ _ _ (fun e _ => absurd e hne), World.cell?_setCells_out blk _ _ _ _ (fun e _ => absurd e hne)]; exact c0
            have c1' : ((wr.setCells blk (off + (q) * k) (enc dk[q + 1]!)).setCells blk (off + (q + 1) * k) (enc dk[q]!)).cell? ⟨w.heap.size, 1, none⟩ = some (.func (.func sf) #[] sb) := by
              rw [World.cell?_setCells_out blk _ _ _ _ (fun e _ => absurd e hne), World.cell?_setCells_out blk _ _ _ _ (fun e _ => absurd e hne)]; exact c1
            have hsz2 : w.heap.size < ((wr.setCells blk (off + (q) * k) (enc dk[q + 1]!)).setCells blk (off + (q + 1) * k) (enc dk[q]!)).heap.size := by simpa using hsz1
            generalize (wr.setCells blk (off + (q) * k) (enc dk[q + 1]!)).setCells blk (off + (q + 1) * k) (enc dk[q]!) = w2 at hs S2 c0' c1' hsz2
            have HP2 := Aside0.mk hp2
            have HS2 := Aside0.mk S2
            clear S2 S hless hswap hH hp hp2
            go_wp2
            go_roundg (i - 1 - (q + 1))
            case measure => omega
            case rel => exact ⟨q + 1, swp dk q (q + 1), by go_num, by omega, by omega, Nat.le_refl _, HP2.out, HS2, c0', c1', hsz2⟩
          · have hqi : ((q : Int) < (i : Int) - 1) = False := eq_false (by omega)
            go_wp2
            (try simp only [Exit.inBlock, Exit.then])
            refine bodyPost_ret (results_none rfl _ _ _) rfl ?_
            obtain ⟨n1, os1, h1_⟩ := S.out
            exact ⟨rfl, dk, n1, os1, hp, h1_⟩
  · by_cases h2 : b - m = 1
    · have h1b : (((m : Int) - (a : Int)) == 1) = false := by rw [beq_eq_false_iff_ne]; omega
      have h2b : (((b : Int) - (m : Int)) == 1) = true := by rw [beq_iff_eq]; omega
      go_enter Try.func165, Try.ntmps165
      go_wp2
      go_loopg [12, 13] (m - a) (fun kx s8 s9 wr => ∃ (i j : Nat), s8 = .int .i64 i ∧ s9 = .int .i64 j ∧ a ≤ i ∧ i ≤ j ∧ j ≤ m ∧ j - i ≤ kx ∧ Aside0 (SWK enc k w blk off d wr) ∧ wr.cell? ⟨w.heap.size, 0, none⟩ = some (.func (.func g) #[] lb) ∧ wr.cell? ⟨w.heap.size, 1, none⟩ = some (.func (.func sf) #[] sb) ∧ w.heap.size < wr.heap.size)
      case atStart => exact ⟨a, m, rfl, rfl, Nat.le_refl _, by omega, Nat.le_refl _, Nat.le_refl _, ⟨(SWK.start hH).alloc _⟩, by simp, by simp, by simp⟩
      case round =>
        obtain ⟨i, j, rfl, rfl, hi, hij, hj, hkx, S, c0, c1, hsz1⟩ := hrel
        by_cases hlt : i < j
        · have hl := S.out.less hless rfl m ((i + j) / 2) (by omega) (by omega)
          rw [show (((i + j) / 2 : Nat) : Int) = ((i : Int) + (j : Int)) / 2 by omega] at hl
          have HS := S
          clear S
          have HL := Aside0.mk hless
          have HW := Aside0.mk hswap
          have HH := Aside0.mk hH
          clear hless hswap hH
          cases hlv : lt d[m]! d[(i + j) / 2]! with
          | false =>
            rw [hlv] at hl
            go_wp2_with (go_at_fn g; refine hl.mono ?_; rintro e w' ⟨rfl, q, rfl⟩)
            go_roundg (j - ((i + j) / 2 + 1))
            case measure => omega
            case rel => exact ⟨(i + j) / 2 + 1, j, by go_num, rfl, by omega, by omega, hj, Nat.le_refl _, ⟨HS.out.drewN q⟩, c0, c1, hsz1⟩
          | true =>
            rw [hlv] at hl
            go_wp2_with (go_at_fn g; refine hl.mono ?_; rintro e w' ⟨rfl, q, rfl⟩)
            go_roundg ((i + j) / 2 - i)
            case measure => omega
            case rel => exact ⟨i, (i + j) / 2, rfl, by go_num, hi, by omega, by omega, Nat.le_refl _, ⟨HS.out.drewN q⟩, c0, c1, hsz1⟩
        · go_wp2
          go_loopg [15] (m - i) (fun kx s11 wr => ∃ (q : Nat) (dk : Array α), s11 = .int .i64 q ∧ i ≤ q ∧ q ≤ m ∧ q - i ≤ kx ∧ dk.toList.Perm d.toList ∧ Aside0 (SWK enc k w blk off dk wr) ∧ wr.cell? ⟨w.heap.size, 0, none⟩ = some (.func (.func g) #[] lb) ∧ wr.cell? ⟨w.heap.size, 1, none⟩ = some (.func (.func sf) #[] sb) ∧ w.heap.size < wr.heap.size)
          case atStart => exact ⟨m, d, rfl, by omega, Nat.le_refl _, Nat.le_refl _, List.Perm.refl _, S, c0, c1, hsz1⟩
          case round =>
            clear S c0 c1 hsz1
            obtain ⟨q, dk, rfl, hq0, hq1, hqk, hp, S, c0, c1, hsz1⟩ := hrel
            have hds := perm_size hp
            by_cases hq : i < q
            · have hs := hswap wr dk (S.out.holds hblk hH hds) hds q (q - 1) (by omega) (by omega)
              rw [show ((q - 1 : Nat) : Int) = (q : Int) - 1 by omega] at hs
              have S2 := S.out.swap hk hblk (q) (q - 1) (by omega) (by omega)
              have hp2 := (swp_perm dk (q) (q - 1) (by omega) (by omega)).trans hp
              have c0' : ((wr.setCells blk (off + (q) * k) (enc dk[q - 1]!)).setCells blk (off + (q - 1) * k) (enc dk[q]!)).cell? ⟨w.heap.size, 0, none⟩ = some (.func (.func g) #[] lb) := by
                rw [World.cell?_setCells_out blk _ _ _ _ (fun e _ => absurd e hne), World.cell?_setCells_out blk _ _ _ _ (fun e _ => absurd e hne)]; exact c0
              have c1' : ((wr.setCells blk (off + (q) * k) (enc dk[q - 1]!)).setCells blk (off + (q - 1) * k) (enc dk[q]!)).cell? ⟨w.heap.size, 1, none⟩ = some (.func (.func sf) #[] sb) := by
                rw [World.cell?_setCells_out blk _ _ _ _ (fun e _ => absurd e hne), World.cell?_setCells_out blk _ _ _ _ (fun e _ => absurd e hne)]; exact c1
              have hsz2 : w.heap.size < ((wr.setCells blk (off + (q) * k) (enc dk[q - 1]!)).setCells blk (off + (q - 1) * k) (enc dk[q]!)).heap.size := by simpa using hsz1
              generalize (wr.setCells blk (off + (q) * k) (enc dk[q - 1]!)).setCells blk (off + (q - 1) * k) (enc dk[q]!) = w2 at hs S2 c0' c1' hsz2
              have HP2 := Aside0.mk hp2
              have HS2 := Aside0.mk S2
              clear S2 S hless hswap hH hp hp2
              go_wp2
              go_roundg (q - 1 - i)
              case measure => omega
              case rel => exact ⟨q - 1, swp dk q (q - 1), by rw [show ((q - 1 : Nat) : Int) = (q : Int) - 1 by omega], by omega, by omega, Nat.le_refl _, HP2.out, HS2, c0', c1', hsz2⟩
            · go_wp2
              (try simp only [Exit.inBlock, Exit.then])
              refine bodyPost_ret (results_none rfl _ _ _) rfl ?_
              obtain ⟨n1, os1, h1_⟩ := S.out
              exact ⟨rfl, dk, n1, os1, hp, h1_⟩
    · have h1b : (((m : Int) - (a : Int)) == 1) = false := by rw [beq_eq_false_iff_ne]; omega
      have h2b : (((b : Int) - (m : Int)) == 1) = false := by rw [beq_eq_false_iff_ne]; omega
      obtain ⟨mid, hmid⟩ : ∃ x, x = (a + b) / 2 := ⟨_, rfl⟩
      have emid : ((a : Int) + (b : Int)) / 2 = (mid : Int) := by omega
      have hmid2 : 2 * mid ≤ a + b ∧ a + b ≤ 2 * mid + 1 := by omega
      clear hmid
      go_enter Try.func165, Try.ntmps165
      go_upto_if 106 with (fail)
      go_cut [18, 19] (fun s8 s9 wx => ∃ (i j : Nat), s8 = .int .i64 i ∧ s9 = .int .i64 j ∧ a ≤ i ∧ i ≤ j ∧ j ≤ m ∧ j ≤ mid ∧ mid + m ≤ b + i ∧ Aside0 (SWB enc k w blk off d (.func (.func g) #[] lb) (.func (.func sf) #[] sb) wx))
      case first =>
        have S0 : Aside0 (SWB enc k w blk off d (.func (.func g) #[] lb) (.func (.func sf) #[] sb) (w.alloc (.cells #[.func (.func g) #[] lb, .func (.func sf) #[] sb] 157))) := ⟨(SWK.start hH).alloc _, by simp, by simp, by simp⟩
        by_cases hm : mid < m
        · have est : (mid : Int) + (m : Int) - (b : Int) = ((mid + m - b : Nat) : Int) := by omega
          go_wp2_with fail
          go_meet
          case rel => exact ⟨mid + m - b, mid, rfl, rfl, by omega, by omega, by omega, Nat.le_refl _, by omega, S0⟩
        · go_wp2_with fail
          go_meet
          case rel => exact ⟨a, m, rfl, rfl, Nat.le_refl _, by omega, Nat.le_refl _, by omega, by omega, S0⟩
      case rest =>
      obtain ⟨i0, j0, rfl, rfl, hi0, hij0, hj0, hjm0, hA0, S⟩ := hcut
      go_wp2
      go_loopg [18, 19] (j0 - i0) (fun kx s8 s9 wr => ∃ (i j : Nat), s8 = .int .i64 i ∧ s9 = .int .i64 j ∧ a ≤ i ∧ i ≤ j ∧ j ≤ m ∧ j ≤ mid ∧ mid + m ≤ b + i ∧ j - i ≤ kx ∧ Aside0 (SWB enc k w blk off d (.func (.func g) #[] lb) (.func (.func sf) #[] sb) wr))
      case atStart => exact ⟨i0, j0, rfl, rfl, hi0, hij0, hj0, hjm0, hA0, Nat.le_refl _, S⟩
      case round =>
        clear S
        obtain ⟨i, j, rfl, rfl, hi, hij, hj, hjm, hA, hkx, S⟩ := hrel
        by_cases hlt : i < j
        · have hl := S.out.1.less hless rfl (mid + m - 1 - (i + j) / 2) ((i + j) / 2) (by omega) (by omega)
          rw [show ((mid + m - 1 - (i + j) / 2 : Nat) : Int) = (mid : Int) + (m : Int) - 1 - ((i : Int) + (j : Int)) / 2 by omega, show (((i + j) / 2 : Nat) : Int) = ((i : Int) + (j : Int)) / 2 by omega] at hl
          have c0 := S.out.2.1
          have c1 := S.out.2.2.1
          have hsz1 := S.out.2.2.2
          have HS := Aside0.mk S.out.1
          clear S
          have HL := Aside0.mk hless
          have HW := Aside0.mk hswap
          have HH := Aside0.mk hH
          clear hless hswap hH
          cases hlv : lt d[mid + m - 1 - (i + j) / 2]! d[(i + j) / 2]! with
          | false =>
            rw [hlv] at hl
            go_wp2_with (go_at_fn g; refine hl.mono ?_; rintro e w' ⟨rfl, q, rfl⟩)
            go_roundg (j - ((i + j) / 2 + 1))
            case measure => omega
            case rel => exact ⟨(i + j) / 2 + 1, j, by go_num, rfl, by omega, by omega, hj, hjm, by omega, Nat.le_refl _, ⟨HS.out.drewN q, c0, c1, hsz1⟩⟩
          | true =>
            rw [hlv] at hl
            go_wp2_with (go_at_fn g; refine hl.mono ?_; rintro e w' ⟨rfl, q, rfl⟩)
            go_roundg ((i + j) / 2 - i)
            case measure => omega
            case rel => exact ⟨i, (i + j) / 2, rfl, by go_num, hi, by omega, by omega, by omega, hA, Nat.le_refl _, ⟨HS.out.drewN q, c0, c1, hsz1⟩⟩
        · obtain ⟨en, hen⟩ : ∃ x : Nat, x = mid + m - i := ⟨_, rfl⟩
          have een : (mid : Int) + (m : Int) - (i : Int) = (en : Int) := by omega
          have hen2 : en ≤ b := by omega
          have hen3 : mid ≤ en ∧ m ≤ en := by omega
          have HL := Aside0.mk hless
          have HW := Aside0.mk hswap
          have HH := Aside0.mk hH
          clear hless hswap hH hen
          obtain ⟨dk, HP, S1⟩ : ∃ dk : Array α, Aside0 (dk.toList.Perm d.toList) ∧ Aside0 (SWB enc k w blk off dk (.func (.func g) #[] lb) (.func (.func sf) #[] sb) _) := ⟨d, ⟨List.Perm.refl _⟩, S⟩
          clear S
          have S := S1
          clear S1
          go_upto_region 40 with (fail)
          go_cut [145] (fun sB wx => ∃ B : Bool, sB = .bool B ∧ (B = true → i < m ∧ m < en) ∧ Aside0 (SWB enc k w blk off dk (.func (.func g) #[] lb) (.func (.func sf) #[] sb) wx))
          case first =>
            have key_ : (i < m ∧ m < en) ∨ (i < m ∧ ¬ m < en) ∨ ¬ i < m := by omega
            rcases key_ with ⟨x1, x2⟩ | ⟨x1, x2⟩ | x1
            · go_wp2_with fail
              go_meet
              case rel => exact ⟨true, rfl, fun _ => ⟨x1, x2⟩, S⟩
            · go_wp2_with fail
              go_meet
              case rel => exact ⟨false, rfl, (fun h_ => by cases h_), S⟩
            · go_wp2_with fail
              go_meet
              case rel => exact ⟨false, rfl, (fun h_ => by cases h_), S⟩
          case rest =>
          clear S
          obtain ⟨B, rfl, hB, S⟩ := hcut
          go_upto_if 145 with (fail)
          go_cut [] (fun wx => ∃ d1 : Array α, Aside0 (d1.toList.Perm d.toList) ∧ Aside0 (SWB enc k w blk off d1 (.func (.func g) #[] lb) (.func (.func sf) #[] sb) wx))
          case first =>
            cases B with
            | true =>
              obtain ⟨x1, x2⟩ := hB rfl
              have hds := perm_size HP.out
              have c0 := S.out.2.1
              have c1 := S.out.2.2.1
              have hcall := rotate_k enc k hk (.func g) #[] lb sf sb blk off i m en dk _ (by rw [hds]; exact HW.out) (S.out.1.holds hblk HH.out hds) (S.out.1.lt hblk) x1 x2 (by omega) (by omega)
              go_wp2_with (go_at_call 170; refine hcall.mono ?_; rintro e w1 ⟨rfl, d1, q, os, hp', rfl⟩; have HP1 := Aside0.mk (hp'.trans HP.out); have S1 := Aside0.mk (S.out.call hblk hne q os (perm_size hp')); clear hp')
              go_meet
              case rel => exact ⟨d1, HP1, S1⟩
            | false =>
              go_wp2_with fail
              go_meet
              case rel => exact ⟨dk, HP, S⟩
          case rest =>
          clear HP S hB
          obtain ⟨dk, HP, S⟩ := hcut
          go_upto_region 42 with (fail)
          go_cut [158] (fun sB wx => ∃ B : Bool, sB = .bool B ∧ (B = true → a < i ∧ i < mid) ∧ Aside0 (SWB enc k w blk off dk (.func (.func g) #[] lb) (.func (.func sf) #[] sb) wx))
          case first =>
            have key_ : (a < i ∧ i < mid) ∨ (a < i ∧ ¬ i < mid) ∨ ¬ a < i := by omega
            rcases key_ with ⟨x1, x2⟩ | ⟨x1, x2⟩ | x1
            · go_wp2_with fail
              go_meet
              case rel => exact ⟨true, rfl, fun _ => ⟨x1, x2⟩, S⟩
            · go_wp2_with fail
              go_meet
              case rel => exact ⟨false, rfl, (fun h_ => by cases h_), S⟩
            · go_wp2_with fail
              go_meet
              case rel => exact ⟨false, rfl, (fun h_ => by cases h_), S⟩
          case rest =>
          clear S
          obtain ⟨B, rfl, hB, S⟩ := hcut
          go_upto_if 158 with (fail)
          go_cut [] (fun wx => ∃ d1 : Array α, Aside0 (d1.toList.Perm d.toList) ∧ Aside0 (SWB enc k w blk off d1 (.func (.func g) #[] lb) (.func (.func sf) #[] sb) wx))
          case first =>
            cases B with
            | true =>
              obtain ⟨x1, x2⟩ := hB rfl
              have hds := perm_size HP.out
              have c0 := S.out.2.1
              have c1 := S.out.2.2.1
              have hcall := IH.out a i mid dk _ (by omega) (by rw [hds]; exact S.out.1.lessReads HL.out hblk hds) (by rw [hds]; exact HW.out) (S.out.1.holds hblk HH.out hds) (S.out.1.lt hblk) x1 x2 (by omega) (by omega)
              go_wp2_with (go_at_call 165; refine hcall.mono ?_; rintro e w1 ⟨rfl, d1, q, os, hp', rfl⟩; have HP1 := Aside0.mk (hp'.trans HP.out); have S1 := Aside0.mk (S.out.call hblk hne q os (perm_size hp')); clear hp')
              go_meet
              case rel => exact ⟨d1, HP1, S1⟩
            | false =>
              go_wp2_with fail
              go_meet
              case rel => exact ⟨dk, HP, S⟩
          case rest =>
          clear HP S hB
          obtain ⟨dk, HP, S⟩ := hcut
          go_upto_region 44 with (fail)
          go_cut [171] (fun sB wx => ∃ B : Bool, sB = .bool B ∧ (B = true → mid < en ∧ en < b) ∧ Aside0 (SWB enc k w blk off dk (.func (.func g) #[] lb) (.func (.func sf) #[] sb) wx))
          case first =>
            have key_ : (mid < en ∧ en < b) ∨ (mid < en ∧ ¬ en < b) ∨ ¬ mid < en := by omega
            rcases key_ with ⟨x1, x2⟩ | ⟨x1, x2⟩ | x1
            · go_wp2_with fail
              go_meet
              case rel => exact ⟨true, rfl, fun _ => ⟨x1, x2⟩, S⟩
            · go_wp2_with fail
              go_meet
              case rel => exact ⟨false, rfl, (fun h_ => by cases h_), S⟩
            · go_wp2_with fail
              go_meet
              case rel => exact ⟨false, rfl, (fun h_ => by cases h_), S⟩
          case rest =>
          clear S
          obtain ⟨B, rfl, hB, S⟩ := hcut
          cases B with
          | true =>
            obtain ⟨x1, x2⟩ := hB rfl
            have hds := perm_size HP.out
            have c0 := S.out.2.1
            have c1 := S.out.2.2.1
            have hcall := IH.out mid en b dk _ (by omega) (by rw [hds]; exact S.out.1.lessReads HL.out hblk hds) (by rw [hds]; exact HW.out) (S.out.1.holds hblk HH.out hds) (S.out.1.lt hblk) x1 x2 (by omega) (by omega)
            go_wp2_with (go_at_call 165; refine hcall.mono ?_; rintro e w1 ⟨rfl, d1, q, os, hp', rfl⟩; have HP1 := Aside0.mk (hp'.trans HP.out); have S1 := Aside0.mk (S.out.call hblk hne q os (perm_size hp')); clear hp')
            go_end0
            obtain ⟨n1, os1, h1_⟩ := S1.out.1
            exact ⟨rfl, d1, n1, os1, HP1.out, h1_⟩
          | false =>
            go_wp2
            go_end0
            obtain ⟨n1, os1, h1_⟩ := S.out.1
            exact ⟨rfl, dk, n1, os1, HP.out, h1_⟩
end Go.Proofs.Ytgindocfjoalhab.SortK
