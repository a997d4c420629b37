/- That FnKeys answers true, out of what each of its calls gives; no conditions. -/
import Derived.Test.YtgindocfjoalhabPFnKeysx0
import Derived.Test.YtgindocfjoalhabPFnKeysx1
import Derived.Test.YtgindocfjoalhabPFnKeysx2
import Derived.Test.YtgindocfjoalhabPFnKeysx3
import Derived.Test.YtgindocfjoalhabPFnKeysx4
import Derived.Test.YtgindocfjoalhabPFnKeysx5
import Derived.Test.YtgindocfjoalhabPFnKeysx6
import Derived.Test.YtgindocfjoalhabPFnKeysx7
namespace Go.Proofs.Ytgindocfjoalhab.PFnKeys
open Go.RowKit Go.Proofs.YtgindocfjoalhabW.PrintWords Go.Proofs.YtgindocfjoalhabW.PrintLast Go.Proofs.YtgindocfjoalhabW.PrintMore
attribute [local go_sem] max2_int min2_int max_two min_two max_three min_three max_four min_four   -- for this text's walks alone
set_option linter.unusedVariables false
set_option linter.unusedSimpArgs false

/-- What is told of the world stays told where only new blocks come up. -/
structure Gs (Φ : World → Prop) (W : World) : Prop where
  at_ : Φ W
  st : ∀ {V V' : World}, Below V.heap.size V V' → Φ V → Φ V'
theorem Gs.go {Φ : World → Prop} {W W' : World} (h : Gs Φ W) (hb : Below W.heap.size W W') : Gs Φ W' := ⟨h.st hb h.at_, h.st⟩
theorem Gs.add {Φ Ψ : World → Prop} {W : World} (h : Gs Φ W) (k : Gs Ψ W) : Gs (fun w => Φ w ∧ Ψ w) W := ⟨⟨h.at_, k.at_⟩, fun hb hp => ⟨h.st hb hp.1, k.st hb hp.2⟩⟩
theorem Gs.left {Φ Ψ : World → Prop} {W : World} (h : Gs Φ W) (hd : ∀ {V V' : World}, Below V.heap.size V V' → Ψ V → Ψ V') (hk : ∀ w, Φ w → Ψ w) : Gs Ψ W := ⟨hk W h.at_, hd⟩
theorem Gs.hide {Φ : World → Prop} {W : World} {C : Prop} (G : Gs Φ W) (h : ∀ Ψ : World → Prop, Gs Ψ W → (∀ V, Ψ V → Φ V) → (∀ V, Gs Ψ V → Gs Φ V) → C) : C := h Φ G (fun _ h => h) (fun _ h => h)
theorem Gs.below (w : World) : Gs (fun W => Below w.heap.size w W) w := ⟨Below.refl _ _, fun hb h => below_step h hb⟩
theorem Gs.cell {a : Addr} {v : Value} {W : World} (h : W.cell? a = some v) : Gs (fun W => W.cell? a = some v) W := ⟨h, fun hb h => pw_cell_below hb h⟩
theorem Gs.row {α : Type} {d : Kd α} {A : Option Addr} {n : Nat} {xs : List α} {W : World} (h : d.C W A n xs) : Gs (fun W => d.C W A n xs) W := ⟨h, fun hb h => Kd.C_below h hb⟩
def box4 (g : Nat) (b0 b1 b2 b3 : Value) (w : World) : Prop := w.cell? ⟨g, 0, none⟩ = some b0 ∧ w.cell? ⟨g, 1, none⟩ = some b1 ∧ w.cell? ⟨g, 2, none⟩ = some b2 ∧ w.cell? ⟨g, 3, none⟩ = some b3
theorem Gs.ofBox4 {g : Nat} {t : TypeId} {b0 b1 b2 b3 : Value} {W : World} (h : W.heap[g]? = some (.cells #[b0, b1, b2, b3] t (0, 0))) : Gs (box4 g b0 b1 b2 b3) W :=
  ⟨⟨(blk_cell h 0).trans rfl, (blk_cell h 1).trans rfl, (blk_cell h 2).trans rfl, (blk_cell h 3).trans rfl⟩, fun hb h => ⟨pw_cell_below hb h.1, pw_cell_below hb h.2.1, pw_cell_below hb h.2.2.1, pw_cell_below hb h.2.2.2⟩⟩
theorem set4_blk {W : World} {g : Nat} {t : TypeId} {c0 c1 c2 c3 b0 b1 b2 b3 : Value} (h : W.heap[g]? = some (.cells #[c0, c1, c2, c3] t (0, 0))) :
    ((((W.setCell ⟨g, 0, none⟩ b0).setCell ⟨g, 1, none⟩ b1).setCell ⟨g, 2, none⟩ b2).setCell ⟨g, 3, none⟩ b3).heap[g]? = some (.cells #[b0, b1, b2, b3] t (0, 0)) :=
  blk_put (blk_put (blk_put (blk_put h 0 b0 rfl) 1 b1 rfl) 2 b2 rfl) 3 b3 rfl
theorem set4_far {W : World} {g k : Nat} {o : Obj} {b0 b1 b2 b3 : Value} (h : W.heap[k]? = some o) (hk : k ≠ g) :
    ((((W.setCell ⟨g, 0, none⟩ b0).setCell ⟨g, 1, none⟩ b1).setCell ⟨g, 2, none⟩ b2).setCell ⟨g, 3, none⟩ b3).heap[k]? = some o :=
  (Below.heap_setCell _ ⟨g, 3, none⟩ b3 k hk).trans ((Below.heap_setCell _ ⟨g, 2, none⟩ b2 k hk).trans ((Below.heap_setCell _ ⟨g, 1, none⟩ b1 k hk).trans ((Below.heap_setCell _ ⟨g, 0, none⟩ b0 k hk).trans h)))
theorem set4_below {V W : World} {g : Nat} {b0 b1 b2 b3 : Value} (h : Below V.heap.size V W) (hg : V.heap.size ≤ g) :
    Below V.heap.size V ((((W.setCell ⟨g, 0, none⟩ b0).setCell ⟨g, 1, none⟩ b1).setCell ⟨g, 2, none⟩ b2).setCell ⟨g, 3, none⟩ b3) :=
  below_set (below_set (below_set (below_set h hg) hg) hg) hg
/-- A variable of four cells, made and written. -/
theorem Gs.put4 {Φ : World → Prop} {V W : World} {g : Nat} {t : TypeId} {c0 c1 c2 c3 : Value} (b0 b1 b2 b3 : Value) (G : Gs Φ V) (hb : Aside0 (Below V.heap.size V W)) (hg : Aside0 (g = V.heap.size)) (hx : Aside0 (W.heap[g]? = some (.cells #[c0, c1, c2, c3] t (0, 0)))) :
    Gs (fun w => Φ w ∧ box4 g b0 b1 b2 b3 w) ((((W.setCell ⟨g, 0, none⟩ b0).setCell ⟨g, 1, none⟩ b1).setCell ⟨g, 2, none⟩ b2).setCell ⟨g, 3, none⟩ b3) :=
  (G.go (set4_below hb.out (Nat.le_of_eq hg.out.symm))).add (Gs.ofBox4 (set4_blk hx.out))
/-- Two variables of four cells, made, then written. -/
theorem Gs.put44 {Φ : World → Prop} {V W X : World} {g g' : Nat} {t t' : TypeId} {c0 c1 c2 c3 c0' c1' c2' c3' : Value} (b0 b1 b2 b3 b0' b1' b2' b3' : Value) (G : Gs Φ V) (hb : Aside0 (Below V.heap.size V W)) (hg : Aside0 (g = V.heap.size)) (hx : Aside0 (W.heap[g]? = some (.cells #[c0, c1, c2, c3] t (0, 0))))
    (hb' : Aside0 (Below W.heap.size W X)) (hg' : Aside0 (g' = W.heap.size)) (hx' : Aside0 (X.heap[g']? = some (.cells #[c0', c1', c2', c3'] t' (0, 0)))) :
    Gs (fun w => (Φ w ∧ box4 g b0 b1 b2 b3 w) ∧ box4 g' b0' b1' b2' b3' w) ((((((((X.setCell ⟨g, 0, none⟩ b0).setCell ⟨g, 1, none⟩ b1).setCell ⟨g, 2, none⟩ b2).setCell ⟨g, 3, none⟩ b3).setCell ⟨g', 0, none⟩ b0').setCell ⟨g', 1, none⟩ b1').setCell ⟨g', 2, none⟩ b2').setCell ⟨g', 3, none⟩ b3') := by
  have hlt := blk_lt hx.out
  have hne : g ≠ g' := by rw [hg'.out]; omega
  have e1 : V.heap.size ≤ g := Nat.le_of_eq hg.out.symm
  have e2 : V.heap.size ≤ g' := by rw [hg'.out]; exact hb.out.size
  exact ((G.go (set4_below (set4_below (below_step hb.out hb'.out) e1) e2)).add (Gs.ofBox4 (set4_far (set4_blk (blk_below hx.out hb'.out)) hne))).add (Gs.ofBox4 (set4_blk (set4_far hx'.out (Ne.symm hne))))
section
open Go.Proofs.YtgindocfjoalhabW.PrintLast
variable {P : Program} {ops : Array Oper} {Q : Exit → Act → World → Prop} {Φ : World → Prop} {n m fuel : Nat} {a : Act} {w : World} {T : Bool × List (List Nat × List Nat)} {B : List Nat}
theorem bz_nil (n : Nat) : Array.replicate n false = bz n 0 := by
  unfold bz
  rw [List.map_eq_replicate_iff.2 (fun x _ => Nat.zero_testBit x)]
  simp
/-- A region that draws its order, at its head. -/
theorem reg {id : Nat} (G : Gs Φ w) (hm : P.follows .mixedOrders = true) (hn : ops.size = n) (hT : rtab .any ops = T) (hB : waitsOk T.2 B = true)
    (h : ∀ W, Below w.heap.size w W → Gs Φ W → Aside0 (rtab .any ops = T) → Aside0 (waitsOk T.2 B = true) → wpAnyLast P .any ops Q Φ [] n (bz n 0) a W) : (Code.region id ops true).wp P Q a w :=
  start_ (bz n 0) hm hn (bz_nil n) (G.go (below_drew (Below.refl _ _))).at_ (fun _ => h _ (below_drew (Below.refl _ _)) (G.go (below_drew (Below.refl _ _))) ⟨hT⟩ ⟨hB⟩)
/-- A call in such a region. -/
theorem rc {oi : Oper} (i : Nat) (t : Tmp) (m' : Nat) (HT : Aside0 (rtab .any ops = T)) (hi : ops[i]? = some oi) (hN : oi.dst = some t) (hc : (readyT T.2 (bz n m).toList == [i] && (bz n m).toList.set i true == (bz n m').toList) = true)
    {f : FuncId} {fn : Func} {ars : Array Operand} {ts : Array TypeId} (hf : P.funcs[f]? = some fn) (hname : (fn.name == "runtime.NumGoroutine") = false) (hb : fn.body.isSome = true) (hop : oi.op = .call { callee := .value (.func f), args := ars, argTypes := ts }) (args : Array Value)
    (hw : Region.wanted oi (yielded ops a.tmps) = true) (hargs : ars.map a.eval = args)
    (h : Calls P f args w fun e w' => ∃ v, e = .returned v ∧ Φ w' ∧ ∀ a', a.put (some t) v = a' → wpAnyLast P .any ops Q Φ [] fuel (bz n m') a' w') : wpAnyLast P .any ops Q Φ [] (fuel + 1) (bz n m) a w := by
  refine one_ (bz n m') hi hN (one_of HT.out hc) (by simp) (fun K hK => ?_)
  refine goes_ hf hname hb args hw hN hop hargs (h.mono fun e w' hh => ?_)
  obtain ⟨v, he, hp, hr⟩ := hh
  exact ⟨v, he, hK.out _ _ hp (fun _ => hr _ rfl)⟩
end
/-! ### impl_Keys: function 48 (by hand) -/
def impl_Keys.known (k : Nat) (key : List (S86)) : List (List (S86)) → Bool → Option Bool
  | [], b => some b
  | x :: r, b => if b = true then impl_Keys.known k key r true else (impl_SameSet.f k x key).bind fun t => impl_Keys.known k key r t
def impl_Keys.go (k : Nat) (l1 : List ByteArray) : List (S43) → List (List (S86)) → Option (List (List (S86)))
  | [], out => some out
  | a :: r, out => (impl_KeyOf.f k a.f0 a.f1 a.f2 a.f3 l1).bind fun key => (impl_Keys.known k key out false).bind fun b => if b = true then impl_Keys.go k l1 r out else (if out.length < 4398046511104 then impl_Keys.go k l1 r (out ++ [key]) else none)
def impl_Keys.f (k : Nat) (l0 : List (S43)) (l1 : List ByteArray) : Option (List (List (S86))) := impl_Keys.go k l1 l0 []
theorem drop_at {α : Type} (z : α) (l : List α) (i : Nat) (h : i < l.length) : l.drop i = l.getD i z :: l.drop (i + 1) := by
  rw [List.drop_eq_getElem_cons h, List.getD_eq_getElem?_getD, List.getElem?_eq_getElem h]; rfl
set_option maxHeartbeats 8000000 in
set_option maxRecDepth 100000 in
theorem impl_Keys.calls (k : Nat) (A0 : Option Addr) (c0 : Nat) (l0 : List (S43)) (A1 : Option Addr) (c1 : Nat) (l1 : List ByteArray) (r : List (List (S86))) (w : World) (hr0 : Kd.C k43 w A0 l0.length l0) (hc0 : l0.length ≤ c0) (hr1 : Kd.C Kd.string w A1 l1.length l1) (hc1 : l1.length ≤ c1) (h : impl_Keys.f k l0 l1 = some r) :
    Calls Try.prog 48 #[.slice A0 l0.length c0, .slice A1 l1.length c1] w fun e w' => ∃ v0_ : Value, e = .returned (v0_) ∧ Kd.S (Kd.slice 86 k86) 24 w' w.heap.size (fun _ => True) v0_ r ∧ Below w.heap.size w w' := by
  have hu43 := Try.underlying43
  have hu24 := Try.underlying24
  have HR0 := Aside0.mk hr0
  have HC0 := Aside0.mk hc0
  have HR1 := Aside0.mk hr1
  have HC1 := Aside0.mk hc1
  have HX := Aside0.mk h
  clear hr0 hc0 hr1 hc1 h
  obtain ⟨n0, hn0⟩ : ∃ n, n = l0.length := ⟨_, rfl⟩
  have HN0 := Aside0.mk hn0
  have hmx : n0 ≤ 9223372036854775807 := by rw [hn0]; exact HR0.out.2.1
  rw [← hn0]
  clear hn0
  go_enter Try.func48, Try.ntmps48
  go_wp2
  go_loopg [5, 14] n0 (fun kx v5 v14 w' => ∃ (i : Nat) (out : List (List (S86))) (A5 : Option Addr) (c5 : Nat), v5 = .slice A5 out.length c5 ∧ v14 = .int .i64 (i : Int) ∧ i ≤ n0 ∧ n0 - i ≤ kx ∧ out.length ≤ 4398046511104 ∧ Aside0 (impl_Keys.go k l1 (l0.drop i) out = some r) ∧ Aside0 (Kd.S (Kd.slice 86 k86) 24 w' w.heap.size (fun _ => True) (.slice A5 out.length c5) out) ∧ Aside0 (Below w.heap.size w w'))
  case atStart => exact ⟨0, [], none, 0, rfl, rfl, Nat.zero_le _, Nat.le_refl _, by simp, HX, ⟨Kd.S_nil _ _ _ _ _⟩, ⟨Below.refl _ _⟩⟩
  case round =>
    clear HX
    obtain ⟨i, out, A5, c5, rfl, rfl, hin, hkx, hom, HG, HO, HB⟩ := hrel
    by_cases hlt : i < n0
    · have hl0 : i < l0.length := by rw [← HN0.out]; exact hlt
      have H := HG.out
      rw [drop_at z43 l0 i hl0] at H
      simp only [impl_Keys.go] at H
      obtain ⟨key, HK0, H⟩ := Option.bind_eq_some_iff.mp H
      obtain ⟨b, HB0, H⟩ := Option.bind_eq_some_iff.mp H
      have AK := Aside0.mk HK0
      have AB := Aside0.mk HB0
      have H' := Aside0.mk H
      clear HK0 HB0 H HG
      obtain ⟨ad, Aa, ca, rfl, hx0, hx1, hx2, hx3, hla, hCa⟩ := at_T43 (Kd.C_below HR0.out HB.out) (i : Int) (by omega) (by rw [← HN0.out]; omega)
      simp only [Int.toNat_natCast] at hx0 hx1 hx2 hx3
      have HCa := Aside0.mk (show Kd.C k86 wr Aa (l0.getD i z43).f0.length (l0.getD i z43).f0 from hCa)
      have HLa := Aside0.mk (show (l0.getD i z43).f0.length ≤ ca from hla)
      clear hCa hla hl0
      have hltb : decide ((i : Int) < (n0 : Int)) = true := decide_eq_true (by omega)
      go_upto_region 7 with (first | ((with_reducible refine gate_dst (N := 7) rfl ?_); refine box_event ?hg (N := 7) ?hd (cs := #[.slice none 0 0, .int .i64 0, .int .i64 0, .string (⟨#[]⟩ : ByteArray)]) (t := 43) ?hr ?_; (case hd => rfl); (case hg => rfl); (case hr => first | (go_simp; done) | (go_simp; rfl)); intro g7 hg w2 hbox hb; have HB2 := Aside0.mk (below_step HB.out hb); have HO2 := Aside0.mk (Kd.S_below HO.out hb); have HCa2 := Aside0.mk (Kd.C_below HCa.out hb); have HE := Aside0.mk hg; have HV := Aside0.mk hb; have HBK := Aside0.mk hbox; have q0 := cz4_0 HBK; have q1 := cz4_1 HBK; have q2 := cz4_2 HBK; have q3 := cz4_3 HBK; have y0 := blk_frozen hbox 0; have y1 := blk_frozen hbox 1; have y2 := blk_frozen hbox 2; have y3 := blk_frozen hbox 3; clear hg hb hbox hx0 hx1 hx2 hx3) | ((with_reducible refine gate_callee (f := 59) rfl ?_); refine goesL_ (some 20) rfl rfl Try.func59 (by kernel_rfl) rfl #[.agg #[.slice Aa (l0.getD i z43).f0.length ca, .int .i64 (l0.getD i z43).f1, .int .i64 (l0.getD i z43).f2, .string (l0.getD i z43).f3], .slice A1 l1.length c1] rfl (by (try simp only [List.map_toArray, List.map_cons, List.map_nil]); first | done | rfl) ?_; have hE := set4_below (b0 := (.slice Aa (l0.getD i z43).f0.length ca)) (b1 := (.int .i64 (l0.getD i z43).f1)) (b2 := (.int .i64 (l0.getD i z43).f2)) (b3 := (.string (l0.getD i z43).f3)) HV.out (Nat.le_of_eq HE.out.symm); refine (impl_KeyOf.calls k _ _ (l0.getD i z43).f0 (l0.getD i z43).f1 (l0.getD i z43).f2 (l0.getD i z43).f3 _ _ l1 key _ (Kd.C_below HCa.out hE) HLa.out (Kd.C_below HR1.out (below_step HB.out hE)) HC1.out AK.out).mono ?_; rintro e w3 ⟨v20, rfl, ho, hb⟩; refine ⟨_, rfl, ?_⟩; have HB3 := Aside0.mk (below_step (below_step HB.out hE) hb); have HO3 := Aside0.mk (Kd.S_elder' (Kd.S_below HO.out hE) (Kd.R_base ho) hb); have hnew := Kd.R_new' (u := .slice A5 out.length c5) ho (fun k_ hk_ => Nat.lt_of_lt_of_le (Kd.S_lt HO.out k_ hk_) hE.size); have HKY := Aside0.mk (Kd.R_lower hnew (Nat.le_trans HB.out.size hE.size)); clear ho hb hnew hE))
      obtain ⟨Ak, ck, ek⟩ := Kd.R_slice HKY.out
      subst ek
      clear HB HO HCa HLa HB2 HO2 HCa2 HE HV HBK q0 q1 q2 q3 y0 y1 y2 y3
      go_wp2
      go_loopg [9, 23] out.length (fun ky v9 v23 w' => ∃ (j : Nat) (bb : Bool), v9 = .bool bb ∧ v23 = .int .i64 (j : Int) ∧ j ≤ out.length ∧ out.length - j ≤ ky ∧ Aside0 (impl_Keys.known k key (out.drop j) bb = some b) ∧ Aside0 (Kd.S (Kd.slice 86 k86) 24 w' w.heap.size (fun k_ => True ∧ some k_ ≠ (Value.slice Ak key.length ck).ownBlock) (.slice A5 out.length c5) out) ∧ Aside0 (Kd.R k86 86 w' w.heap.size (fun k_ => True ∧ some k_ ≠ (Value.slice A5 out.length c5).ownBlock) (.slice Ak key.length ck) key) ∧ Aside0 (Below w.heap.size w w'))
      case atStart => exact ⟨0, false, rfl, rfl, Nat.zero_le _, Nat.le_refl _, AB, HO3, HKY, HB3⟩
      case round =>
        clear AB HO3 HKY HB3
        obtain ⟨j, bb, rfl, rfl, hjn, hky, HG, HO, HKY, HB⟩ := hrel
        by_cases hj : j < out.length
        · have hjb : decide ((j : Int) < (out.length : Int)) = true := decide_eq_true (by omega)
          have hjb2 : decide (j < out.length) = true := decide_eq_true hj
          have H := HG.out
          rw [drop_at [] out j hj] at H
          simp only [impl_Keys.known] at H
          obtain ⟨g, cap, ev, _, _, _⟩ := Kd.S_form HO.out (by omega)
          injection ev with eA en ec
          subst eA; subst ec
          obtain ⟨c, hcl, hM, hcc⟩ := Kd.S_get HO.out [] (j : Int) (by omega) (by omega)
          simp only [Int.toNat_natCast] at hM
          generalize out.getD j [] = x at H hM
          obtain ⟨v, rfl, hR⟩ := hM
          obtain ⟨Av, cv, rfl, hlv, hCv⟩ := Kd.R_reads hR
          have hz : wr.cell? ⟨g, j, none⟩ = some (.slice Av x.length cv) := by
            have h_ := hcc 0 _ rfl
            have e_ : ((j : Int)).toNat * (Kd.slice 86 k86).sz + 0 = j := by show ((j : Int)).toNat * 1 + 0 = _; omega
            rw [e_, add_plain] at h_
            exact h_
          have HCv := Aside0.mk (show Kd.C k86 wr Av x.length x from hCv)
          have HLv := Aside0.mk (show x.length ≤ cv from hlv)
          clear hCv hlv hR hcl hcc en
          cases bb with
          | true =>
            rw [if_pos rfl] at H
            have H2 := Aside0.mk H
            clear H HG
            go_wp2
            go_roundg (out.length - (j + 1))
            case measure => omega
            case rel => exact ⟨j + 1, true, rfl, by go_num, by omega, Nat.le_refl _, H2, HO, HKY, HB⟩
          | false =>
            rw [if_neg (by decide)] at H
            obtain ⟨t, HT, H⟩ := Option.bind_eq_some_iff.mp H
            have AT := Aside0.mk HT
            have H2 := Aside0.mk H
            clear H HG HT
            go_wp2_with (first | ((with_reducible refine gate_callee (f := 28) rfl ?_); refine gate_guard (by rfl) ?_; refine goesL_ (some 31) rfl rfl Try.func28 (by kernel_rfl) rfl #[.slice Av x.length cv, .slice Ak key.length ck] rfl (by (try simp only [List.map_toArray, List.map_cons, List.map_nil]); first | done | rfl) ?_; refine (impl_SameSet.calls k _ _ x _ _ key t _ HCv.out HLv.out (Kd.R_reads' HKY.out).2.2 (Kd.R_reads' HKY.out).2.1 AT.out).mono ?_; rintro e w5 ⟨rfl, hd⟩; refine ⟨_, rfl, ?_⟩; have HO5 := Aside0.mk (Kd.S_below HO.out hd.below); have HKY5 := Aside0.mk (Kd.R_below HKY.out hd.below); have HB5 := Aside0.mk (below_step HB.out hd.below); clear hd hz))
            go_roundg (out.length - (j + 1))
            case measure => omega
            case rel => exact ⟨j + 1, t, rfl, by go_num, by omega, Nat.le_refl _, H2, HO5, HKY5, HB5⟩
        · have hjb : decide ((j : Int) < (out.length : Int)) = false := decide_eq_false (by omega)
          have hjb2 : decide (j < out.length) = false := decide_eq_false hj
          have H := HG.out
          rw [List.drop_eq_nil_of_le (by omega)] at H
          simp only [impl_Keys.known, Option.some.injEq] at H
          subst H
          clear HG
          have hH := H'.out
          clear H'
          cases bb with
          | true =>
            rw [if_pos rfl] at hH
            have H' := Aside0.mk hH
            clear hH
            go_wp2
            go_roundg (n0 - (i + 1))
            case measure => omega
            case rel => exact ⟨i + 1, out, A5, c5, rfl, by go_num, by omega, Nat.le_refl _, hom, H', ⟨Kd.S_mono HO.out (fun _ _ => trivial)⟩, HB⟩
          | false =>
            rw [if_neg (by decide)] at hH
            by_cases hN : out.length < 4398046511104
            · rw [if_pos hN] at hH
              have H' := Aside0.mk hH
              have LM := Aside0.mk hN
              clear hH hN
              go_wp2_with (first | ((with_reducible refine gate_builtin (b := .append) (xs := #[.tmp 36, .tmp 38]) rfl ?_); at_builtin; refine Kd.S_append (Kd.slice 86 k86) (w0 := w) w.heap.size rfl (.tmp 36) (.tmp 38) 66 24 (.slice none 0 0) 24 rfl Try.underlying66 info24 rfl (by decide) (by omega) (.slice A5 out.length c5) out key [.slice Ak key.length ck] (fun _ => True) (fun k_ => some k_ = (.slice Ak key.length ck : Value).ownBlock) rfl rfl ?aP (fun k_ hk_ => HKY.out.1 k_ hk_.symm) (fun _ _ => trivial) ?aO HB.out HB.out.size ?aL ?_; (case aP => exact Kd.M_row (Kd.R_tight rfl HKY.out)); (case aO => exact Kd.S_mono HO.out (fun k_ hk_ => ⟨trivial, fun e_ => hk_.2 e_⟩)); (case aL => have := LM.out; omega); intro v39 w6 ho hb hg hat; have HO6 := Aside0.mk ho; have HB6 := Aside0.mk hb; clear ho hb hg hat))
              obtain ⟨A6, c6, e6⟩ := Kd.S_slice HO6.out
              subst e6
              go_roundg (n0 - (i + 1))
              case measure => omega
              case rel => exact ⟨i + 1, out ++ [key], A6, c6, rfl, by go_num, by omega, Nat.le_refl _, by have := LM.out; simp; omega, H', HO6, HB6⟩
            · rw [if_neg hN] at hH
              exact absurd hH (by simp)
    · have hltb : decide ((i : Int) < (n0 : Int)) = false := decide_eq_false (by omega)
      have H := HG.out
      rw [List.drop_eq_nil_of_le (by rw [← HN0.out]; omega)] at H
      simp only [impl_Keys.go, Option.some.injEq] at H
      subst H
      clear HG
      go_wp2
      go_ret
      exact ⟨_, rfl, HO.out, HB.out⟩
def laws_FnKeys.T10 : Bool × List (List Nat × List Nat) := (true, [([], []), ([], []), ([], []), ([0, 1, 2], [0, 1, 2]), ([], []), ([], []), ([], []), ([4, 5, 6, 3], [4, 5, 6]), ([3, 7], [3, 7]), ([8, 7], [8]), ([9], [9]), ([9], [9]), ([9], [9]), ([11, 12, 9, 9], [9, 11, 12]), ([10, 13, 13, 9], [9, 10, 13]), ([14, 9], [9, 14]), ([9, 15], [9, 15]), ([16, 14], [16]), ([17], [17]), ([18, 17, 17], [17, 18]), ([17], [17]), ([20, 19, 17], [17, 20]), ([19, 21, 17], [17, 19, 21]), ([17, 22], [17, 22]), ([23, 21], [23]), ([24], [24]), ([24], [24]), ([25, 26, 24, 24], [24, 25, 26]), ([24], [24]), ([24], [24]), ([28, 29, 27, 24], [24, 28, 29]), ([27, 30, 30, 24], [24, 27, 30]), ([31, 24], [24, 31]), ([24, 32], [24, 32]), ([33, 31], [33]), ([34], [34]), ([34], [34]), ([34], [34]), ([35, 36, 37, 34, 34], [34, 35, 36, 37]), ([38, 34], [34, 38]), ([34, 39], [34, 39]), ([40, 38], [40]), ([41], [41]), ([42, 41], [41, 42]), ([41], [41]), ([41], [41]), ([44, 45, 41, 41], [41, 44, 45]), ([46, 41], [41, 46]), ([43, 47, 41], [41, 43, 47]), ([41, 48], [41, 48])])
def laws_FnKeys.B10 : List Nat := [0, 0, 0, 7, 0, 0, 0, 127, 255, 511, 1023, 1023, 1023, 7167, 16383, 32767, 65535, 131071, 262143, 524287, 262143, 2097151, 4194303, 8388607, 16777215, 33554431, 33554431, 134217727, 33554431, 33554431, 1073741823, 2147483647, 4294967295, 8589934591, 17179869183, 34359738367, 34359738367, 34359738367, 274877906943, 549755813887, 1099511627775, 2199023255551, 4398046511103, 8796093022207, 4398046511103, 4398046511103, 57174604644351, 127543348822015, 281474976710655, 562949953421311]
theorem laws_FnKeys.tab10 : rtab .any (opsOf Try.f5 10) = laws_FnKeys.T10 := by kernel_rfl
theorem laws_FnKeys.bits10 : waitsOk laws_FnKeys.T10.2 laws_FnKeys.B10 = true := by kernel_rfl
def laws_FnKeys.T18 : Bool × List (List Nat × List Nat) := (true, [([], []), ([], []), ([0, 1], [0, 1]), ([2], [2]), ([], []), ([], []), ([4, 5], [4, 5]), ([6], [6]), ([3, 7], [3, 7])])
def laws_FnKeys.B18 : List Nat := [0, 0, 3, 7, 0, 0, 48, 112, 255]
theorem laws_FnKeys.tab18 : rtab .any (opsOf Try.f5 18) = laws_FnKeys.T18 := by kernel_rfl
theorem laws_FnKeys.bits18 : waitsOk laws_FnKeys.T18.2 laws_FnKeys.B18 = true := by kernel_rfl
def laws_FnKeys.T27 : Bool × List (List Nat × List Nat) := (true, [([], []), ([0], [0]), ([1], [1]), ([1], [1]), ([2, 3, 1], [1, 2, 3]), ([4, 1], [1, 4]), ([1], [1]), ([1], [1]), ([6, 7, 1], [1, 6, 7]), ([8, 1], [1, 8]), ([1], [1]), ([9, 10, 1, 1], [1, 9, 10]), ([5, 11, 11, 1], [1, 5, 11]), ([1, 12], [1, 12]), ([13, 12, 0, 1, 2, 3, 4, 5, 6, 7, 8, 9, 10, 11, 12, 13], [0, 13])])
def laws_FnKeys.B27 : List Nat := [0, 1, 3, 3, 15, 31, 3, 3, 195, 451, 3, 1987, 4095, 8191, 16383]
theorem laws_FnKeys.tab27 : rtab .any (opsOf Try.f5 27) = laws_FnKeys.T27 := by kernel_rfl
theorem laws_FnKeys.bits27 : waitsOk laws_FnKeys.T27.2 laws_FnKeys.B27 = true := by kernel_rfl
def laws_FnKeys.T30 : Bool × List (List Nat × List Nat) := (true, [([], []), ([], []), ([0, 1], [0, 1]), ([], []), ([2, 3, 2], [2, 3]), ([4, 4], [4]), ([5], [5]), ([6, 5], [5, 6]), ([5], [5]), ([8, 5], [5, 8]), ([7, 9, 5], [5, 7, 9]), ([5, 10], [5, 10]), ([11, 5], [11]), ([12], [12]), ([12], [12]), ([12], [12]), ([13, 14, 15, 12, 12], [12, 13, 14, 15]), ([12], [12]), ([12], [12]), ([12], [12]), ([17, 18, 19, 16, 12], [12, 17, 18, 19]), ([16, 20, 12], [12, 16, 20]), ([12, 21], [12, 21]), ([22, 20, 0, 1, 2, 3, 4, 5, 6, 7, 8, 9, 10, 11, 12, 13, 14, 15, 16, 17, 18, 19, 20, 21, 22], [22])])
def laws_FnKeys.B30 : List Nat := [0, 0, 3, 0, 15, 31, 63, 127, 63, 319, 1023, 2047, 4095, 8191, 8191, 8191, 65535, 8191, 8191, 8191, 1048575, 2097151, 4194303, 8388607]
theorem laws_FnKeys.tab30 : rtab .any (opsOf Try.f5 30) = laws_FnKeys.T30 := by kernel_rfl
theorem laws_FnKeys.bits30 : waitsOk laws_FnKeys.T30.2 laws_FnKeys.B30 = true := by kernel_rfl
set_option maxHeartbeats 8000000 in
set_option maxRecDepth 100000 in
theorem laws_FnKeys.way (k : Nat) (A0 : Option Addr) (c0 : Nat) (l0 : List Int) (w : World) (hr0 : Kd.C (Kd.int .u8) w A0 l0.length l0) (hc0 : l0.length ≤ c0) (la : List (S43)) (by_ : List ByteArray) (ks : List (List (S86))) (lb : List (S86)) (sb : Int) (eb : Int) (nb : ByteArray) (lc : List (S86)) (sc : Int) (ec : Int) (nc : ByteArray) (ns : List ByteArray) (sp : List (S86)) (pp : List ByteArray) (jj : List (S86)) (ob : List ByteArray) (lu : List (S86)) (su : Int) (eu : Int) (nu : ByteArray) (vv : List ByteArray) (kf : Nat → List S86) (tf : Nat → Nat) (tt : Bool) (bo : Bool) (ku : List (S86))
  (F1 : Aside0 (laws_big.f l0 = some false))
  (F2 : Aside0 (spec_DrawKeys.f k l0 = some (la, by_)))
  (F3 : Aside0 (impl_Keys.f k la by_ = some ks))
  (F4 : Aside0 (spec_DrawTogether.f k l0 = some (lb, sb, eb, nb, lc, sc, ec, nc, ns)))
  (F5 : Aside0 (spec_DrawProject.f k l0 = some (sp, pp)))
  (F6 : Aside0 (impl_Project.f k sp pp = some jj))
  (F7 : Aside0 (spec_DrawByOk.f k l0 = some ob))
  (F8 : Aside0 (spec_DrawKeyOf.f k l0 = some (lu, su, eu, nu, vv)))
  (F9 : Aside0 (impl_Together.f k lb sb eb nb lc sc ec nc ns = some tt))
  (F10 : Aside0 (spec_Together.f k lb sb eb nb lc sc ec nc ns = some tt))
  (F11 : Aside0 (spec_Project.f k sp pp = some jj))
  (F12 : Aside0 (impl_SameSet.f k jj jj = some true))
  (F13 : Aside0 (impl_ByOk.f k ob = some bo))
  (F14 : Aside0 (spec_ByOk.f k ob = some bo))
  (F15 : Aside0 (impl_KeyOf.f k lu su eu nu vv = some ku))
  (F16 : Aside0 (spec_KeyOf.f k lu su eu nu vv = some ku))
  (F17 : Aside0 (impl_SameSet.f k ku ku = some true))
  (F18 : Aside0 (impl_Together.f k lb sb eb nb lb sb eb nb ns = some true))
  (F19 : Aside0 (spec_Keys.f k la by_ = some ks))
  (F20 : Aside0 (impl_Project.f k jj pp = some jj))
  (F21 : Aside0 (impl_Together.f k lc sc ec nc lb sb eb nb ns = some tt))
  (K0 : Aside0 (∀ m i : Nat, m < i → i < ks.length → impl_SameSet.f k (rd_L4 ks (m : Int)) (rd_L4 ks (i : Int)) = some false))
  (K1 : Aside0 (∀ i : Nat, i < la.length → tf i < ks.length ∧ impl_KeyOf.f k (rd_T43 la (i : Int)).f0 (rd_T43 la (i : Int)).f1 (rd_T43 la (i : Int)).f2 (rd_T43 la (i : Int)).f3 by_ = some (kf i) ∧ (∀ q : Nat, q < tf i → impl_SameSet.f k (rd_L4 ks (q : Int)) (kf i) = some false) ∧ impl_SameSet.f k (rd_L4 ks (tf i : Int)) (kf i) = some true))
  (K2 : Aside0 ((tt != tt) = false))
  (K3 : Aside0 ((bo != bo) = false))
  (K4 : Aside0 (((ks.length : Int) != (ks.length : Int)) = false))
  (K5 : Aside0 (decide ((jj.length : Int) ≤ (sp.length : Int)) = true))
  (K6 : Aside0 ((tt == tt) = true)) :
  Calls Try.prog 5 #[.slice A0 l0.length c0] w fun e w' => e = .returned (.bool true) ∧ Below w.heap.size w w' := by
 have HC0 := aM hc0
 have G := (Gs.below w).add (Gs.row hr0)
 clear hc0 hr0
 go_enter Try.func5, Try.ntmps5
 go_upto_region 3 with (first | ((with_reducible refine gate_callee (f := 8) rfl ?_); refine goesL_ (some 21) rfl rfl Try.func8 (by kernel_rfl) rfl #[.slice A0 l0.length c0] rfl (by (try simp only [List.map_toArray, List.map_cons, List.map_nil]); first | done | rfl) ?_; refine (laws_big.calls _ _ l0 false _ G.at_.2 HC0.out F1.out).mono ?_; rintro e w1 ⟨rfl, hb⟩; refine ⟨_, rfl, ?_⟩; have G1 := (G.go hb.below); clear G hb; have G := G1; clear G1))
 go_upto_region 4 with (first | ((with_reducible refine gate_callee (f := 47) rfl ?_); refine goesL_ (some 24) rfl rfl Try.func47 (by kernel_rfl) rfl #[.slice A0 l0.length c0] rfl (by (try simp only [List.map_toArray, List.map_cons, List.map_nil]); first | done | rfl) ?_; refine (spec_DrawKeys.calls k _ _ l0 la by_ _ G.at_.2 HC0.out F2.out).mono ?_; rintro e w1 ⟨v24_0, v24_1, rfl, ho24_0, ho24_1, hb⟩; refine ⟨_, rfl, ?_⟩; obtain ⟨A24_0, c24_0, rfl, hcA24_0, hCA24_0⟩ := Kd.S_reads ho24_0; clear ho24_0; have HCA24_0 := aM hcA24_0; clear hcA24_0; obtain ⟨A24_1, c24_1, rfl, hcA24_1, hCA24_1⟩ := Kd.R_reads ho24_1; clear ho24_1; have HCA24_1 := aM hcA24_1; clear hcA24_1; have G1 := (((G.go hb).add (Gs.row hCA24_0)).add (Gs.row hCA24_1)); clear G hb hCA24_0 hCA24_1; have G := G1; clear G1))
 go_upto_region 5 with (first | ((with_reducible refine gate_callee (f := 48) rfl ?_); refine goesL_ (some 29) rfl rfl Try.func48 (by kernel_rfl) rfl #[.slice A24_0 la.length c24_0, .slice A24_1 by_.length c24_1] rfl (by (try simp only [List.map_toArray, List.map_cons, List.map_nil]); first | done | rfl) ?_; refine (impl_Keys.calls k _ _ la _ _ by_ ks _ G.at_.1.2 HCA24_0.out G.at_.2 HCA24_1.out F3.out).mono ?_; rintro e w1 ⟨v29_0, rfl, ho29_0, hb⟩; refine ⟨_, rfl, ?_⟩; obtain ⟨A29_0, c29_0, rfl, hcA29_0, hCA29_0⟩ := Kd.S_reads ho29_0; clear ho29_0; have HCA29_0 := aM hcA29_0; clear hcA29_0; have G1 := ((G.go hb).add (Gs.row hCA29_0)); clear G hb hCA29_0; have G := G1; clear G1))
 go_upto_region 6 with (first | ((with_reducible refine gate_callee (f := 49) rfl ?_); refine goesL_ (some 32) rfl rfl Try.func49 (by kernel_rfl) rfl #[.slice A0 l0.length c0] rfl (by (try simp only [List.map_toArray, List.map_cons, List.map_nil]); first | done | rfl) ?_; refine (spec_DrawTogether.calls k _ _ l0 lb sb eb nb lc sc ec nc ns _ G.at_.1.1.1.2 HC0.out F4.out).mono ?_; rintro e w1 ⟨v32_0, v32_1, v32_2, rfl, ho32_0, ho32_1, ho32_2, hb⟩; refine ⟨_, rfl, ?_⟩; obtain ⟨A32_0, c32_0, rfl, hcA32_0, hCA32_0⟩ := Kd.R_reads ho32_0; clear ho32_0; have HCA32_0 := aM hcA32_0; clear hcA32_0; obtain ⟨A32_1, c32_1, rfl, hcA32_1, hCA32_1⟩ := Kd.R_reads ho32_1; clear ho32_1; have HCA32_1 := aM hcA32_1; clear hcA32_1; obtain ⟨A32_2, c32_2, rfl, hcA32_2, hCA32_2⟩ := Kd.R_reads ho32_2; clear ho32_2; have HCA32_2 := aM hcA32_2; clear hcA32_2; have G1 := ((((G.go hb).add (Gs.row hCA32_0)).add (Gs.row hCA32_1)).add (Gs.row hCA32_2)); clear G hb hCA32_0 hCA32_1 hCA32_2; have G := G1; clear G1) | ((with_reducible refine gate_dst (N := 6) rfl ?_); refine box_event ?hg (N := 6) ?hd (cs := #[.slice none 0 0, .int .i64 0, .int .i64 0, .string (⟨#[]⟩ : ByteArray)]) (t := 43) ?hr ?_; (case hd => rfl); (case hg => rfl); (case hr => first | (go_simp; done) | (go_simp; rfl)); intro g6 hg w2 hbox hb; have HB_g6 := aM hb; have HE_g6 := aM hg; have BK_g6 := aM hbox; clear hb hg hbox) | ((with_reducible refine gate_dst (N := 7) rfl ?_); refine box_event ?hg (N := 7) ?hd (cs := #[.slice none 0 0, .int .i64 0, .int .i64 0, .string (⟨#[]⟩ : ByteArray)]) (t := 43) ?hr ?_; (case hd => rfl); (case hg => rfl); (case hr => first | (go_simp; done) | (go_simp; rfl)); intro g7 hg w2 hbox hb; have HB_g7 := aM hb; have HE_g7 := aM hg; have BK_g7 := aM hbox; clear hb hg hbox; have zg6_0 := cz4_0 ⟨blk_below (BK_g6.out) HB_g7.out⟩; have yg6_0 := blk_frozen (blk_below (BK_g6.out) HB_g7.out) 0; have zg6_1 := cz4_1 ⟨blk_below (BK_g6.out) HB_g7.out⟩; have yg6_1 := blk_frozen (blk_below (BK_g6.out) HB_g7.out) 1; have zg6_2 := cz4_2 ⟨blk_below (BK_g6.out) HB_g7.out⟩; have yg6_2 := blk_frozen (blk_below (BK_g6.out) HB_g7.out) 2; have zg6_3 := cz4_3 ⟨blk_below (BK_g6.out) HB_g7.out⟩; have yg6_3 := blk_frozen (blk_below (BK_g6.out) HB_g7.out) 3; have zg7_0 := cz4_0 ⟨BK_g7.out⟩; have yg7_0 := blk_frozen (BK_g7.out) 0; have zg7_1 := cz4_1 ⟨BK_g7.out⟩; have yg7_1 := blk_frozen (BK_g7.out) 1; have zg7_2 := cz4_2 ⟨BK_g7.out⟩; have yg7_2 := blk_frozen (BK_g7.out) 2; have zg7_3 := cz4_3 ⟨BK_g7.out⟩; have yg7_3 := blk_frozen (BK_g7.out) 3; have ng6g7 : g6 ≠ g7 := (by rw [HE_g7.out]; exact Nat.ne_of_lt (blk_lt BK_g6.out)); have ng7g6 : g7 ≠ g6 := fun h_ => ng6g7 h_.symm))
 have G1 := Gs.put44 (.slice A32_0 lb.length c32_0) (.int .i64 sb) (.int .i64 eb) (.string nb) (.slice A32_1 lc.length c32_1) (.int .i64 sc) (.int .i64 ec) (.string nc) G HB_g6 HE_g6 BK_g6 HB_g7 HE_g7 BK_g7
 clear G; have G := G1; clear G1
 generalize ((((((((w2.setCell ⟨g6, 0, none⟩ (.slice A32_0 lb.length c32_0)).setCell ⟨g6, 1, none⟩ (.int .i64 sb)).setCell ⟨g6, 2, none⟩ (.int .i64 eb)).setCell ⟨g6, 3, none⟩ (.string nb)).setCell ⟨g7, 0, none⟩ (.slice A32_1 lc.length c32_1)).setCell ⟨g7, 1, none⟩ (.int .i64 sc)).setCell ⟨g7, 2, none⟩ (.int .i64 ec)).setCell ⟨g7, 3, none⟩ (.string nc)) = w3 at G ⊢
 clear zg6_0 yg6_0 zg6_1 yg6_1 zg6_2 yg6_2 zg6_3 yg6_3 zg7_0 yg7_0 zg7_1 yg7_1 zg7_2 yg7_2 zg7_3 yg7_3 ng6g7 ng7g6
 clear HB_g7 HE_g7 BK_g7 HB_g6 HE_g6 BK_g6
 go_upto_region 7 with (first | ((with_reducible refine gate_callee (f := 50) rfl ?_); refine goesL_ (some 38) rfl rfl Try.func50 (by kernel_rfl) rfl #[.slice A0 l0.length c0] rfl (by (try simp only [List.map_toArray, List.map_cons, List.map_nil]); first | done | rfl) ?_; refine (spec_DrawProject.calls k _ _ l0 sp pp _ G.at_.1.1.1.1.1.1.1.1.2 HC0.out F5.out).mono ?_; rintro e w1 ⟨v38_0, v38_1, rfl, ho38_0, ho38_1, hb⟩; refine ⟨_, rfl, ?_⟩; obtain ⟨A38_0, c38_0, rfl, hcA38_0, hCA38_0⟩ := Kd.R_reads ho38_0; clear ho38_0; have HCA38_0 := aM hcA38_0; clear hcA38_0; obtain ⟨A38_1, c38_1, rfl, hcA38_1, hCA38_1⟩ := Kd.R_reads ho38_1; clear ho38_1; have HCA38_1 := aM hcA38_1; clear hcA38_1; have G1 := (((G.go hb).add (Gs.row hCA38_0)).add (Gs.row hCA38_1)); clear G hb hCA38_0 hCA38_1; have G := G1; clear G1))
 go_upto_region 8 with (first | ((with_reducible refine gate_callee (f := 51) rfl ?_); refine goesL_ (some 43) rfl rfl Try.func51 (by kernel_rfl) rfl #[.slice A38_0 sp.length c38_0, .slice A38_1 pp.length c38_1] rfl (by (try simp only [List.map_toArray, List.map_cons, List.map_nil]); first | done | rfl) ?_; refine (impl_Project.calls k _ _ sp _ _ pp jj _ G.at_.1.2 HCA38_0.out G.at_.2 HCA38_1.out F6.out).mono ?_; rintro e w1 ⟨v43_0, rfl, ho43_0, hb⟩; refine ⟨_, rfl, ?_⟩; obtain ⟨A43_0, c43_0, rfl, hcA43_0, hCA43_0⟩ := Kd.R_reads ho43_0; clear ho43_0; have HCA43_0 := aM hcA43_0; clear hcA43_0; have G1 := ((G.go hb).add (Gs.row hCA43_0)); clear G hb hCA43_0; have G := G1; clear G1))
 go_upto_region 9 with (first | ((with_reducible refine gate_callee (f := 52) rfl ?_); refine goesL_ (some 45) rfl rfl Try.func52 (by kernel_rfl) rfl #[.slice A0 l0.length c0] rfl (by (try simp only [List.map_toArray, List.map_cons, List.map_nil]); first | done | rfl) ?_; refine (spec_DrawByOk.calls k _ _ l0 ob _ G.at_.1.1.1.1.1.1.1.1.1.1.1.2 HC0.out F7.out).mono ?_; rintro e w1 ⟨v45_0, rfl, ho45_0, hb⟩; refine ⟨_, rfl, ?_⟩; obtain ⟨A45_0, c45_0, rfl, hcA45_0, hCA45_0⟩ := Kd.R_reads ho45_0; clear ho45_0; have HCA45_0 := aM hcA45_0; clear hcA45_0; have G1 := ((G.go hb).add (Gs.row hCA45_0)); clear G hb hCA45_0; have G := G1; clear G1))
 go_upto_region 10 with (first | ((with_reducible refine gate_callee (f := 53) rfl ?_); refine goesL_ (some 48) rfl rfl Try.func53 (by kernel_rfl) rfl #[.slice A0 l0.length c0] rfl (by (try simp only [List.map_toArray, List.map_cons, List.map_nil]); first | done | rfl) ?_; refine (spec_DrawKeyOf.calls k _ _ l0 lu su eu nu vv _ G.at_.1.1.1.1.1.1.1.1.1.1.1.1.2 HC0.out F8.out).mono ?_; rintro e w1 ⟨v48_0, v48_1, rfl, ho48_0, ho48_1, hb⟩; refine ⟨_, rfl, ?_⟩; obtain ⟨A48_0, c48_0, rfl, hcA48_0, hCA48_0⟩ := Kd.R_reads ho48_0; clear ho48_0; have HCA48_0 := aM hcA48_0; clear hcA48_0; obtain ⟨A48_1, c48_1, rfl, hcA48_1, hCA48_1⟩ := Kd.R_reads ho48_1; clear ho48_1; have HCA48_1 := aM hcA48_1; clear hcA48_1; have G1 := (((G.go hb).add (Gs.row hCA48_0)).add (Gs.row hCA48_1)); clear G hb hCA48_0 hCA48_1; have G := G1; clear G1) | ((with_reducible refine gate_dst (N := 13) rfl ?_); refine box_event ?hg (N := 13) ?hd (cs := #[.slice none 0 0, .int .i64 0, .int .i64 0, .string (⟨#[]⟩ : ByteArray)]) (t := 43) ?hr ?_; (case hd => rfl); (case hg => rfl); (case hr => first | (go_simp; done) | (go_simp; rfl)); intro g13 hg w2 hbox hb; have HB_g13 := aM hb; have HE_g13 := aM hg; have BK_g13 := aM hbox; clear hb hg hbox; have zg13_0 := cz4_0 ⟨BK_g13.out⟩; have yg13_0 := blk_frozen (BK_g13.out) 0; have zg13_1 := cz4_1 ⟨BK_g13.out⟩; have yg13_1 := blk_frozen (BK_g13.out) 1; have zg13_2 := cz4_2 ⟨BK_g13.out⟩; have yg13_2 := blk_frozen (BK_g13.out) 2; have zg13_3 := cz4_3 ⟨BK_g13.out⟩; have yg13_3 := blk_frozen (BK_g13.out) 3))
 have G1 := Gs.put4 (.slice A48_0 lu.length c48_0) (.int .i64 su) (.int .i64 eu) (.string nu) G HB_g13 HE_g13 BK_g13
 clear G; have G := G1; clear G1
 generalize ((((w2.setCell ⟨g13, 0, none⟩ (.slice A48_0 lu.length c48_0)).setCell ⟨g13, 1, none⟩ (.int .i64 su)).setCell ⟨g13, 2, none⟩ (.int .i64 eu)).setCell ⟨g13, 3, none⟩ (.string nu)) = w3 at G ⊢
 clear zg13_0 yg13_0 zg13_1 yg13_1 zg13_2 yg13_2 zg13_3 yg13_3
 clear HB_g13 HE_g13 BK_g13
 refine reg G (by kernel_rfl) rfl laws_FnKeys.tab10 laws_FnKeys.bits10 (fun wr hbr G' HT_ HW_ => ?_)
 clear G; have G := G'; clear G'
 clear hbr
 refine (tk 0 (some 51) 1 ?_ ?_ HT_ HW_ rfl rfl (by kernel_rfl) (fun _ _ _ h => h) G.at_ ?_ ?_ ?_ (tk 1 (some 52) 3 ?_ ?_ HT_ HW_ rfl rfl (by kernel_rfl) (fun _ _ _ h => h) G.at_ ?_ ?_ ?_ (pu 2 (some 53) 7 ?_ ?_ HT_ rfl rfl (by kernel_rfl) (fun _ _ _ h => h) ?_ ?_ ?_ (tk 4 (some 55) 23 ?_ ?_ HT_ HW_ rfl rfl (by kernel_rfl) (fun _ _ _ h => h) G.at_ ?_ ?_ ?_ (tk 5 (some 56) 55 ?_ ?_ HT_ HW_ rfl rfl (by kernel_rfl) (fun _ _ _ h => h) G.at_ ?_ ?_ ?_ (pu 6 (some 57) 119 ?_ ?_ HT_ rfl rfl (by kernel_rfl) (fun _ _ _ h => h) ?_ ?_ ?_ ?_))))))
 all_goals first | (rintro w' ⟨⟨⟨⟨⟨⟨⟨⟨⟨⟨⟨⟨⟨⟨⟨⟨-, -⟩, -⟩, -⟩, -⟩, -⟩, -⟩, -⟩, ⟨s0, s1, s2, s3⟩⟩, ⟨s4, s5, s6, s7⟩⟩, -⟩, -⟩, -⟩, -⟩, -⟩, -⟩, ⟨s8, s9, s10, s11⟩⟩; go_simp; with_reducible rfl) | (intro w'; go_simp; with_reducible rfl) | (simp only [Act.put, List.setIfInBounds_toArray, List.set_cons_zero, List.set_cons_succ, i64_w, i32_w]; rfl) | rfl | skip
 refine rc 3 54 127 HT_ rfl rfl (by kernel_rfl) Try.func54 (by kernel_rfl) rfl rfl #[.agg #[.slice A32_0 lb.length c32_0, .int .i64 sb, .int .i64 eb, .string nb], .agg #[.slice A32_1 lc.length c32_1, .int .i64 sc, .int .i64 ec, .string nc], .slice A32_2 ns.length c32_2] (by rfl) (by (try simp only [List.map_toArray, List.map_cons, List.map_nil]); first | done | rfl) ?_
 refine (impl_Together.calls k _ _ lb sb eb nb _ _ lc sc ec nc _ _ ns tt _ G.at_.1.1.1.1.1.1.1.1.1.1.1.2 HCA32_0.out G.at_.1.1.1.1.1.1.1.1.1.1.2 HCA32_1.out G.at_.1.1.1.1.1.1.1.1.1.2 HCA32_2.out F9.out).mono ?_
 rintro e w1 ⟨rfl, hb⟩
 replace G := G.go hb; clear hb
 refine ⟨_, rfl, G.at_, ?_⟩; intro a' ha; simp only [Act.put, List.setIfInBounds_toArray, List.set_cons_zero, List.set_cons_succ, i64_w, i32_w] at ha; subst ha
 refine rc 7 58 255 HT_ rfl rfl (by kernel_rfl) Try.func55 (by kernel_rfl) rfl rfl #[.agg #[.slice A32_0 lb.length c32_0, .int .i64 sb, .int .i64 eb, .string nb], .agg #[.slice A32_1 lc.length c32_1, .int .i64 sc, .int .i64 ec, .string nc], .slice A32_2 ns.length c32_2] (by rfl) (by (try simp only [List.map_toArray, List.map_cons, List.map_nil]); first | done | rfl) ?_
 refine (spec_Together.calls k _ _ lb sb eb nb _ _ lc sc ec nc _ _ ns tt _ G.at_.1.1.1.1.1.1.1.1.1.1.1.2 HCA32_0.out G.at_.1.1.1.1.1.1.1.1.1.1.2 HCA32_1.out G.at_.1.1.1.1.1.1.1.1.1.2 HCA32_2.out F10.out).mono ?_
 rintro e w1 ⟨rfl, hb⟩
 replace G := G.go hb; clear hb
 refine ⟨_, rfl, G.at_, ?_⟩; intro a' ha; simp only [Act.put, List.setIfInBounds_toArray, List.set_cons_zero, List.set_cons_succ, i64_w, i32_w] at ha; subst ha
 have hk2_ := K2.out
 refine (pu 8 (some 59) 511 ?_ ?_ HT_ rfl rfl (by kernel_rfl) (fun _ _ _ h => h) ?_ ?_ ?_ (pu 9 (some 60) 1023 ?_ ?_ HT_ rfl rfl (by kernel_rfl) (fun _ _ _ h => h) ?_ ?_ ?_ (pu 10 (some 61) 2047 ?_ ?_ HT_ rfl rfl (by kernel_rfl) (fun _ _ _ h => h) ?_ ?_ ?_ (pu 11 (some 62) 4095 ?_ ?_ HT_ rfl rfl (by kernel_rfl) (fun _ _ _ h => h) ?_ ?_ ?_ (pu 12 (some 63) 8191 ?_ ?_ HT_ rfl rfl (by kernel_rfl) (fun _ _ _ h => h) ?_ ?_ ?_ ?_)))))
 all_goals first | (rintro w' ⟨⟨⟨⟨⟨⟨⟨⟨⟨⟨⟨⟨⟨⟨⟨⟨-, -⟩, -⟩, -⟩, -⟩, -⟩, -⟩, -⟩, ⟨s0, s1, s2, s3⟩⟩, ⟨s4, s5, s6, s7⟩⟩, -⟩, -⟩, -⟩, -⟩, -⟩, -⟩, ⟨s8, s9, s10, s11⟩⟩; go_simp; with_reducible rfl) | (intro w'; go_simp; with_reducible rfl) | (simp only [Act.put, List.setIfInBounds_toArray, List.set_cons_zero, List.set_cons_succ, i64_w, i32_w]; rfl) | rfl | skip
 refine rc 13 64 16383 HT_ rfl rfl (by kernel_rfl) Try.func56 (by kernel_rfl) rfl rfl #[.slice A38_0 sp.length c38_0, .slice A38_1 pp.length c38_1] (by rfl) (by (try simp only [List.map_toArray, List.map_cons, List.map_nil]); first | done | rfl) ?_
 refine (spec_Project.calls k _ _ sp _ _ pp jj _ G.at_.1.1.1.1.1.1.2 HCA38_0.out G.at_.1.1.1.1.1.2 HCA38_1.out F11.out).mono ?_
 rintro e w1 ⟨v64_0, rfl, ho64_0, hb⟩
 obtain ⟨A64_0, c64_0, rfl, hcA64_0, hCA64_0⟩ := Kd.R_reads ho64_0
 clear ho64_0; have HCA64_0 := aM hcA64_0; clear hcA64_0
 have XA64_0 := Gs.row hCA64_0; clear hCA64_0
 replace G := G.go hb; clear hb
 refine ⟨_, rfl, G.at_, ?_⟩; intro a' ha; simp only [Act.put, List.setIfInBounds_toArray, List.set_cons_zero, List.set_cons_succ, i64_w, i32_w] at ha; subst ha
 refine rc 14 65 32767 HT_ rfl rfl (by kernel_rfl) Try.func28 (by kernel_rfl) rfl rfl #[.slice A43_0 jj.length c43_0, .slice A64_0 jj.length c64_0] (by rfl) (by (try simp only [List.map_toArray, List.map_cons, List.map_nil]); first | done | rfl) ?_
 refine (impl_SameSet.calls k _ _ jj _ _ jj true _ G.at_.1.1.1.1.2 HCA43_0.out XA64_0.at_ HCA64_0.out F12.out).mono ?_
 rintro e w1 ⟨rfl, hb⟩
 replace XA64_0 := XA64_0.go hb.below
 replace G := G.go hb.below; clear hb
 refine ⟨_, rfl, G.at_, ?_⟩; intro a' ha; simp only [Act.put, List.setIfInBounds_toArray, List.set_cons_zero, List.set_cons_succ, i64_w, i32_w] at ha; subst ha
 refine (pu 15 (some 66) 65535 ?_ ?_ HT_ rfl rfl (by kernel_rfl) (fun _ _ _ h => h) ?_ ?_ ?_ (pu 16 (some 67) 131071 ?_ ?_ HT_ rfl rfl (by kernel_rfl) (fun _ _ _ h => h) ?_ ?_ ?_ (pu 17 (some 68) 262143 ?_ ?_ HT_ rfl rfl (by kernel_rfl) (fun _ _ _ h => h) ?_ ?_ ?_ (pu 18 (some 69) 524287 ?_ ?_ HT_ rfl rfl (by kernel_rfl) (fun _ _ _ h => h) ?_ ?_ ?_ (pu 20 (some 71) 1572863 ?_ ?_ HT_ rfl rfl (by kernel_rfl) (fun _ _ _ h => h) ?_ ?_ ?_ ?_)))))
 all_goals first | (rintro w' ⟨⟨⟨⟨⟨⟨⟨⟨⟨⟨⟨⟨⟨⟨⟨⟨-, -⟩, -⟩, -⟩, -⟩, -⟩, -⟩, -⟩, ⟨s0, s1, s2, s3⟩⟩, ⟨s4, s5, s6, s7⟩⟩, -⟩, -⟩, -⟩, -⟩, -⟩, -⟩, ⟨s8, s9, s10, s11⟩⟩; go_simp; with_reducible rfl) | (intro w'; go_simp; with_reducible rfl) | (simp only [Act.put, List.setIfInBounds_toArray, List.set_cons_zero, List.set_cons_succ, i64_w, i32_w]; rfl) | rfl | skip
 refine rc 19 70 2097151 HT_ rfl rfl (by kernel_rfl) Try.func57 (by kernel_rfl) rfl rfl #[.slice A45_0 ob.length c45_0] (by rfl) (by (try simp only [List.map_toArray, List.map_cons, List.map_nil]); first | done | rfl) ?_
 refine (impl_ByOk.calls k _ _ ob bo _ G.at_.1.1.1.2 HCA45_0.out F13.out).mono ?_
 rintro e w1 ⟨rfl, hb⟩
 replace XA64_0 := XA64_0.go hb.below
 replace G := G.go hb.below; clear hb
 refine ⟨_, rfl, G.at_, ?_⟩; intro a' ha; simp only [Act.put, List.setIfInBounds_toArray, List.set_cons_zero, List.set_cons_succ, i64_w, i32_w] at ha; subst ha
 refine rc 21 72 4194303 HT_ rfl rfl (by kernel_rfl) Try.func58 (by kernel_rfl) rfl rfl #[.slice A45_0 ob.length c45_0] (by rfl) (by (try simp only [List.map_toArray, List.map_cons, List.map_nil]); first | done | rfl) ?_
 refine (spec_ByOk.calls k _ _ ob bo _ G.at_.1.1.1.2 HCA45_0.out F14.out).mono ?_
 rintro e w1 ⟨rfl, hb⟩
 replace XA64_0 := XA64_0.go hb.below
 replace G := G.go hb.below; clear hb
 refine ⟨_, rfl, G.at_, ?_⟩; intro a' ha; simp only [Act.put, List.setIfInBounds_toArray, List.set_cons_zero, List.set_cons_succ, i64_w, i32_w] at ha; subst ha
 have hk3_ := K3.out
 refine (pu 22 (some 73) 8388607 ?_ ?_ HT_ rfl rfl (by kernel_rfl) (fun _ _ _ h => h) ?_ ?_ ?_ (pu 23 (some 74) 16777215 ?_ ?_ HT_ rfl rfl (by kernel_rfl) (fun _ _ _ h => h) ?_ ?_ ?_ (pu 24 (some 75) 33554431 ?_ ?_ HT_ rfl rfl (by kernel_rfl) (fun _ _ _ h => h) ?_ ?_ ?_ (tk 25 (some 76) 67108863 ?_ ?_ HT_ HW_ rfl rfl (by kernel_rfl) (fun _ _ _ h => h) G.at_ ?_ ?_ ?_ (pu 26 (some 77) 134217727 ?_ ?_ HT_ rfl rfl (by kernel_rfl) (fun _ _ _ h => h) ?_ ?_ ?_ (tk 28 (some 79) 402653183 ?_ ?_ HT_ HW_ rfl rfl (by kernel_rfl) (fun _ _ _ h => h) G.at_ ?_ ?_ ?_ (pu 29 (some 80) 939524095 ?_ ?_ HT_ rfl rfl (by kernel_rfl) (fun _ _ _ h => h) ?_ ?_ ?_ ?_)))))))
 all_goals first | (rintro w' ⟨⟨⟨⟨⟨⟨⟨⟨⟨⟨⟨⟨⟨⟨⟨⟨-, -⟩, -⟩, -⟩, -⟩, -⟩, -⟩, -⟩, ⟨s0, s1, s2, s3⟩⟩, ⟨s4, s5, s6, s7⟩⟩, -⟩, -⟩, -⟩, -⟩, -⟩, -⟩, ⟨s8, s9, s10, s11⟩⟩; go_simp; with_reducible rfl) | (intro w'; go_simp; with_reducible rfl) | (simp only [Act.put, List.setIfInBounds_toArray, List.set_cons_zero, List.set_cons_succ, i64_w, i32_w]; rfl) | rfl | skip
 refine rc 27 78 1073741823 HT_ rfl rfl (by kernel_rfl) Try.func59 (by kernel_rfl) rfl rfl #[.agg #[.slice A48_0 lu.length c48_0, .int .i64 su, .int .i64 eu, .string nu], .slice A48_1 vv.length c48_1] (by rfl) (by (try simp only [List.map_toArray, List.map_cons, List.map_nil]); first | done | rfl) ?_
 refine (impl_KeyOf.calls k _ _ lu su eu nu _ _ vv ku _ G.at_.1.1.2 HCA48_0.out G.at_.1.2 HCA48_1.out F15.out).mono ?_
 rintro e w1 ⟨v78_0, rfl, ho78_0, hb⟩
 obtain ⟨A78_0, c78_0, rfl, hcA78_0, hCA78_0⟩ := Kd.R_reads ho78_0
 clear ho78_0; have HCA78_0 := aM hcA78_0; clear hcA78_0
 replace XA64_0 := XA64_0.go hb
 have XA78_0 := Gs.row hCA78_0; clear hCA78_0
 replace G := G.go hb; clear hb
 refine ⟨_, rfl, G.at_, ?_⟩; intro a' ha; simp only [Act.put, List.setIfInBounds_toArray, List.set_cons_zero, List.set_cons_succ, i64_w, i32_w] at ha; subst ha
 refine rc 30 81 2147483647 HT_ rfl rfl (by kernel_rfl) Try.func60 (by kernel_rfl) rfl rfl #[.agg #[.slice A48_0 lu.length c48_0, .int .i64 su, .int .i64 eu, .string nu], .slice A48_1 vv.length c48_1] (by rfl) (by (try simp only [List.map_toArray, List.map_cons, List.map_nil]); first | done | rfl) ?_
 refine (spec_KeyOf.calls k _ _ lu su eu nu _ _ vv ku _ G.at_.1.1.2 HCA48_0.out G.at_.1.2 HCA48_1.out F16.out).mono ?_
 rintro e w1 ⟨v81_0, rfl, ho81_0, hb⟩
 obtain ⟨A81_0, c81_0, rfl, hcA81_0, hCA81_0⟩ := Kd.R_reads ho81_0
 clear ho81_0; have HCA81_0 := aM hcA81_0; clear hcA81_0
 replace XA64_0 := XA64_0.go hb
 replace XA78_0 := XA78_0.go hb
 have XA81_0 := Gs.row hCA81_0; clear hCA81_0
 replace G := G.go hb; clear hb
 refine ⟨_, rfl, G.at_, ?_⟩; intro a' ha; simp only [Act.put, List.setIfInBounds_toArray, List.set_cons_zero, List.set_cons_succ, i64_w, i32_w] at ha; subst ha
 refine rc 31 82 4294967295 HT_ rfl rfl (by kernel_rfl) Try.func28 (by kernel_rfl) rfl rfl #[.slice A78_0 ku.length c78_0, .slice A81_0 ku.length c81_0] (by rfl) (by (try simp only [List.map_toArray, List.map_cons, List.map_nil]); first | done | rfl) ?_
 refine (impl_SameSet.calls k _ _ ku _ _ ku true _ XA78_0.at_ HCA78_0.out XA81_0.at_ HCA81_0.out F17.out).mono ?_
 rintro e w1 ⟨rfl, hb⟩
 replace XA64_0 := XA64_0.go hb.below
 replace XA78_0 := XA78_0.go hb.below
 replace XA81_0 := XA81_0.go hb.below
 replace G := G.go hb.below; clear hb
 refine ⟨_, rfl, G.at_, ?_⟩; intro a' ha; simp only [Act.put, List.setIfInBounds_toArray, List.set_cons_zero, List.set_cons_succ, i64_w, i32_w] at ha; subst ha
 refine (pu 32 (some 83) 8589934591 ?_ ?_ HT_ rfl rfl (by kernel_rfl) (fun _ _ _ h => h) ?_ ?_ ?_ (pu 33 (some 84) 17179869183 ?_ ?_ HT_ rfl rfl (by kernel_rfl) (fun _ _ _ h => h) ?_ ?_ ?_ (pu 34 (some 85) 34359738367 ?_ ?_ HT_ rfl rfl (by kernel_rfl) (fun _ _ _ h => h) ?_ ?_ ?_ (tk 35 (some 86) 68719476735 ?_ ?_ HT_ HW_ rfl rfl (by kernel_rfl) (fun _ _ _ h => h) G.at_ ?_ ?_ ?_ (tk 36 (some 87) 137438953471 ?_ ?_ HT_ HW_ rfl rfl (by kernel_rfl) (fun _ _ _ h => h) G.at_ ?_ ?_ ?_ (pu 37 (some 88) 274877906943 ?_ ?_ HT_ rfl rfl (by kernel_rfl) (fun _ _ _ h => h) ?_ ?_ ?_ ?_))))))
 all_goals first | (rintro w' ⟨⟨⟨⟨⟨⟨⟨⟨⟨⟨⟨⟨⟨⟨⟨⟨-, -⟩, -⟩, -⟩, -⟩, -⟩, -⟩, -⟩, ⟨s0, s1, s2, s3⟩⟩, ⟨s4, s5, s6, s7⟩⟩, -⟩, -⟩, -⟩, -⟩, -⟩, -⟩, ⟨s8, s9, s10, s11⟩⟩; go_simp; with_reducible rfl) | (intro w'; go_simp; with_reducible rfl) | (simp only [Act.put, List.setIfInBounds_toArray, List.set_cons_zero, List.set_cons_succ, i64_w, i32_w]; rfl) | rfl | skip
 refine rc 38 89 549755813887 HT_ rfl rfl (by kernel_rfl) Try.func54 (by kernel_rfl) rfl rfl #[.agg #[.slice A32_0 lb.length c32_0, .int .i64 sb, .int .i64 eb, .string nb], .agg #[.slice A32_0 lb.length c32_0, .int .i64 sb, .int .i64 eb, .string nb], .slice A32_2 ns.length c32_2] (by rfl) (by (try simp only [List.map_toArray, List.map_cons, List.map_nil]); first | done | rfl) ?_
 refine (impl_Together.calls k _ _ lb sb eb nb _ _ lb sb eb nb _ _ ns true _ G.at_.1.1.1.1.1.1.1.1.1.1.1.2 HCA32_0.out G.at_.1.1.1.1.1.1.1.1.1.1.1.2 HCA32_0.out G.at_.1.1.1.1.1.1.1.1.1.2 HCA32_2.out F18.out).mono ?_
 rintro e w1 ⟨rfl, hb⟩
 replace XA64_0 := XA64_0.go hb
 replace XA78_0 := XA78_0.go hb
 replace XA81_0 := XA81_0.go hb
 replace G := G.go hb; clear hb
 refine ⟨_, rfl, G.at_, ?_⟩; intro a' ha; simp only [Act.put, List.setIfInBounds_toArray, List.set_cons_zero, List.set_cons_succ, i64_w, i32_w] at ha; subst ha
 refine (pu 39 (some 90) 1099511627775 ?_ ?_ HT_ rfl rfl (by kernel_rfl) (fun _ _ _ h => h) ?_ ?_ ?_ (pu 40 (some 91) 2199023255551 ?_ ?_ HT_ rfl rfl (by kernel_rfl) (fun _ _ _ h => h) ?_ ?_ ?_ (pu 41 (some 92) 4398046511103 ?_ ?_ HT_ rfl rfl (by kernel_rfl) (fun _ _ _ h => h) ?_ ?_ ?_ (pu 42 (some 93) 8796093022207 ?_ ?_ HT_ rfl rfl (by kernel_rfl) (fun _ _ _ h => h) ?_ ?_ ?_ (pu 43 (some 94) 17592186044415 ?_ ?_ HT_ rfl rfl (by kernel_rfl) (fun _ _ _ h => h) ?_ ?_ ?_ (pu 44 (some 95) 35184372088831 ?_ ?_ HT_ rfl rfl (by kernel_rfl) (fun _ _ _ h => h) ?_ ?_ ?_ (pu 45 (some 96) 70368744177663 ?_ ?_ HT_ rfl rfl (by kernel_rfl) (fun _ _ _ h => h) ?_ ?_ ?_ ?_)))))))
 all_goals first | (rintro w' ⟨⟨⟨⟨⟨⟨⟨⟨⟨⟨⟨⟨⟨⟨⟨⟨-, -⟩, -⟩, -⟩, -⟩, -⟩, -⟩, -⟩, ⟨s0, s1, s2, s3⟩⟩, ⟨s4, s5, s6, s7⟩⟩, -⟩, -⟩, -⟩, -⟩, -⟩, -⟩, ⟨s8, s9, s10, s11⟩⟩; go_simp; with_reducible rfl) | (intro w'; go_simp; with_reducible rfl) | (simp only [Act.put, List.setIfInBounds_toArray, List.set_cons_zero, List.set_cons_succ, i64_w, i32_w]; rfl) | rfl | skip
 refine rc 46 97 140737488355327 HT_ rfl rfl (by kernel_rfl) Try.func61 (by kernel_rfl) rfl rfl #[.slice A24_0 la.length c24_0, .slice A24_1 by_.length c24_1] (by rfl) (by (try simp only [List.map_toArray, List.map_cons, List.map_nil]); first | done | rfl) ?_
 refine (spec_Keys.calls k _ _ la _ _ by_ ks _ G.at_.1.1.1.1.1.1.1.1.1.1.1.1.1.1.2 HCA24_0.out G.at_.1.1.1.1.1.1.1.1.1.1.1.1.1.2 HCA24_1.out F19.out).mono ?_
 rintro e w1 ⟨v97_0, rfl, ho97_0, hb⟩
 obtain ⟨A97_0, c97_0, rfl, hcA97_0, hCA97_0⟩ := Kd.S_reads ho97_0
 clear ho97_0; have HCA97_0 := aM hcA97_0; clear hcA97_0
 replace XA64_0 := XA64_0.go hb
 replace XA78_0 := XA78_0.go hb
 replace XA81_0 := XA81_0.go hb
 have XA97_0 := Gs.row hCA97_0; clear hCA97_0
 replace G := G.go hb; clear hb
 refine ⟨_, rfl, G.at_, ?_⟩; intro a' ha; simp only [Act.put, List.setIfInBounds_toArray, List.set_cons_zero, List.set_cons_succ, i64_w, i32_w] at ha; subst ha
 have hk4_ := K4.out
 refine (pu 47 (some 98) 281474976710655 ?_ ?_ HT_ rfl rfl (by kernel_rfl) (fun _ _ _ h => h) ?_ ?_ ?_ (pu 48 (some 99) 562949953421311 ?_ ?_ HT_ rfl rfl (by kernel_rfl) (fun _ _ _ h => h) ?_ ?_ ?_ (pu 49 (some 100) 1125899906842623 ?_ ?_ HT_ rfl rfl (by kernel_rfl) (fun _ _ _ h => h) ?_ ?_ ?_ ?_)))
 all_goals first | (rintro w' ⟨⟨⟨⟨⟨⟨⟨⟨⟨⟨⟨⟨⟨⟨⟨⟨-, -⟩, -⟩, -⟩, -⟩, -⟩, -⟩, -⟩, ⟨s0, s1, s2, s3⟩⟩, ⟨s4, s5, s6, s7⟩⟩, -⟩, -⟩, -⟩, -⟩, -⟩, -⟩, ⟨s8, s9, s10, s11⟩⟩; go_simp; with_reducible rfl) | (intro w'; go_simp; with_reducible rfl) | (simp only [Act.put, List.setIfInBounds_toArray, List.set_cons_zero, List.set_cons_succ, i64_w, i32_w]; rfl) | rfl | skip
 refine done_ (done_of HT_.out (by kernel_rfl)) ?_
 refine Gs.hide G (fun Ψ GP hP hQ => ?_)
 clear G
 have HG := Aside0.mk GP
 have hW := Aside0.mk @GP.st
 clear GP
 have hmk : ks.length ≤ 9223372036854775807 := (hP _ HG.out.at_).1.1.1.1.1.1.1.1.1.1.1.1.2.2.1
 have hml : la.length ≤ 9223372036854775807 := (hP _ HG.out.at_).1.1.1.1.1.1.1.1.1.1.1.1.1.1.2.2.1
 go_wp2
 go_loopg [15] ks.length (fun kx v15 w' => ∃ i : Nat, v15 = .int .i64 (i : Int) ∧ i ≤ ks.length ∧ ks.length - i ≤ kx ∧ Aside0 (Gs Ψ w'))
 case atStart => exact ⟨0, rfl, Nat.zero_le _, Nat.le_refl _, HG⟩
 case round =>
  clear HG
  obtain ⟨i, rfl, hin, hkx, HG⟩ := hrel
  by_cases hlt : i < ks.length
  · skip
    have hltb : decide ((i : Int) < (ks.length : Int)) = true := decide_eq_true (by omega)
    go_wp2
    go_loopg [16] i (fun ky v16 w' => ∃ m : Nat, v16 = .int .i64 (m : Int) ∧ m ≤ i ∧ i - m ≤ ky ∧ Aside0 (Gs Ψ w'))
    case atStart => exact ⟨0, rfl, Nat.zero_le _, Nat.le_refl _, HG⟩
    case round =>
     clear HG
     obtain ⟨m, rfl, hmi, hky, HG⟩ := hrel
     by_cases hm : m < i
     · skip
       have hmb : decide ((m : Int) < (i : Int)) = true := decide_eq_true (by omega)
       have hFm := K0.out m i hm hlt
       obtain ⟨ad, Am, cm, e_, hxm, hlm, hCm⟩ := at_L4 (hP _ HG.out.at_).1.1.1.1.1.1.1.1.1.1.1.1.2 (m : Int) (by omega) (by omega)
       cases e_
       obtain ⟨ad2, Ai, ci, e_, hxi, hli, hCi⟩ := at_L4 (hP _ HG.out.at_).1.1.1.1.1.1.1.1.1.1.1.1.2 (i : Int) (by omega) (by omega)
       cases e_
       have pm : (0 ≤ (m : Int)) = True := eq_true (by omega)
       have pi_ : (0 ≤ (i : Int)) = True := eq_true (by omega)
       have qm : ((m : Int) < (ks.length : Int)) = True := eq_true (by omega)
       have qi : ((i : Int) < (ks.length : Int)) = True := eq_true (by omega)
       simp only [Int.toNat_natCast] at hxm hxi
       have qm2 : (m < ks.length) = True := eq_true (by omega)
       have qi2 : (i < ks.length) = True := eq_true (by omega)
       have HLm := aM hlm
       have HLi := aM hli
       have G := (((HG.out.add (Gs.cell hxm)).add (Gs.cell hxi)).add (Gs.row hCm)).add (Gs.row hCi)
       clear hxm hxi hlm hli hCm hCi
       go_upto_region 18 with (fail)
       refine reg G (by kernel_rfl) rfl laws_FnKeys.tab18 laws_FnKeys.bits18 (fun wr hbr G' HT_ HW_ => ?_)
       clear G; have G := G'; clear G'
       clear hbr
       refine (pu 0 (some 112) 1 ?_ ?_ HT_ rfl rfl (by kernel_rfl) (fun _ _ _ h => h) ?_ ?_ ?_ (pu 1 (some 113) 3 ?_ ?_ HT_ rfl rfl (by kernel_rfl) (fun _ _ _ h => h) ?_ ?_ ?_ (pu 2 (some 114) 7 ?_ ?_ HT_ rfl rfl (by kernel_rfl) (fun _ _ _ h => h) ?_ ?_ ?_ (tk 3 (some 115) 15 ?_ ?_ HT_ HW_ rfl rfl (by kernel_rfl) (fun _ _ _ h => h) G.at_ ?_ ?_ ?_ (pu 4 (some 116) 31 ?_ ?_ HT_ rfl rfl (by kernel_rfl) (fun _ _ _ h => h) ?_ ?_ ?_ (pu 5 (some 117) 63 ?_ ?_ HT_ rfl rfl (by kernel_rfl) (fun _ _ _ h => h) ?_ ?_ ?_ (pu 6 (some 118) 127 ?_ ?_ HT_ rfl rfl (by kernel_rfl) (fun _ _ _ h => h) ?_ ?_ ?_ (tk 7 (some 119) 255 ?_ ?_ HT_ HW_ rfl rfl (by kernel_rfl) (fun _ _ _ h => h) G.at_ ?_ ?_ ?_ ?_))))))))
       all_goals first | (rintro w' ⟨⟨⟨⟨-, s0⟩, s1⟩, -⟩, -⟩; go_simp; with_reducible rfl) | (intro w'; go_simp; with_reducible rfl) | (simp only [Act.put, List.setIfInBounds_toArray, List.set_cons_zero, List.set_cons_succ, i64_w, i32_w]; rfl) | rfl | skip
       refine rc 8 120 511 HT_ rfl rfl (by kernel_rfl) Try.func28 (by kernel_rfl) rfl rfl #[.slice Am (rd_L4 ks (m : Int)).length cm, .slice Ai (rd_L4 ks (i : Int)).length ci] (by rfl) (by (try simp only [List.map_toArray, List.map_cons, List.map_nil]); first | done | rfl) ?_
       refine (impl_SameSet.calls k _ _ (rd_L4 ks (m : Int)) _ _ (rd_L4 ks (i : Int)) false _ G.at_.1.2 HLm.out G.at_.2 HLi.out hFm).mono ?_
       rintro e w1 ⟨rfl, hb⟩
       replace G := G.go hb.below; clear hb
       refine ⟨_, rfl, G.at_, ?_⟩; intro a' ha; simp only [Act.put, List.setIfInBounds_toArray, List.set_cons_zero, List.set_cons_succ, i64_w, i32_w] at ha; subst ha
       refine done_ (done_of HT_.out (by kernel_rfl)) ?_
       have HG := Aside0.mk (G.left hW.out (fun _ h_ => h_.1.1.1.1))
       clear G
       go_wp2
       go_roundg (i - (m + 1))
       case measure => omega
       case rel => exact ⟨m + 1, by go_num, by omega, Nat.le_refl _, HG⟩
     · have hmb : decide ((m : Int) < (i : Int)) = false := decide_eq_false (by omega)
       go_wp2
       go_roundg (ks.length - (i + 1))
       case measure => omega
       case rel => exact ⟨i + 1, by go_num, by omega, Nat.le_refl _, HG⟩
  · skip
    have hltb : decide ((i : Int) < (ks.length : Int)) = false := decide_eq_false (by omega)
    go_wp2
    go_loopg [17] la.length (fun kx v17 w' => ∃ i : Nat, v17 = .int .i64 (i : Int) ∧ i ≤ la.length ∧ la.length - i ≤ kx ∧ Aside0 (Gs Ψ w'))
    case atStart => exact ⟨0, rfl, Nat.zero_le _, Nat.le_refl _, HG⟩
    case round =>
     clear HG hin hkx hlt hltb
     obtain ⟨i, rfl, hin, hkx, HG⟩ := hrel
     by_cases hlt : i < la.length
     · skip
       have hltb : decide ((i : Int) < (la.length : Int)) = true := decide_eq_true (by omega)
       obtain ⟨hT1, hT2, hT3, hT4⟩ := K1.out i hlt
       have HT1 := aM hT1
       have HT2 := aM hT2
       have HT3 := aM hT3
       have HT4 := aM hT4
       clear hT1 hT2 hT3 hT4
       go_wp2
       go_loopg [18, 19] ks.length (fun ky v18 v19 w' => ∃ (m : Nat) (b : Bool), v18 = .bool b ∧ v19 = .int .i64 (m : Int) ∧ m ≤ ks.length ∧ ks.length - m ≤ ky ∧ Aside0 (b = decide (tf i < m)) ∧ Aside0 (Gs Ψ w'))
       case atStart => exact ⟨0, false, rfl, rfl, Nat.zero_le _, Nat.le_refl _, ⟨by simp⟩, HG⟩
       case round =>
        clear HG
        obtain ⟨m, b, rfl, rfl, hmi, hky, HBB, HG⟩ := hrel
        by_cases hm : m < ks.length
        · skip
          have hmb : decide ((m : Int) < (ks.length : Int)) = true := decide_eq_true (by omega)
          by_cases h3 : tf i < m
          · skip
            obtain rfl : b = true := by rw [HBB.out]; exact decide_eq_true h3
            clear HBB
            have G := HG.out
            clear HG
            go_upto_region 27 with (fail)
            refine reg G (by kernel_rfl) rfl laws_FnKeys.tab27 laws_FnKeys.bits27 (fun wr hbr G' HT_ HW_ => ?_)
            clear G; have G := G'; clear G'
            clear hbr
            refine (pu 0 (some 133) 1 ?_ ?_ HT_ rfl rfl (by kernel_rfl) (fun _ _ _ h => h) ?_ ?_ ?_ (pu 1 (some 134) 3 ?_ ?_ HT_ rfl rfl (by kernel_rfl) (fun _ _ _ h => h) ?_ ?_ ?_ (po 2 (some 135) 7 ?_ HT_ rfl rfl (by kernel_rfl) (fun _ _ _ h => h) ?_ ?_ (po 3 (some 136) 15 ?_ HT_ rfl rfl (by kernel_rfl) (fun _ _ _ h => h) ?_ ?_ (po 4 (some 137) 31 ?_ HT_ rfl rfl (by kernel_rfl) (fun _ _ _ h => h) ?_ ?_ (po 5 (some 138) 63 ?_ HT_ rfl rfl (by kernel_rfl) (fun _ _ _ h => h) ?_ ?_ (po 6 (some 139) 127 ?_ HT_ rfl rfl (by kernel_rfl) (fun _ _ _ h => h) ?_ ?_ (po 7 (some 140) 255 ?_ HT_ rfl rfl (by kernel_rfl) (fun _ _ _ h => h) ?_ ?_ (po 8 (some 141) 511 ?_ HT_ rfl rfl (by kernel_rfl) (fun _ _ _ h => h) ?_ ?_ (po 9 (some 142) 1023 ?_ HT_ rfl rfl (by kernel_rfl) (fun _ _ _ h => h) ?_ ?_ (po 10 (some 143) 2047 ?_ HT_ rfl rfl (by kernel_rfl) (fun _ _ _ h => h) ?_ ?_ (po 11 (some 144) 4095 ?_ HT_ rfl rfl (by kernel_rfl) (fun _ _ _ h => h) ?_ ?_ (po 12 (some 145) 8191 ?_ HT_ rfl rfl (by kernel_rfl) (fun _ _ _ h => h) ?_ ?_ (pu 13 (some 146) 16383 ?_ ?_ HT_ rfl rfl (by kernel_rfl) (fun _ _ _ h => h) ?_ ?_ ?_ (pu 14 (some 18) 32767 ?_ ?_ HT_ rfl rfl (by kernel_rfl) (fun _ _ _ h => h) ?_ ?_ ?_ ?_)))))))))))))))
            all_goals first | (rintro w' -; go_simp; with_reducible rfl) | (intro w'; go_simp; with_reducible rfl) | (simp only [Act.put, List.setIfInBounds_toArray, List.set_cons_zero, List.set_cons_succ, i64_w, i32_w]; rfl) | rfl | skip
            refine done_ (done_of HT_.out (by kernel_rfl)) ?_
            have HG := Aside0.mk G
            clear G
            go_wp2
            go_roundg (ks.length - (m + 1))
            case measure => omega
            case rel => exact ⟨m + 1, true, rfl, by go_num, by omega, Nat.le_refl _, ⟨(decide_eq_true (by omega)).symm⟩, HG⟩
          · skip
            obtain rfl : b = false := by rw [HBB.out]; exact decide_eq_false h3
            clear HBB
            obtain ⟨ad, Am, cm, e_, hxm, hlm, hCm⟩ := at_L4 (hP _ HG.out.at_).1.1.1.1.1.1.1.1.1.1.1.1.2 (m : Int) (by omega) (by omega)
            cases e_
            obtain ⟨ad2, Ai, ci, e_, hx0, hx1, hx2, hx3, hli, hCi⟩ := at_T43 (hP _ HG.out.at_).1.1.1.1.1.1.1.1.1.1.1.1.1.1.2 (i : Int) (by omega) (by omega)
            cases e_
            have pm : (0 ≤ (m : Int)) = True := eq_true (by omega)
            have pi_ : (0 ≤ (i : Int)) = True := eq_true (by omega)
            have qm : ((m : Int) < (ks.length : Int)) = True := eq_true (by omega)
            have qi : ((i : Int) < (la.length : Int)) = True := eq_true (by omega)
            have qm2 : (m < ks.length) = True := eq_true (by omega)
            have qi2 : (i < la.length) = True := eq_true (by omega)
            simp only [Int.toNat_natCast] at hxm hx0 hx1 hx2 hx3
            have HLm := aM hlm
            have HLi := aM hli
            have hby := (hP _ HG.out.at_).1.1.1.1.1.1.1.1.1.1.1.1.1.2
            have G := (((((((HG.out.add (Gs.cell hxm)).add (Gs.cell hx0)).add (Gs.cell hx1)).add (Gs.cell hx2)).add (Gs.cell hx3)).add (Gs.row hCm)).add (Gs.row hCi)).add (Gs.row hby)
            clear hxm hx0 hx1 hx2 hx3 hlm hli hCm hCi hby HG
            go_upto_region 27 with (fail)
            by_cases h4 : m = tf i
            · skip
              have hFm : impl_SameSet.f k (rd_L4 ks (m : Int)) (kf i) = some true := by rw [h4]; exact HT4.out
              have H4 := aM h4
              clear h4
              refine reg G (by kernel_rfl) rfl laws_FnKeys.tab27 laws_FnKeys.bits27 (fun wr hbr G' HT_ HW_ => ?_)
              clear G; have G := G'; clear G'
              clear hbr
              refine (pu 0 (some 133) 1 ?_ ?_ HT_ rfl rfl (by kernel_rfl) (fun _ _ _ h => h) ?_ ?_ ?_ (pu 1 (some 134) 3 ?_ ?_ HT_ rfl rfl (by kernel_rfl) (fun _ _ _ h => h) ?_ ?_ ?_ (pu 2 (some 135) 7 ?_ ?_ HT_ rfl rfl (by kernel_rfl) (fun _ _ _ h => h) ?_ ?_ ?_ (pu 3 (some 136) 15 ?_ ?_ HT_ rfl rfl (by kernel_rfl) (fun _ _ _ h => h) ?_ ?_ ?_ (pu 4 (some 137) 31 ?_ ?_ HT_ rfl rfl (by kernel_rfl) (fun _ _ _ h => h) ?_ ?_ ?_ (tk 5 (some 138) 63 ?_ ?_ HT_ HW_ rfl rfl (by kernel_rfl) (fun _ _ _ h => h) G.at_ ?_ ?_ ?_ (pu 6 (some 139) 127 ?_ ?_ HT_ rfl rfl (by kernel_rfl) (fun _ _ _ h => h) ?_ ?_ ?_ (pu 7 (some 140) 255 ?_ ?_ HT_ rfl rfl (by kernel_rfl) (fun _ _ _ h => h) ?_ ?_ ?_ (pu 8 (some 141) 511 ?_ ?_ HT_ rfl rfl (by kernel_rfl) (fun _ _ _ h => h) ?_ ?_ ?_ (tk 9 (some 142) 1023 ?_ ?_ HT_ HW_ rfl rfl (by kernel_rfl) (fun _ _ _ h => h) G.at_ ?_ ?_ ?_ (pu 10 (some 143) 2047 ?_ ?_ HT_ rfl rfl (by kernel_rfl) (fun _ _ _ h => h) ?_ ?_ ?_ ?_)))))))))))
              all_goals first | (rintro w' ⟨⟨⟨⟨⟨⟨⟨⟨-, s0⟩, s1⟩, s2⟩, s3⟩, s4⟩, -⟩, -⟩, -⟩; go_simp; with_reducible rfl) | (intro w'; go_simp; with_reducible rfl) | (simp only [Act.put, List.setIfInBounds_toArray, List.set_cons_zero, List.set_cons_succ, i64_w, i32_w]; rfl) | rfl | skip
              refine rc 11 144 4095 HT_ rfl rfl (by kernel_rfl) Try.func59 (by kernel_rfl) rfl rfl #[.agg #[.slice Ai (rd_T43 la (i : Int)).f0.length ci, .int .i64 ((rd_T43 la (i : Int)).f1), .int .i64 ((rd_T43 la (i : Int)).f2), .string ((rd_T43 la (i : Int)).f3)], .slice A24_1 by_.length c24_1] (by rfl) (by (try simp only [List.map_toArray, List.map_cons, List.map_nil]); first | done | rfl) ?_
              refine (impl_KeyOf.calls k _ _ ((rd_T43 la (i : Int)).f0) ((rd_T43 la (i : Int)).f1) ((rd_T43 la (i : Int)).f2) ((rd_T43 la (i : Int)).f3) _ _ by_ (kf i) _ G.at_.1.2 HLi.out G.at_.2 HCA24_1.out HT2.out).mono ?_
              rintro e w1 ⟨v144_0, rfl, ho144_0, hb⟩
              obtain ⟨A144_0, c144_0, rfl, hcA144_0, hCA144_0⟩ := Kd.R_reads ho144_0
              clear ho144_0; have HCA144_0 := aM hcA144_0; clear hcA144_0
              have XA144_0 := Gs.row hCA144_0; clear hCA144_0
              replace G := G.go hb; clear hb
              refine ⟨_, rfl, G.at_, ?_⟩; intro a' ha; simp only [Act.put, List.setIfInBounds_toArray, List.set_cons_zero, List.set_cons_succ, i64_w, i32_w] at ha; subst ha
              refine rc 12 145 8191 HT_ rfl rfl (by kernel_rfl) Try.func28 (by kernel_rfl) rfl rfl #[.slice Am (rd_L4 ks (m : Int)).length cm, .slice A144_0 (kf i).length c144_0] (by rfl) (by (try simp only [List.map_toArray, List.map_cons, List.map_nil]); first | done | rfl) ?_
              refine (impl_SameSet.calls k _ _ (rd_L4 ks (m : Int)) _ _ (kf i) true _ G.at_.1.1.2 HLm.out XA144_0.at_ HCA144_0.out hFm).mono ?_
              rintro e w1 ⟨rfl, hb⟩
              replace XA144_0 := XA144_0.go hb.below
              replace G := G.go hb.below; clear hb
              refine ⟨_, rfl, G.at_, ?_⟩; intro a' ha; simp only [Act.put, List.setIfInBounds_toArray, List.set_cons_zero, List.set_cons_succ, i64_w, i32_w] at ha; subst ha
              refine (pu 13 (some 146) 16383 ?_ ?_ HT_ rfl rfl (by kernel_rfl) (fun _ _ _ h => h) ?_ ?_ ?_ (pu 14 (some 18) 32767 ?_ ?_ HT_ rfl rfl (by kernel_rfl) (fun _ _ _ h => h) ?_ ?_ ?_ ?_))
              all_goals first | (rintro w' ⟨⟨⟨⟨⟨⟨⟨⟨-, s0⟩, s1⟩, s2⟩, s3⟩, s4⟩, -⟩, -⟩, -⟩; go_simp; with_reducible rfl) | (intro w'; go_simp; with_reducible rfl) | (simp only [Act.put, List.setIfInBounds_toArray, List.set_cons_zero, List.set_cons_succ, i64_w, i32_w]; rfl) | rfl | skip
              refine done_ (done_of HT_.out (by kernel_rfl)) ?_
              have HG := Aside0.mk (G.left hW.out (fun _ h_ => h_.1.1.1.1.1.1.1.1))
              clear G
              go_wp2
              go_roundg (ks.length - (m + 1))
              case measure => omega
              case rel => exact ⟨m + 1, true, rfl, by go_num, by omega, Nat.le_refl _, ⟨(decide_eq_true (by have := H4.out; omega)).symm⟩, HG⟩
            · skip
              have hFm := HT3.out m (by omega)
              have H4 := aM h4
              clear h4
              refine reg G (by kernel_rfl) rfl laws_FnKeys.tab27 laws_FnKeys.bits27 (fun wr hbr G' HT_ HW_ => ?_)
              clear G; have G := G'; clear G'
              clear hbr
              refine (pu 0 (some 133) 1 ?_ ?_ HT_ rfl rfl (by kernel_rfl) (fun _ _ _ h => h) ?_ ?_ ?_ (pu 1 (some 134) 3 ?_ ?_ HT_ rfl rfl (by kernel_rfl) (fun _ _ _ h => h) ?_ ?_ ?_ (pu 2 (some 135) 7 ?_ ?_ HT_ rfl rfl (by kernel_rfl) (fun _ _ _ h => h) ?_ ?_ ?_ (pu 3 (some 136) 15 ?_ ?_ HT_ rfl rfl (by kernel_rfl) (fun _ _ _ h => h) ?_ ?_ ?_ (pu 4 (some 137) 31 ?_ ?_ HT_ rfl rfl (by kernel_rfl) (fun _ _ _ h => h) ?_ ?_ ?_ (tk 5 (some 138) 63 ?_ ?_ HT_ HW_ rfl rfl (by kernel_rfl) (fun _ _ _ h => h) G.at_ ?_ ?_ ?_ (pu 6 (some 139) 127 ?_ ?_ HT_ rfl rfl (by kernel_rfl) (fun _ _ _ h => h) ?_ ?_ ?_ (pu 7 (some 140) 255 ?_ ?_ HT_ rfl rfl (by kernel_rfl) (fun _ _ _ h => h) ?_ ?_ ?_ (pu 8 (some 141) 511 ?_ ?_ HT_ rfl rfl (by kernel_rfl) (fun _ _ _ h => h) ?_ ?_ ?_ (tk 9 (some 142) 1023 ?_ ?_ HT_ HW_ rfl rfl (by kernel_rfl) (fun _ _ _ h => h) G.at_ ?_ ?_ ?_ (pu 10 (some 143) 2047 ?_ ?_ HT_ rfl rfl (by kernel_rfl) (fun _ _ _ h => h) ?_ ?_ ?_ ?_)))))))))))
              all_goals first | (rintro w' ⟨⟨⟨⟨⟨⟨⟨⟨-, s0⟩, s1⟩, s2⟩, s3⟩, s4⟩, -⟩, -⟩, -⟩; go_simp; with_reducible rfl) | (intro w'; go_simp; with_reducible rfl) | (simp only [Act.put, List.setIfInBounds_toArray, List.set_cons_zero, List.set_cons_succ, i64_w, i32_w]; rfl) | rfl | skip
              refine rc 11 144 4095 HT_ rfl rfl (by kernel_rfl) Try.func59 (by kernel_rfl) rfl rfl #[.agg #[.slice Ai (rd_T43 la (i : Int)).f0.length ci, .int .i64 ((rd_T43 la (i : Int)).f1), .int .i64 ((rd_T43 la (i : Int)).f2), .string ((rd_T43 la (i : Int)).f3)], .slice A24_1 by_.length c24_1] (by rfl) (by (try simp only [List.map_toArray, List.map_cons, List.map_nil]); first | done | rfl) ?_
              refine (impl_KeyOf.calls k _ _ ((rd_T43 la (i : Int)).f0) ((rd_T43 la (i : Int)).f1) ((rd_T43 la (i : Int)).f2) ((rd_T43 la (i : Int)).f3) _ _ by_ (kf i) _ G.at_.1.2 HLi.out G.at_.2 HCA24_1.out HT2.out).mono ?_
              rintro e w1 ⟨v144_0, rfl, ho144_0, hb⟩
              obtain ⟨A144_0, c144_0, rfl, hcA144_0, hCA144_0⟩ := Kd.R_reads ho144_0
              clear ho144_0; have HCA144_0 := aM hcA144_0; clear hcA144_0
              have XA144_0 := Gs.row hCA144_0; clear hCA144_0
              replace G := G.go hb; clear hb
              refine ⟨_, rfl, G.at_, ?_⟩; intro a' ha; simp only [Act.put, List.setIfInBounds_toArray, List.set_cons_zero, List.set_cons_succ, i64_w, i32_w] at ha; subst ha
              refine rc 12 145 8191 HT_ rfl rfl (by kernel_rfl) Try.func28 (by kernel_rfl) rfl rfl #[.slice Am (rd_L4 ks (m : Int)).length cm, .slice A144_0 (kf i).length c144_0] (by rfl) (by (try simp only [List.map_toArray, List.map_cons, List.map_nil]); first | done | rfl) ?_
              refine (impl_SameSet.calls k _ _ (rd_L4 ks (m : Int)) _ _ (kf i) false _ G.at_.1.1.2 HLm.out XA144_0.at_ HCA144_0.out hFm).mono ?_
              rintro e w1 ⟨rfl, hb⟩
              replace XA144_0 := XA144_0.go hb.below
              replace G := G.go hb.below; clear hb
              refine ⟨_, rfl, G.at_, ?_⟩; intro a' ha; simp only [Act.put, List.setIfInBounds_toArray, List.set_cons_zero, List.set_cons_succ, i64_w, i32_w] at ha; subst ha
              refine (pu 13 (some 146) 16383 ?_ ?_ HT_ rfl rfl (by kernel_rfl) (fun _ _ _ h => h) ?_ ?_ ?_ (pu 14 (some 18) 32767 ?_ ?_ HT_ rfl rfl (by kernel_rfl) (fun _ _ _ h => h) ?_ ?_ ?_ ?_))
              all_goals first | (rintro w' ⟨⟨⟨⟨⟨⟨⟨⟨-, s0⟩, s1⟩, s2⟩, s3⟩, s4⟩, -⟩, -⟩, -⟩; go_simp; with_reducible rfl) | (intro w'; go_simp; with_reducible rfl) | (simp only [Act.put, List.setIfInBounds_toArray, List.set_cons_zero, List.set_cons_succ, i64_w, i32_w]; rfl) | rfl | skip
              refine done_ (done_of HT_.out (by kernel_rfl)) ?_
              have HG := Aside0.mk (G.left hW.out (fun _ h_ => h_.1.1.1.1.1.1.1.1))
              clear G
              go_wp2
              go_roundg (ks.length - (m + 1))
              case measure => omega
              case rel => exact ⟨m + 1, false, rfl, by go_num, by omega, Nat.le_refl _, ⟨(decide_eq_false (by have := H4.out; omega)).symm⟩, HG⟩
        · skip
          have hmb : decide ((m : Int) < (ks.length : Int)) = false := decide_eq_false (by omega)
          obtain rfl : b = true := by rw [HBB.out]; exact decide_eq_true (by have := HT1.out; omega)
          clear HBB
          go_wp2
          go_roundg (la.length - (i + 1))
          case measure => omega
          case rel => exact ⟨i + 1, by go_num, by omega, Nat.le_refl _, HG⟩
     · skip
       have hltb : decide ((i : Int) < (la.length : Int)) = false := decide_eq_false (by omega)
       have G := hQ _ HG.out
       clear HG hltb hP hQ hW
       go_upto_region 30 with (fail)
       refine reg G (by kernel_rfl) rfl laws_FnKeys.tab30 laws_FnKeys.bits30 (fun wr hbr G' HT_ HW_ => ?_)
       clear G; have G := G'; clear G'
       clear hbr
       refine (pu 0 (some 149) 1 ?_ ?_ HT_ rfl rfl (by kernel_rfl) (fun _ _ _ h => h) ?_ ?_ ?_ (pu 1 (some 150) 3 ?_ ?_ HT_ rfl rfl (by kernel_rfl) (fun _ _ _ h => h) ?_ ?_ ?_ (pu 3 (some 152) 11 ?_ ?_ HT_ rfl rfl (by kernel_rfl) (fun _ _ _ h => h) ?_ ?_ ?_ ?_)))
       all_goals first | (rintro w' ⟨⟨⟨⟨⟨⟨⟨⟨⟨⟨⟨⟨⟨⟨⟨⟨-, -⟩, -⟩, -⟩, -⟩, -⟩, -⟩, -⟩, ⟨s0, s1, s2, s3⟩⟩, ⟨s4, s5, s6, s7⟩⟩, -⟩, -⟩, -⟩, -⟩, -⟩, -⟩, ⟨s8, s9, s10, s11⟩⟩; go_simp; with_reducible rfl) | (intro w'; go_simp; with_reducible rfl) | (simp only [Act.put, List.setIfInBounds_toArray, List.set_cons_zero, List.set_cons_succ, i64_w, i32_w]; rfl) | rfl | skip
       refine rc 2 151 15 HT_ rfl rfl (by kernel_rfl) Try.func51 (by kernel_rfl) rfl rfl #[.slice A43_0 jj.length c43_0, .slice A38_1 pp.length c38_1] (by rfl) (by (try simp only [List.map_toArray, List.map_cons, List.map_nil]); first | done | rfl) ?_
       refine (impl_Project.calls k _ _ jj _ _ pp jj _ G.at_.1.1.1.1.2 HCA43_0.out G.at_.1.1.1.1.1.2 HCA38_1.out F20.out).mono ?_
       rintro e w1 ⟨v151_0, rfl, ho151_0, hb⟩
       obtain ⟨A151_0, c151_0, rfl, hcA151_0, hCA151_0⟩ := Kd.R_reads ho151_0
       clear ho151_0; have HCA151_0 := aM hcA151_0; clear hcA151_0
       have XA151_0 := Gs.row hCA151_0; clear hCA151_0
       replace G := G.go hb; clear hb
       refine ⟨_, rfl, G.at_, ?_⟩; intro a' ha; simp only [Act.put, List.setIfInBounds_toArray, List.set_cons_zero, List.set_cons_succ, i64_w, i32_w] at ha; subst ha
       refine rc 4 153 31 HT_ rfl rfl (by kernel_rfl) Try.func28 (by kernel_rfl) rfl rfl #[.slice A151_0 jj.length c151_0, .slice A43_0 jj.length c43_0] (by rfl) (by (try simp only [List.map_toArray, List.map_cons, List.map_nil]); first | done | rfl) ?_
       refine (impl_SameSet.calls k _ _ jj _ _ jj true _ XA151_0.at_ HCA151_0.out G.at_.1.1.1.1.2 HCA43_0.out F12.out).mono ?_
       rintro e w1 ⟨rfl, hb⟩
       replace XA151_0 := XA151_0.go hb.below
       replace G := G.go hb.below; clear hb
       refine ⟨_, rfl, G.at_, ?_⟩; intro a' ha; simp only [Act.put, List.setIfInBounds_toArray, List.set_cons_zero, List.set_cons_succ, i64_w, i32_w] at ha; subst ha
       have hk5_ := K5.out
       have hkN_ : decide (jj.length ≤ sp.length) = true := decide_eq_true (by have h_ := of_decide_eq_true K5.out; omega)
       refine (pu 5 (some 154) 63 ?_ ?_ HT_ rfl rfl (by kernel_rfl) (fun _ _ _ h => h) ?_ ?_ ?_ (pu 6 (some 155) 127 ?_ ?_ HT_ rfl rfl (by kernel_rfl) (fun _ _ _ h => h) ?_ ?_ ?_ (pu 7 (some 156) 255 ?_ ?_ HT_ rfl rfl (by kernel_rfl) (fun _ _ _ h => h) ?_ ?_ ?_ (pu 8 (some 157) 511 ?_ ?_ HT_ rfl rfl (by kernel_rfl) (fun _ _ _ h => h) ?_ ?_ ?_ (pu 9 (some 158) 1023 ?_ ?_ HT_ rfl rfl (by kernel_rfl) (fun _ _ _ h => h) ?_ ?_ ?_ (pu 10 (some 159) 2047 ?_ ?_ HT_ rfl rfl (by kernel_rfl) (fun _ _ _ h => h) ?_ ?_ ?_ (pu 11 (some 160) 4095 ?_ ?_ HT_ rfl rfl (by kernel_rfl) (fun _ _ _ h => h) ?_ ?_ ?_ (pu 12 (some 161) 8191 ?_ ?_ HT_ rfl rfl (by kernel_rfl) (fun _ _ _ h => h) ?_ ?_ ?_ (tk 13 (some 162) 16383 ?_ ?_ HT_ HW_ rfl rfl (by kernel_rfl) (fun _ _ _ h => h) G.at_ ?_ ?_ ?_ (tk 14 (some 163) 32767 ?_ ?_ HT_ HW_ rfl rfl (by kernel_rfl) (fun _ _ _ h => h) G.at_ ?_ ?_ ?_ (pu 15 (some 164) 65535 ?_ ?_ HT_ rfl rfl (by kernel_rfl) (fun _ _ _ h => h) ?_ ?_ ?_ (tk 17 (some 166) 196607 ?_ ?_ HT_ HW_ rfl rfl (by kernel_rfl) (fun _ _ _ h => h) G.at_ ?_ ?_ ?_ (tk 18 (some 167) 458751 ?_ ?_ HT_ HW_ rfl rfl (by kernel_rfl) (fun _ _ _ h => h) G.at_ ?_ ?_ ?_ (pu 19 (some 168) 983039 ?_ ?_ HT_ rfl rfl (by kernel_rfl) (fun _ _ _ h => h) ?_ ?_ ?_ ?_))))))))))))))
       all_goals first | (rintro w' ⟨⟨⟨⟨⟨⟨⟨⟨⟨⟨⟨⟨⟨⟨⟨⟨-, -⟩, -⟩, -⟩, -⟩, -⟩, -⟩, -⟩, ⟨s0, s1, s2, s3⟩⟩, ⟨s4, s5, s6, s7⟩⟩, -⟩, -⟩, -⟩, -⟩, -⟩, -⟩, ⟨s8, s9, s10, s11⟩⟩; go_simp; with_reducible rfl) | (intro w'; go_simp; with_reducible rfl) | (simp only [Act.put, List.setIfInBounds_toArray, List.set_cons_zero, List.set_cons_succ, i64_w, i32_w]; rfl) | rfl | skip
       refine rc 16 165 1048575 HT_ rfl rfl (by kernel_rfl) Try.func54 (by kernel_rfl) rfl rfl #[.agg #[.slice A32_0 lb.length c32_0, .int .i64 sb, .int .i64 eb, .string nb], .agg #[.slice A32_1 lc.length c32_1, .int .i64 sc, .int .i64 ec, .string nc], .slice A32_2 ns.length c32_2] (by rfl) (by (try simp only [List.map_toArray, List.map_cons, List.map_nil]); first | done | rfl) ?_
       refine (impl_Together.calls k _ _ lb sb eb nb _ _ lc sc ec nc _ _ ns tt _ G.at_.1.1.1.1.1.1.1.1.1.1.1.2 HCA32_0.out G.at_.1.1.1.1.1.1.1.1.1.1.2 HCA32_1.out G.at_.1.1.1.1.1.1.1.1.1.2 HCA32_2.out F9.out).mono ?_
       rintro e w1 ⟨rfl, hb⟩
       replace XA151_0 := XA151_0.go hb
       replace G := G.go hb; clear hb
       refine ⟨_, rfl, G.at_, ?_⟩; intro a' ha; simp only [Act.put, List.setIfInBounds_toArray, List.set_cons_zero, List.set_cons_succ, i64_w, i32_w] at ha; subst ha
       refine rc 20 169 2097151 HT_ rfl rfl (by kernel_rfl) Try.func54 (by kernel_rfl) rfl rfl #[.agg #[.slice A32_1 lc.length c32_1, .int .i64 sc, .int .i64 ec, .string nc], .agg #[.slice A32_0 lb.length c32_0, .int .i64 sb, .int .i64 eb, .string nb], .slice A32_2 ns.length c32_2] (by rfl) (by (try simp only [List.map_toArray, List.map_cons, List.map_nil]); first | done | rfl) ?_
       refine (impl_Together.calls k _ _ lc sc ec nc _ _ lb sb eb nb _ _ ns tt _ G.at_.1.1.1.1.1.1.1.1.1.1.2 HCA32_1.out G.at_.1.1.1.1.1.1.1.1.1.1.1.2 HCA32_0.out G.at_.1.1.1.1.1.1.1.1.1.2 HCA32_2.out F21.out).mono ?_
       rintro e w1 ⟨rfl, hb⟩
       replace XA151_0 := XA151_0.go hb
       replace G := G.go hb; clear hb
       refine ⟨_, rfl, G.at_, ?_⟩; intro a' ha; simp only [Act.put, List.setIfInBounds_toArray, List.set_cons_zero, List.set_cons_succ, i64_w, i32_w] at ha; subst ha
       have hk6_ := K6.out
       refine (pu 21 (some 170) 4194303 ?_ ?_ HT_ rfl rfl (by kernel_rfl) (fun _ _ _ h => h) ?_ ?_ ?_ (pu 22 (some 171) 8388607 ?_ ?_ HT_ rfl rfl (by kernel_rfl) (fun _ _ _ h => h) ?_ ?_ ?_ (pu 23 (some 2) 16777215 ?_ ?_ HT_ rfl rfl (by kernel_rfl) (fun _ _ _ h => h) ?_ ?_ ?_ ?_)))
       all_goals first | (rintro w' ⟨⟨⟨⟨⟨⟨⟨⟨⟨⟨⟨⟨⟨⟨⟨⟨-, -⟩, -⟩, -⟩, -⟩, -⟩, -⟩, -⟩, ⟨s0, s1, s2, s3⟩⟩, ⟨s4, s5, s6, s7⟩⟩, -⟩, -⟩, -⟩, -⟩, -⟩, -⟩, ⟨s8, s9, s10, s11⟩⟩; go_simp; with_reducible rfl) | (intro w'; go_simp; with_reducible rfl) | (simp only [Act.put, List.setIfInBounds_toArray, List.set_cons_zero, List.set_cons_succ, i64_w, i32_w]; rfl) | rfl | skip
       refine done_ (done_of HT_.out (by kernel_rfl)) ?_
       try go_wp2
       go_ret
       exact ⟨rfl, G.at_.1.1.1.1.1.1.1.1.1.1.1.1.1.1.1.1⟩
set_option maxHeartbeats 8000000 in
set_option maxRecDepth 100000 in
theorem laws_FnKeys.early (A0 : Option Addr) (c0 : Nat) (l0 : List Int) (w : World) (hr0 : Kd.C (Kd.int .u8) w A0 l0.length l0) (hc0 : l0.length ≤ c0)
  (F1 : Aside0 (laws_big.f l0 = some true)) :
  Calls Try.prog 5 #[.slice A0 l0.length c0] w fun e w' => e = .returned (.bool true) ∧ Below w.heap.size w w' := by
 have HC0 := aM hc0
 have G := (Gs.below w).add (Gs.row hr0)
 clear hc0 hr0
 go_enter Try.func5, Try.ntmps5
 go_wp2_with (first | ((with_reducible refine gate_callee (f := 8) rfl ?_); refine goesL_ (some 21) rfl rfl Try.func8 (by kernel_rfl) rfl #[.slice A0 l0.length c0] rfl (by (try simp only [List.map_toArray, List.map_cons, List.map_nil]); first | done | rfl) ?_; refine (laws_big.calls _ _ l0 true _ G.at_.2 HC0.out F1.out).mono ?_; rintro e w1 ⟨rfl, hb⟩; refine ⟨_, rfl, ?_⟩; have G1 := (G.go hb.below); clear G hb; have G := G1; clear G1))
 try go_wp2
 go_ret
 exact ⟨rfl, G.at_.1⟩
/-- What each call of the law gives, at rounds k. -/
def laws_FnKeys.Facts (k : Nat) (l0 : List Int) : Prop := laws_big.f l0 = some true ∨ ∃ (la : List (S43)) (by_ : List ByteArray) (ks : List (List (S86))) (lb : List (S86)) (sb : Int) (eb : Int) (nb : ByteArray) (lc : List (S86)) (sc : Int) (ec : Int) (nc : ByteArray) (ns : List ByteArray) (sp : List (S86)) (pp : List ByteArray) (jj : List (S86)) (ob : List ByteArray) (lu : List (S86)) (su : Int) (eu : Int) (nu : ByteArray) (vv : List ByteArray) (kf : Nat → List S86) (tf : Nat → Nat) (tt : Bool) (bo : Bool) (ku : List (S86)),
  (laws_big.f l0 = some false) ∧
  (spec_DrawKeys.f k l0 = some (la, by_)) ∧
  (impl_Keys.f k la by_ = some ks) ∧
  (spec_DrawTogether.f k l0 = some (lb, sb, eb, nb, lc, sc, ec, nc, ns)) ∧
  (spec_DrawProject.f k l0 = some (sp, pp)) ∧
  (impl_Project.f k sp pp = some jj) ∧
  (spec_DrawByOk.f k l0 = some ob) ∧
  (spec_DrawKeyOf.f k l0 = some (lu, su, eu, nu, vv)) ∧
  (impl_Together.f k lb sb eb nb lc sc ec nc ns = some tt) ∧
  (spec_Together.f k lb sb eb nb lc sc ec nc ns = some tt) ∧
  (spec_Project.f k sp pp = some jj) ∧
  (impl_SameSet.f k jj jj = some true) ∧
  (impl_ByOk.f k ob = some bo) ∧
  (spec_ByOk.f k ob = some bo) ∧
  (impl_KeyOf.f k lu su eu nu vv = some ku) ∧
  (spec_KeyOf.f k lu su eu nu vv = some ku) ∧
  (impl_SameSet.f k ku ku = some true) ∧
  (impl_Together.f k lb sb eb nb lb sb eb nb ns = some true) ∧
  (spec_Keys.f k la by_ = some ks) ∧
  (impl_Project.f k jj pp = some jj) ∧
  (impl_Together.f k lc sc ec nc lb sb eb nb ns = some tt) ∧
  (∀ m i : Nat, m < i → i < ks.length → impl_SameSet.f k (rd_L4 ks (m : Int)) (rd_L4 ks (i : Int)) = some false) ∧
  (∀ i : Nat, i < la.length → tf i < ks.length ∧ impl_KeyOf.f k (rd_T43 la (i : Int)).f0 (rd_T43 la (i : Int)).f1 (rd_T43 la (i : Int)).f2 (rd_T43 la (i : Int)).f3 by_ = some (kf i) ∧ (∀ q : Nat, q < tf i → impl_SameSet.f k (rd_L4 ks (q : Int)) (kf i) = some false) ∧ impl_SameSet.f k (rd_L4 ks (tf i : Int)) (kf i) = some true) ∧
  ((tt != tt) = false) ∧
  ((bo != bo) = false) ∧
  (((ks.length : Int) != (ks.length : Int)) = false) ∧
  (decide ((jj.length : Int) ≤ (sp.length : Int)) = true) ∧
  ((tt == tt) = true)
def laws_FnKeys.Pure : Prop := ∀ (l0 : List Int), l0.length ≤ maxLen → l0.length * 1 ≤ 140737488351232 → (∀ x ∈ l0, (Lit.int .u8 x).wf = true) → ∃ k, laws_FnKeys.Facts k l0
theorem laws_FnKeys.walk (P : laws_FnKeys.Pure) (a0 : Option Addr) (len0 cap0 : Nat) (z0 : List Int) (w : World) (w0 : (a0 = none ∧ len0 = 0 ∧ cap0 = 0 ∧ z0 = []) ∨ ∃ x, a0 = some x ∧ len0 ≤ cap0 ∧ cap0 ≤ maxLen ∧ z0.length = cap0 ∧ (∀ i, i < z0.length → w.cell? (x.add i) = some (.int .u8 (z0.getD i 0))) ∧ ∀ n ∈ z0, (Lit.int .u8 n).wf = true) (y0 : len0 * 1 ≤ 140737488351232) :
  Calls Try.prog 5 #[.slice a0 len0 cap0] w fun e w' => e = .returned (.bool true) ∧ Below w.heap.size w w' := by
 obtain ⟨l0, rfl, hr0, hm0, hw0, hc0⟩ := ReadsInt.ofRowC w0
 obtain ⟨k, h⟩ := P l0 hm0 y0 hw0
 have hr := Kd.C_of_reads (d := (0 : Int)) (h1 := fun _ => rfl) hr0
 rcases h with h | h
 · exact laws_FnKeys.early _ _ l0 w hr hc0 ⟨h⟩
 · obtain ⟨la, by_, ks, lb, sb, eb, nb, lc, sc, ec, nc, ns, sp, pp, jj, ob, lu, su, eu, nu, vv, kf, tf, tt, bo, ku, h_0, h_1, h_2, h_3, h_4, h_5, h_6, h_7, h_8, h_9, h_10, h_11, h_12, h_13, h_14, h_15, h_16, h_17, h_18, h_19, h_20, h_21, h_22, h_23, h_24, h_25, h_26, h_27⟩ := h
   exact laws_FnKeys.way k _ _ l0 w hr hc0 la by_ ks lb sb eb nb lc sc ec nc ns sp pp jj ob lu su eu nu vv kf tf tt bo ku ⟨h_0⟩ ⟨h_1⟩ ⟨h_2⟩ ⟨h_3⟩ ⟨h_4⟩ ⟨h_5⟩ ⟨h_6⟩ ⟨h_7⟩ ⟨h_8⟩ ⟨h_9⟩ ⟨h_10⟩ ⟨h_11⟩ ⟨h_12⟩ ⟨h_13⟩ ⟨h_14⟩ ⟨h_15⟩ ⟨h_16⟩ ⟨h_17⟩ ⟨h_18⟩ ⟨h_19⟩ ⟨h_20⟩ ⟨h_21⟩ ⟨h_22⟩ ⟨h_23⟩ ⟨h_24⟩ ⟨h_25⟩ ⟨h_26⟩ ⟨h_27⟩
end Go.Proofs.Ytgindocfjoalhab.PFnKeys
