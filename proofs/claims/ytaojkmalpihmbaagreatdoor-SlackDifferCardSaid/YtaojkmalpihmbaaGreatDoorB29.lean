import Derived.Test.YtaojkmalpihmbaaGreatDoorB28
import Derived.Maps.RangeWalk
import Derived.Maps.OwnOps
import Derived.Maps.Views
import Derived.Test.YtaojkmalpihmbaaGreatDoorB06
namespace Go.Proofs.YtaojkmalpihmbaaGreatDoor.M
open Go.RowKit Go.Proofs.YtaojkmalpihmbaaGreatDoorW.PrintWords Go.Proofs.YtaojkmalpihmbaaGreatDoorW.PrintLast Go.Proofs.YtaojkmalpihmbaaGreatDoorW.PrintMore Go.Proofs.YtaojkmalpihmbaaGreatDoor.Q
set_option linter.unusedVariables false
set_option linter.unusedSimpArgs false

/-! left: a map of how often each place stands; plain. -/
def keyI (x : Int) : Lit := .int .i64 x
theorem keyI_key (x : Int) : WideAt.IsKeyLit (keyI x) := trivial
theorem keyI_inj {x y : Int} (h : keyI x = keyI y) : x = y := by injection h
theorem keyI_same (x y : Int) : (keyI x).sameKey (keyI y) = (x == y) := by
  by_cases h : x = y
  · subst h
    rw [WideAt.sameKey_self (keyI_key x)]
    simp
  · rw [Maps.sameKey_ne (fun e => h (keyI_inj e))]
    simpa using h
structure Counts (D : DataW Unit) (V : List Int) : Prop where
  m : Maps.IsMap D
  c : ∀ x, D.atKey (keyI x) (.lit (.int .i64 0)) = .lit (.int .i64 (V.count x))
  h : ∀ x, Maps.has D (keyI x) = V.contains x
theorem Counts.none : Counts (.map []) [] := ⟨Maps.isMap_empty, fun x => rfl, fun x => rfl⟩
theorem Counts.step {D : DataW Unit} {V : List Int} (h : Counts D V) (v : Int) : Counts (D.put (keyI v) (.lit (.int .i64 ((V.count v : Int) + 1)))) (V ++ [v]) := by
  refine ⟨h.m.put _ _, fun x => ?_, fun x => ?_⟩
  · by_cases e : x = v
    · subst e
      rw [Maps.atKey_put_same h.m (keyI_key x)]
      simp
    · rw [Maps.atKey_put_other (fun k => e (keyI_inj k)), h.c]
      simp [List.count_append, List.count_singleton, Ne.symm e]
  · by_cases e : x = v
    · subst e
      rw [Maps.has_put_same h.m (keyI_key x)]
      simp
    · rw [Maps.has_put_other (fun k => e (keyI_inj k)), h.h]
      simp [e]
def inR (lo hi v : Int) : Bool := inB v lo hi
def SumIs (left : Lit → Bool) (V : List Int) (lo hi n : Int) : Prop := n = ((V.filter fun v => inR lo hi v && !left (keyI v)).length : Int)
theorem SumIs.start {D : DataW Unit} {V : List Int} (h : Counts D V) (lo hi : Int) : SumIs (Maps.has D) V lo hi 0 := by
  unfold SumIs
  have : (V.filter fun v => inR lo hi v && !Maps.has D (keyI v)) = [] := by
    rw [List.filter_eq_nil_iff]
    intro v hv
    rw [h.h]
    simp [hv]
  rw [this]
  rfl
theorem SumIs.bound {left : Lit → Bool} {V : List Int} {lo hi n : Int} (h : SumIs left V lo hi n) : 0 ≤ n ∧ n ≤ V.length := by
  unfold SumIs at h
  have := List.length_filter_le (fun v => inR lo hi v && !left (keyI v)) V
  omega
theorem filter_step (r l : Int → Bool) (x : Int) (hx : l x = true) : ∀ V : List Int, (V.filter fun v => r v && !(l v && !(v == x))).length = (V.filter fun v => r v && !l v).length + if r x then V.count x else 0
  | [] => by simp
  | v :: V => by
    have h := filter_step r l x hx V
    by_cases e : v = x
    · subst e
      cases hr : r v <;> simp [List.filter_cons, hr, hx, h] at h ⊢
      · exact h
      · omega
    · have e2 : (v == x) = false := by simpa using e
      cases hr : r v <;> cases hl : l v <;> simp [List.filter_cons, hr, hl, e2, List.count_cons, e] at h ⊢ <;> omega
theorem SumIs.step {left : Lit → Bool} {V : List Int} {lo hi n x : Int} (h : SumIs left V lo hi n) (hx : left (keyI x) = true) : SumIs (fun z => left z && !z.sameKey (keyI x)) V lo hi (if inR lo hi x then n + (V.count x : Int) else n) := by
  unfold SumIs at h ⊢
  have h1 := filter_step (inR lo hi) (fun v => left (keyI v)) x hx V
  simp only [keyI_same]
  rw [h1, h]
  split <;> simp
def winN (V : List Int) (lo hi : Int) : Int := ((V.filter fun v => inR lo hi v).length : Int)
theorem SumIs.done {left : Lit → Bool} {V : List Int} {lo hi n : Int} (h : SumIs left V lo hi n) (hl : ∀ k, left k = false) : n = winN V lo hi := by
  unfold SumIs at h
  unfold winN
  rw [h]
  congr 2
  exact List.filter_congr (fun v _ => by simp [hl])
def MaxIs (left : Lit → Bool) (V : List Int) (f : Int → Int) (m : Int) : Prop := 0 ≤ m ∧ (∀ v ∈ V, left (keyI v) = false → f v ≤ m) ∧ (m = 0 ∨ ∃ v ∈ V, left (keyI v) = false ∧ f v = m)
theorem MaxIs.start {D : DataW Unit} {V : List Int} (h : Counts D V) (f : Int → Int) : MaxIs (Maps.has D) V f 0 := by
  refine ⟨by omega, fun v hv hl => ?_, .inl rfl⟩
  rw [h.h] at hl
  simp [hv] at hl
theorem MaxIs.step {left : Lit → Bool} {V : List Int} {f : Int → Int} {m x : Int} (h : MaxIs left V f m) (hx : x ∈ V) : MaxIs (fun z => left z && !z.sameKey (keyI x)) V f (mx m (f x)) := by
  obtain ⟨h1, h2, h3⟩ := h
  have e : ∀ v, (left (keyI v) && !(keyI v).sameKey (keyI x)) = false ↔ left (keyI v) = false ∨ v = x := by
    intro v
    rw [keyI_same]
    by_cases hv : v = x <;> simp [hv]
  unfold mx
  refine ⟨by split <;> omega, fun v hv hl => ?_, ?_⟩
  · rcases (e v).1 hl with hl | rfl
    · have := h2 v hv hl
      split <;> omega
    · split <;> omega
  · split
    · exact .inr ⟨x, hx, (e x).2 (.inr rfl), rfl⟩
    · rcases h3 with h3 | ⟨v, hv, hl, hf⟩
      · exact .inl h3
      · exact .inr ⟨v, hv, (e v).2 (.inl hl), hf⟩
def leftN (V : List Int) (off : Int) : Int := V.foldl (fun m v => max m (winN V v (v + 2 * off))) 0
theorem foldl_max (f : Int → Int) : ∀ (V : List Int) (m : Int), m ≤ V.foldl (fun m v => max m (f v)) m ∧ (∀ v ∈ V, f v ≤ V.foldl (fun m v => max m (f v)) m) ∧ (V.foldl (fun m v => max m (f v)) m = m ∨ ∃ v ∈ V, f v = V.foldl (fun m v => max m (f v)) m)
  | [], m => by simp
  | a :: V, m => by
    obtain ⟨h1, h2, h3⟩ := foldl_max f V (max m (f a))
    simp only [List.foldl_cons]
    refine ⟨by omega, fun v hv => ?_, ?_⟩
    · rcases List.mem_cons.1 hv with rfl | hv
      · omega
      · exact h2 v hv
    · rcases h3 with h3 | ⟨v, hv, h3⟩
      · rw [h3]
        rcases Int.le_total m (f a) with h | h
        · exact .inr ⟨a, List.mem_cons_self .., by omega⟩
        · exact .inl (by omega)
      · exact .inr ⟨v, List.mem_cons_of_mem _ hv, h3⟩
theorem MaxIs.done {left : Lit → Bool} {V : List Int} {off m : Int} (h : MaxIs left V (fun v => winN V v (v + 2 * off)) m) (hl : ∀ k, left k = false) : m = leftN V off := by
  obtain ⟨h1, h2, h3⟩ := h
  obtain ⟨g1, g2, g3⟩ := foldl_max (fun v => winN V v (v + 2 * off)) V 0
  unfold leftN
  have a1 : m ≤ V.foldl (fun m v => max m (winN V v (v + 2 * off))) 0 := by
    rcases h3 with h3 | ⟨v, hv, _, hf⟩
    · omega
    · rw [← hf]; exact g2 v hv
  have a2 : V.foldl (fun m v => max m (winN V v (v + 2 * off))) 0 ≤ m := by
    rcases g3 with g3 | ⟨v, hv, hf⟩
    · omega
    · rw [← hf]; exact h2 v hv (hl _)
  omega

theorem lawI : Maps.Keyed Tryz.prog 3 := Maps.int_keyed Tryz.underlying3
theorem zeroI (w : World) : (zeroValue 3).run Tryz.prog w = .ok (.int .i64 0) w := by kernel_rfl
def placeV (a : Nat) (l : List S89) : List Int := l.map fun x => x.f1.getD a 0
theorem below_grown {n : Nat} {w0 W w1 : World} {b : Nat} (h : Below n w0 W) (hn : n ≤ b) (hs : n ≤ W.heap.size) (hg : W.grownBy w1 (some b)) : Below n w0 w1 := h.grown hg hs (fun j hj => by cases hj; exact hn)
theorem wfI {x : Int} (h1 : -100000 ≤ x) (h2 : x ≤ 100000) : (Lit.int .i64 x).wf = true := WalkArith.wf_i64 (by omega)
set_option maxHeartbeats 4000000 in
set_option maxRecDepth 100000 in
theorem left_calls {w : World} (v0 v1 v2 : Value) (hv : ∃ a0 n0 c0 a1 n1 c1 a2 n2 c2, v0 = .slice a0 n0 c0 ∧ v1 = .slice a1 n1 c1 ∧ v2 = .slice a2 n2 c2) {A : Option Addr} {c : Nat} {l : List S89} (hr : Kd.C k89 w A l.length l) (hl : l.length ≤ 1000) (a : Nat)
    (hok : ∀ x ∈ l, nearT a x ∧ x.f0.length ≤ 1000 ∧ x.f1.length ≤ 1000) (off : Int) (h1 : 0 ≤ off) (h2 : off ≤ 50) :
    Calls Tryz.prog 84 #[.agg #[v0, v1, v2, .slice A l.length c], .int .i64 a, .int .i64 off] w fun e w' => e = .returned (.int .i64 (leftN (placeV a l) off)) ∧ Below w.heap.size w w' := by
  obtain ⟨a0, n0, c0, a1, n1, c1, a2, n2, c2, rfl, rfl, rfl⟩ := hv
  have hmm := @run_makeMap Tryz.prog
  have hmx := run_max
  have HR := Aside0.mk hr
  have HOK := Aside0.mk hok
  obtain ⟨V, hV⟩ : ∃ V, V = placeV a l := ⟨_, rfl⟩
  have hVl : V.length = l.length := by rw [hV]; simp [placeV]
  have HVB : Aside0 (∀ v ∈ V, -100000 ≤ v ∧ v ≤ 100000) := ⟨by
    intro v hv
    rw [hV] at hv
    simp only [placeV, List.mem_map] at hv
    obtain ⟨x, hx, rfl⟩ := hv
    have hn := (hok x hx).1
    obtain ⟨u, hu⟩ : ∃ u, x.f1[a]? = some u := ⟨_, List.getElem?_eq_getElem hn.1⟩
    rw [List.getD_eq_getElem?_getD, hu]
    exact hn.2 u hu⟩
  have HV := Aside0.mk hV
  have HVL := Aside0.mk hVl
  have HMA := Aside0.mk (World.ownsMap_made (H := Unit) (w.alloc (.cells #[.slice a0 n0 c0, .slice a1 n1 c1, .slice a2 n2 c2, .slice A l.length c] 84)) Tryz.prog 3 (plainElem Tryz.prog 3))
  have HB0 := Aside0.mk (below_alloc (below_alloc (Below.refl w.heap.size w) (.cells #[.slice a0 n0 c0, .slice a1 n1 c1, .slice a2 n2 c2, .slice A l.length c] 84)) (.map #[] 0))
  have HK0 := Aside0.mk ((Blk.new w #[.slice a0 n0 c0, .slice a1 n1 c1, .slice a2 n2 c2, .slice A l.length c] 84).alloc (.map #[] 0))
  have hq := HK0.out.cell 3 rfl
  clear hr hok hV hVl
  go_enter Tryz.func84, Tryz.ntmps84
  go_wp2
  go_loopg [19] (l.length) (fun k i wr => ∃ (j : Nat) (D : DataW Unit), j + k = l.length ∧ i = .int .i64 j ∧ Aside0 (Counts D (V.take j)) ∧ Aside0 (wr.ownsMap Tryz.prog 3 (plainElem Tryz.prog 3) (w.heap.size + 1) j D) ∧ Below w.heap.size w wr ∧ w.heap.size + 1 < wr.heap.size)
  case atStart => exact ⟨0, _, by omega, rfl, ⟨Counts.none⟩, ⟨by have h := HMA.out; rw [World.size_alloc] at h; exact h⟩, HB0.out, by simp⟩
  case round =>
    obtain ⟨j, D, hj, rfl, HC, HM, hBr, hsz⟩ := hrel
    have hj' : j ≤ l.length := by omega
    have HJ := Aside0.mk hj
    clear hj
    by_cases hlt : j < l.length
    · obtain ⟨x, hx⟩ : ∃ x, l[j]? = some x := ⟨_, List.getElem?_eq_getElem hlt⟩
      obtain ⟨hn1, hn2⟩ := HOK.out x (List.mem_of_getElem? hx)
      obtain ⟨v, hv⟩ : ∃ v, x.f1[a]? = some v := ⟨_, List.getElem?_eq_getElem hn1.1⟩
      obtain ⟨hva, hvb⟩ := hn1.2 v hv
      obtain ⟨ad, Ap, cp, Aq, cq, rfl, hca, hcb, htr⟩ := at_truth (Kd.C_below HR.out hBr) hx hlt hn2
      obtain ⟨bd, rfl, hcv⟩ := at_int htr.q.r hv hn1.1
      have hal := hn1.1
      have haL : x.f1.length ≤ 1000 := hn2.2
      have hcvA : ∀ o : Obj, (wr.alloc o).cell? (bd.add a) = some (.int .i64 v) := fun o => pw_cell_below (below_alloc (Below.refl _ _) o) hcv
      have hVj : V[j]? = some v := by rw [HV.out]; simp [placeV, hx, List.getD_eq_getElem?_getD, hv]
      have HVJ := Aside0.mk hVj
      have hcnt : (V.take j).count v ≤ 1000 := Nat.le_trans List.count_le_length (by rw [List.length_take]; omega)
      clear hx hn1 hn2 hv htr hVj
      go_wp2_with (first
        | (at_lookup; refine wpList_lookup_own_int _ rfl _ _ 149 rfl 3 3 .i64 lawI Tryz.underlying149 Tryz.underlying3 (zeroI _) (w.heap.size + 1) j _ rfl (HM.out.alloc _) _ (keyI v) rfl (Maps.keyOf_int_mk Tryz.underlying3 (wfI hva hvb)) ?_; intro cc hat hwc; have hcc : cc = ((V.take j).count v : Int) := (by have := HC.out.c v; rw [hat] at this; injection this with this; injection this); subst hcc; clear hat hwc)
        | (at_mapUpdate; refine wpList_mapUpdate_own _ rfl _ _ _ 149 rfl 3 3 lawI Tryz.underlying149 (plainElem Tryz.prog 3) (w.heap.size + 1) j _ rfl (HM.out.alloc _) (by unfold maxLen; omega) _ _ (keyI v) rfl rfl (Maps.keyOf_int_mk Tryz.underlying3 (wfI hva hvb)) _ [] (plainElem_int Tryz.underlying3 (WalkArith.wf_i64 (by omega))) ?_; intro w1 hown1 hgrow1; have HO1 := Aside0.mk hown1; have HG1 := Aside0.mk hgrow1; clear hown1 hgrow1))
      go_roundg (gk - 1)
      case measure => have := HJ.out; omega
      case rel =>
        have hs1 := HG1.out.size
        simp only [World.size_alloc] at hs1
        refine ⟨j + 1, _, by have := HJ.out; omega, by go_num, ⟨?_⟩, HO1, below_grown (below_alloc hBr _) (by omega) (by have := hBr.size; simp only [World.size_alloc]; omega) HG1.out, by omega⟩
        rw [List.take_add_one, HVJ.out]
        exact HC.out.step v
    · obtain rfl : j = l.length := by omega
      have hct := HC.out
      have hVL := HVL.out
      rw [← hVL, List.take_length] at hct
      have HCT := Aside0.mk hct
      have HMW := Aside0.mk HM.out
      have hb0 := hsz
      clear hct hVL
      go_wp2_with (first
        | (at_range; refine wpList_range_own _ rfl _ 149 rfl 3 3 lawI Tryz.underlying149 _ (w.heap.size + 1) l.length _ rfl HMW.out ?_; intro w0 hrg0 hg0 hs0; have HRG0 := Aside0.mk hrg0; have HG0 := Aside0.mk hg0; have HS0 := Aside0.mk hs0; clear hrg0 hg0 hs0)
        | go_in)
      go_frame
      obtain ⟨wa, rfl⟩ : ∃ wa : World, wa = wr := ⟨_, rfl⟩
      have hsw0 : wa.heap.size < w0.heap.size := by have := HS0.out; omega
      have HBW0 := Aside0.mk (show Below w.heap.size w w0 from hBr.trans ⟨HG0.out.os, HG0.out.tape, HG0.out.output, HG0.out.size, fun k hk => HG0.out.block k (by have := hBr.size; omega) (by simp)⟩)
      clear hsz
      go_loopg [10] (Maps.size D) (fun k i W => ∃ (left : Lit → Bool) (m : Int), i = .int .i64 m ∧ Aside0 (W.ranges Tryz.prog 3 (plainElem Tryz.prog 3) (w.heap.size + 1) wa.heap.size l.length D left k) ∧ Aside0 (MaxIs left V (fun v => winN V v (v + 2 * off)) m) ∧ Aside0 (∀ x, left (keyI x) = true → V.contains x = true) ∧ Below w.heap.size w W ∧ wa.heap.size < W.heap.size)
      case atStart => exact ⟨_, 0, rfl, HRG0, ⟨MaxIs.start HCT.out _⟩, ⟨fun x hx => by rw [← HCT.out.h]; exact hx⟩, HBW0.out, hsw0⟩
      case round =>
        obtain ⟨wo, rfl⟩ : ∃ wo : World, wo = wr := ⟨_, rfl⟩
        obtain ⟨ko, rfl⟩ : ∃ ko : Nat, ko = gk := ⟨_, rfl⟩
        obtain ⟨left, m, rfl, HRG, HMX, HLF, hBo, hso⟩ := hrel
        go_wp2_with (first
          | (at_next; refine wpList_next_ranges_ii _ rfl _ rfl 3 3 .i64 .i64 lawI Tryz.underlying3 Tryz.underlying3 (w.heap.size + 1) wa.heap.size l.length _ _ _ rfl HRG.out ?_ ?_)
          | go_in)
        · intro _ hl0
          have HQ := Aside0.mk (HMX.out.done hl0)
          clear hl0
          go_wp2
          go_ret
          exact ⟨by rw [HQ.out, HV.out]; rfl, hBo⟩
        · intro x cc w1 cnt1 hwx hwc hlx hat hrg1 hlt1 hg1 hs1 hen
          have HAT := Aside0.mk hat
          have HLX := Aside0.mk hlx
          have HRG1 := Aside0.mk hrg1
          have HG1 := Aside0.mk hg1
          have HS1 := Aside0.mk hs1
          have HLT1 := Aside0.mk hlt1
          clear hat hlx hrg1 hg1 hs1 hlt1 hwx hwc
          have hxV : x ∈ V := by have := HLF.out x HLX.out; simpa using this
          obtain ⟨hxa, hxb⟩ := HVB.out x hxV
          have HXV := Aside0.mk hxV
          have hB1 : Below w.heap.size w w1 := below_grown hBo (Nat.le_of_lt (Nat.lt_of_succ_lt hb0)) (by omega) HG1.out
          have hs1 : wa.heap.size < w1.heap.size := by have := HS1.out; omega
          have HB1 := Aside0.mk hB1
          clear hxV hB1
          go_wp2_with (first
            | (at_range; refine wpList_range_own _ rfl _ 149 rfl 3 3 lawI Tryz.underlying149 _ (w.heap.size + 1) l.length _ rfl HRG1.out.owns ?_; intro w2 hrg2 hg2 hs2; have HRG2 := Aside0.mk hrg2; have HG2 := Aside0.mk hg2; have HS2 := Aside0.mk hs2; clear hrg2 hg2 hs2)
            | go_in)
          go_frame
          have hB2 : Below w.heap.size w w2 := HB1.out.trans ⟨HG2.out.os, HG2.out.tape, HG2.out.output, HG2.out.size, fun k hk => HG2.out.block k (by have := HB1.out.size; omega) (by simp)⟩
          have HRO := Aside0.mk (HRG1.out.kept HG2.out (by simp) (by simp))
          have hs2 : w1.heap.size < w2.heap.size := by have := HS2.out; omega
          have HB2 := Aside0.mk hB2
          clear hB2 hen
          go_loopg [12] (Maps.size D) (fun k i W => ∃ (lf : Lit → Bool) (n : Int), i = .int .i64 n ∧ Aside0 (W.ranges Tryz.prog 3 (plainElem Tryz.prog 3) (w.heap.size + 1) w1.heap.size l.length D lf k) ∧ Aside0 (SumIs lf V x (x + 2 * off) n) ∧ Aside0 (W.ranges Tryz.prog 3 (plainElem Tryz.prog 3) (w.heap.size + 1) wa.heap.size l.length D (fun z => left z && !z.sameKey (Lit.int .i64 x)) cnt1) ∧ Below w.heap.size w W ∧ w1.heap.size < W.heap.size)
          case atStart => exact ⟨_, 0, rfl, HRG2, ⟨SumIs.start HCT.out _ _⟩, HRO, HB2.out, hs2⟩
          case round =>
            obtain ⟨wi, rfl⟩ : ∃ wi : World, wi = wr := ⟨_, rfl⟩
            obtain ⟨lf, n, rfl, HRI, HSI, HRO2, hBi, hsi⟩ := hrel
            have hnb := HSI.out.bound
            have hVl := HVL.out
            obtain ⟨hnb1, hnb2⟩ := hnb
            have hnb3 : n ≤ 1000 := by omega
            clear hVl hnb2
            go_wp2_with (first
              | (at_next; refine wpList_next_ranges_ii _ rfl _ rfl 3 3 .i64 .i64 lawI Tryz.underlying3 Tryz.underlying3 (w.heap.size + 1) w1.heap.size l.length _ _ _ rfl HRI.out ?_ ?_)
              | go_in)
            · intro _ hl0
              have HQ := Aside0.mk (HSI.out.done hl0)
              clear hl0
              go_wp2
              go_roundg cnt1
              case measure => exact HLT1.out
              case rel =>
                refine ⟨_, _, rfl, HRO2, ⟨?_⟩, ⟨fun y hy => HLF.out y (by simp at hy; exact hy.1)⟩, hBi, by omega⟩
                have := HMX.out.step HXV.out
                rw [← HQ.out] at this
                exact this
            · intro y cy w3 cnt3 hwy hwcy hly hat3 hrg3 hlt3 hg3 hs3 hen3
              have HLY := Aside0.mk hly
              have HRG3 := Aside0.mk hrg3
              have HG3 := Aside0.mk hg3
              have HS3 := Aside0.mk hs3
              have HLT3 := Aside0.mk hlt3
              have hcy : cy = (V.count y : Int) := by
                have h9 := hat3 (.lit (.int .i64 0))
                have h8 := HCT.out.c y
                unfold keyI at h8
                rw [h8] at h9
                injection h9 with h9
                injection h9 with _ h9
                exact h9.symm
              have hcl : V.count y ≤ 1000 := Nat.le_trans List.count_le_length (by have := HVL.out; omega)
              have hcy1 : 0 ≤ cy := by omega
              have hcy2 : cy ≤ 1000 := by omega
              have HCY := Aside0.mk hcy
              have hB3 : Below w.heap.size w w3 := below_grown hBi (by omega) (by omega) hg3
              have HRO3 := Aside0.mk (HRO2.out.kept hg3 (by simp; omega) (by simp; omega))
              clear hly hat3 hrg3 hg3 hs3 hlt3 hwy hwcy hcy
              rcases hin : inB y x (x + 2 * off) with _ | _
              · have HIN := Aside0.mk hin
                clear hin
                go_wp2_with (go_at_call 76; (with_reducible refine (in_calls _ _ _ _).mono ?_); rintro e wq ⟨rfl, rfl⟩; rw [HIN.out])
                go_roundg cnt3
                case measure => exact HLT3.out
                case rel =>
                  refine ⟨_, n, rfl, HRG3, ⟨?_⟩, HRO3, hB3, by have := HS3.out; omega⟩
                  have := HSI.out.step HLY.out
                  rw [show inR x (x + 2 * off) y = false from HIN.out] at this
                  exact this
              · have HIN := Aside0.mk hin
                clear hin
                go_wp2_with (go_at_call 76; (with_reducible refine (in_calls _ _ _ _).mono ?_); rintro e wq ⟨rfl, rfl⟩; rw [HIN.out])
                go_roundg cnt3
                case measure => exact HLT3.out
                case rel =>
                  refine ⟨_, n + cy, rfl, HRG3, ⟨?_⟩, HRO3, hB3, by have := HS3.out; omega⟩
                  have := HSI.out.step HLY.out
                  rw [show inR x (x + 2 * off) y = true from HIN.out, ← HCY.out] at this
                  exact this
end Go.Proofs.YtaojkmalpihmbaaGreatDoor.M

namespace Go.Proofs.YtaojkmalpihmbaaGreatDoor.M
open Go.RowKit Go.Proofs.YtaojkmalpihmbaaGreatDoorW.PrintWords Go.Proofs.YtaojkmalpihmbaaGreatDoorW.PrintLast Go.Proofs.YtaojkmalpihmbaaGreatDoorW.PrintMore Go.Proofs.YtaojkmalpihmbaaGreatDoor.Q
set_option linter.unusedVariables false
set_option linter.unusedSimpArgs false

/-! The kinds of two structs more, as wip/pr.py prints them. -/
theorem info109 : (Tryz.prog.info? 109).map (fun i => (i.zero, i.size, i.bytes)) = some (some (.agg #[(.slice none 0 0), (.int .i64 0)]), 2, 32) := by kernel_rfl
theorem info116 : (Tryz.prog.info? 116).map (fun i => (i.zero, i.size, i.bytes)) = some (some (.agg #[(.int .i64 0), (.int .i64 0)]), 2, 16) := by kernel_rfl
/-! #### struct of a renewal -/
structure S109 where
  f0 : (List Int)
  f1 : Int
def z109 : S109 := ⟨([] : List Int), (0 : Int)⟩
def k109 : Kd S109 := Kd.iso (Kd.pair (Kd.slice 3 (Kd.int .i64)) (Kd.int .i64)) (fun x : S109 => (x.f0, x.f1))
theorem k109_open {w : World} {x : S109} {cs : List Value} (h : k109.K w x cs) : ∃ A0 c0, cs = [.slice A0 x.f0.length c0, .int .i64 x.f1] ∧ x.f0.length ≤ c0 ∧ (Kd.int .i64).C w A0 x.f0.length x.f0 := by
  obtain ⟨_, _, rfl, ⟨A0, c0, rfl, l0, g0⟩, rfl⟩ := h
  exact ⟨A0, c0, rfl, l0, g0⟩
theorem k109_openM {w : World} {base : Nat} {ok : Nat → Prop} {x : S109} {cs : List Value} (h : k109.M w base ok x cs) : ∃ v0, cs = [v0, .int .i64 x.f1] ∧ (Kd.int .i64).R 3 w base ok v0 x.f0 := by
  obtain ⟨_, _, rfl, ⟨v0, rfl, g0⟩, rfl⟩ := h
  exact ⟨v0, rfl, g0⟩
theorem k109_mk (w : World) (x : S109) {A0 : Option Addr} {c0 : Nat} (l0 : x.f0.length ≤ c0) (g0 : (Kd.int .i64).C w A0 x.f0.length x.f0) : k109.K w x [.slice A0 x.f0.length c0, .int .i64 x.f1] := ⟨[.slice A0 x.f0.length c0], [.int .i64 x.f1], rfl, ⟨A0, c0, rfl, l0, g0⟩, rfl⟩
theorem k109_mkM (w : World) (base : Nat) (ok : Nat → Prop) (x : S109) {v0 : Value} (g0 : (Kd.int .i64).R 3 w base ok v0 x.f0) : k109.M w base ok x [v0, .int .i64 x.f1] := ⟨[v0], [.int .i64 x.f1], rfl, ⟨v0, rfl, g0⟩, rfl⟩
theorem k109_openF {W : World} {ok : Nat → Prop} {x : S109} {cs : List Value} (h : Kd.FK k109 W ok x cs) : ∃ A0 c0, cs = [.slice A0 x.f0.length c0, .int .i64 x.f1] ∧ x.f0.length ≤ c0 ∧ Kd.F (Kd.int .i64) W ok A0 x.f0.length x.f0 := by
  obtain ⟨A0, c0, rfl, l0, _⟩ := k109_open (Kd.FK_now h)
  exact ⟨A0, c0, rfl, l0, (fun W' hW => by obtain ⟨A0_, c0_, he, l0_, g0_⟩ := k109_open (h W' hW); injection (Option.some.inj (show some (Value.slice A0 x.f0.length c0) = some (Value.slice A0_ x.f0.length c0_) from congrArg (fun l => l[0]?) he)) with ha_ _ _; rw [ha_]; exact g0_)⟩
theorem k109_mkF (W : World) (ok : Nat → Prop) (x : S109) {A0 : Option Addr} {c0 : Nat} (l0 : x.f0.length ≤ c0) (g0 : Kd.F (Kd.int .i64) W ok A0 x.f0.length x.f0) : Kd.FK k109 W ok x [.slice A0 x.f0.length c0, .int .i64 x.f1] := fun W2 hW => k109_mk W2 x l0 (g0 W2 hW)
def rd_T109 (xs : List S109) (i : Int) : S109 := xs.getD i.toNat z109
theorem at_T109 {w : World} {A : Option Addr} {n : Nat} {xs : List S109} (h : Kd.C k109 w A n xs) (i : Int) (h0 : 0 ≤ i) (h1 : i < n) : ∃ ad A0 c0, A = some ad ∧ w.cell? (ad.add (i.toNat * 2)) = some (.slice A0 (rd_T109 xs i).f0.length c0) ∧ w.cell? ⟨(ad.add (i.toNat * 2)).block, (ad.add (i.toNat * 2)).off + 1, none⟩ = some (.int .i64 (rd_T109 xs i).f1) ∧ (rd_T109 xs i).f0.length ≤ c0 ∧ (Kd.int .i64).C w A0 (rd_T109 xs i).f0.length (rd_T109 xs i).f0 := by
  obtain ⟨ad, c, e, _, hK, hc0⟩ := Kd.C_get h z109 i h0 h1
  have hc : ∀ j u, c[j]? = some u → w.cell? (ad.add (i.toNat * 2 + j)) = some u := hc0
  obtain ⟨A0, c0, rfl, l0, g0⟩ := k109_open hK
  exact ⟨ad, A0, c0, e, hc 0 _ rfl, by rw [← add_field _ _ 1 (by omega)]; exact hc 1 _ rfl, l0, g0⟩

/-! #### struct of a look -/
structure S116 where
  f0 : Int
  f1 : Int
def z116 : S116 := ⟨(0 : Int), (0 : Int)⟩
def k116 : Kd S116 := Kd.iso (Kd.pair (Kd.int .i64) (Kd.int .i64)) (fun x : S116 => (x.f0, x.f1))
theorem k116_open {w : World} {x : S116} {cs : List Value} (h : k116.K w x cs) : cs = [.int .i64 x.f0, .int .i64 x.f1] := by
  obtain ⟨_, _, rfl, rfl, rfl⟩ := h
  exact rfl
theorem k116_openM {w : World} {base : Nat} {ok : Nat → Prop} {x : S116} {cs : List Value} (h : k116.M w base ok x cs) : cs = [.int .i64 x.f0, .int .i64 x.f1] := by
  obtain ⟨_, _, rfl, rfl, rfl⟩ := h
  exact rfl
theorem k116_mk (w : World) (x : S116)  : k116.K w x [.int .i64 x.f0, .int .i64 x.f1] := ⟨[.int .i64 x.f0], [.int .i64 x.f1], rfl, rfl, rfl⟩
theorem k116_mkM (w : World) (base : Nat) (ok : Nat → Prop) (x : S116)  : k116.M w base ok x [.int .i64 x.f0, .int .i64 x.f1] := ⟨[.int .i64 x.f0], [.int .i64 x.f1], rfl, rfl, rfl⟩
theorem k116_mkF (W : World) (ok : Nat → Prop) (x : S116) : Kd.FK k116 W ok x [.int .i64 x.f0, .int .i64 x.f1] := fun W2 _ => k116_mk W2 x
def rd_T116 (xs : List S116) (i : Int) : S116 := xs.getD i.toNat z116
theorem at_T116 {w : World} {A : Option Addr} {n : Nat} {xs : List S116} (h : Kd.C k116 w A n xs) (i : Int) (h0 : 0 ≤ i) (h1 : i < n) : ∃ ad , A = some ad ∧ w.cell? (ad.add (i.toNat * 2)) = some (.int .i64 (rd_T116 xs i).f0) ∧ w.cell? ⟨(ad.add (i.toNat * 2)).block, (ad.add (i.toNat * 2)).off + 1, none⟩ = some (.int .i64 (rd_T116 xs i).f1) := by
  obtain ⟨ad, c, e, _, hK, hc0⟩ := Kd.C_get h z116 i h0 h1
  have hc : ∀ j u, c[j]? = some u → w.cell? (ad.add (i.toNat * 2 + j)) = some u := hc0
  obtain rfl := k116_open hK
  exact ⟨ad, e, hc 0 _ rfl, by rw [← add_field _ _ 1 (by omega)]; exact hc 1 _ rfl⟩

end Go.Proofs.YtaojkmalpihmbaaGreatDoor.M

