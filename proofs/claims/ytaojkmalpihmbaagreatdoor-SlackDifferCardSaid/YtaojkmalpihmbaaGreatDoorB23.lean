import Derived.Test.YtaojkmalpihmbaaGreatDoorB22
namespace Go.Proofs.YtaojkmalpihmbaaGreatDoor.M
open Go.RowKit Go.Proofs.YtaojkmalpihmbaaGreatDoorW.PrintWords Go.Proofs.YtaojkmalpihmbaaGreatDoorW.PrintLast Go.Proofs.YtaojkmalpihmbaaGreatDoorW.PrintMore Go.Proofs.YtaojkmalpihmbaaGreatDoor.Q
set_option linter.unusedVariables false
set_option linter.unusedSimpArgs false

/-! just, wider, over. -/
def spanV (s : S44) : Value := .agg #[.int .i64 s.f0, .int .i64 s.f1]
theorem just_calls (n : Int) (w : World) : Calls Tryz.prog 51 #[.int .i64 n] w fun e w' => e = .returned (.agg #[.int .i64 n, .int .i64 n]) ∧ Below w.heap.size w w' := by
  have HB := Aside0.mk (below_alloc (Below.refl w.heap.size w) (.cells #[.int .i64 n, .int .i64 n] 44))
  have HK := Aside0.mk (Blk.new w #[.int .i64 n, .int .i64 n] 44)
  go_enter Tryz.func51, Tryz.ntmps51
  go_wp2
  refine bodyPost_ret (results_cell_row rfl _ _ w.heap.size 44 #[.int .i64 n, .int .i64 n] (0,0) _ (by rfl) HK.out Tryz.underlying44 rfl (by kernel_rfl)) rfl ?_
  exact ⟨rfl, HB.out⟩
def widerS (s m : S44) (first : Bool) : S44 := if first then m else ⟨mn s.f0 m.f0, mx s.f1 m.f1⟩
theorem wider_calls (a b c d : Int) (f : Bool) (w : World) : Calls Tryz.prog 89 #[.agg #[.int .i64 a, .int .i64 b], .agg #[.int .i64 c, .int .i64 d], .bool f] w fun e w' =>
    e = .returned (.agg #[.int .i64 (widerS ⟨a, b⟩ ⟨c, d⟩ f).f0, .int .i64 (widerS ⟨a, b⟩ ⟨c, d⟩ f).f1]) ∧ Below w.heap.size w w' := by
  have hB : ∀ x y : Int, Below w.heap.size w (((w.alloc (.cells #[.int .i64 a, .int .i64 b] 44)).alloc (.cells #[.int .i64 c, .int .i64 d] 44)).alloc (.cells #[.int .i64 x, .int .i64 y] 44)) := fun x y => below_alloc (below_alloc (below_alloc (Below.refl w.heap.size w) _) _) _
  have hK : ∀ x y : Int, Blk (((w.alloc (.cells #[.int .i64 a, .int .i64 b] 44)).alloc (.cells #[.int .i64 c, .int .i64 d] 44)).alloc (.cells #[.int .i64 x, .int .i64 y] 44)) (w.heap.size + 1 + 1) #[.int .i64 x, .int .i64 y] 44 := by
    intro x y
    have h := Blk.new ((w.alloc (.cells #[.int .i64 a, .int .i64 b] 44)).alloc (.cells #[.int .i64 c, .int .i64 d] 44)) #[.int .i64 x, .int .i64 y] 44
    rw [World.size_alloc, World.size_alloc] at h
    exact h
  have HB := Aside0.mk hB
  have HK := Aside0.mk hK
  have hmx := run_max
  have hmn := run_min
  clear hB hK
  rcases f with _ | _
  · go_enter Tryz.func89, Tryz.ntmps89
    go_wp2
    refine bodyPost_ret (results_cell_row rfl _ _ (w.heap.size + 1 + 1) 44 #[.int .i64 (mn a c), .int .i64 (mx b d)] (0,0) _ (by rfl) (HK.out _ _) Tryz.underlying44 rfl (by kernel_rfl)) rfl ?_
    exact ⟨rfl, HB.out _ _⟩
  · go_enter Tryz.func89, Tryz.ntmps89
    go_wp2
    refine bodyPost_ret (results_cell_row rfl _ _ (w.heap.size + 1 + 1) 44 #[.int .i64 c, .int .i64 d] (0,0) _ (by rfl) (HK.out _ _) Tryz.underlying44 rfl (by kernel_rfl)) rfl ?_
    exact ⟨rfl, HB.out _ _⟩
/-- A truth that is read. -/
structure TR (w : World) (A : Option Addr) (c : Nat) (A' : Option Addr) (c' : Nat) (x : S89) : Prop where
  p : IR w A c x.f0
  q : IR w A' c' x.f1
theorem TR.below {w w1 : World} {A : Option Addr} {c : Nat} {A' : Option Addr} {c' : Nat} {x : S89} (h : TR w A c A' c' x) (hb : Below w.heap.size w w1) : TR w1 A c A' c' x := ⟨h.p.below hb, h.q.below hb⟩
theorem at_truth {w : World} {A : Option Addr} {n : Nat} {l : List S89} (h : Kd.C k89 w A n l) {j : Nat} {x : S89} (hx : l[j]? = some x) (hj : j < n) (hl : x.f0.length ≤ 1000 ∧ x.f1.length ≤ 1000) :
    ∃ ad Ap cp Aq cq, A = some ad ∧ w.cell? (ad.add (j * 2)) = some (.slice Ap x.f0.length cp) ∧ w.cell? ⟨(ad.add (j * 2)).block, (ad.add (j * 2)).off + 1, none⟩ = some (.slice Aq x.f1.length cq) ∧ TR w Ap cp Aq cq x := by
  obtain ⟨ad, Ap, cp, Aq, cq, e, h0, h1, l0, g0, l1, g1⟩ := at_T89 h (j : Int) (by omega) (by omega)
  have hd : rd_T89 l (j : Int) = x := by unfold rd_T89; rw [Int.toNat_natCast, List.getD_eq_getElem?_getD, hx]; rfl
  rw [hd, Int.toNat_natCast] at h0 h1
  rw [hd] at l0 g0 l1 g1
  exact ⟨ad, Ap, cp, Aq, cq, e, h0, h1, ⟨g0, l0, hl.1⟩, ⟨g1, l1, hl.2⟩⟩
/-- A function of a truth that makes a span. -/
def OfFn (k : Nat) (cap : Array Value) (w : World) (ok : S89 → Prop) (f : S89 → S44) : Prop :=
  (∀ (args : Array Value) (W : World), (callFunc k args).run Tryz.prog W = .ok (.enter k args) W) ∧ ∀ (x : S89) (W : World) (A : Option Addr) (c : Nat) (A' : Option Addr) (c' : Nat), Below w.heap.size w W → ok x → TR W A c A' c' x →
    Calls Tryz.prog k (#[.agg #[.slice A x.f0.length c, .slice A' x.f1.length c']] ++ cap) W fun e W' => e = .returned (.agg #[.int .i64 (f x).f0, .int .i64 (f x).f1]) ∧ Below W.heap.size W W'
def overL (f : S89 → S44) : List S89 → S44
  | [] => ⟨0, 0⟩
  | x :: l => l.foldl (fun s y => widerS s (f y) false) (f x)
theorem overL_snoc (f : S89 → S44) (l : List S89) (x : S89) : overL f (l ++ [x]) = widerS (overL f l) (f x) (l.length == 0) := by
  cases l with
  | nil => simp [overL, widerS]
  | cons a l => simp [overL, widerS, List.foldl_append]
set_option maxHeartbeats 4000000 in
set_option maxRecDepth 100000 in
theorem over_calls {w : World} {k : Nat} {cap : Array Value} {ok : S89 → Prop} {f : S89 → S44} (HF : OfFn k cap w ok f) (v0 v1 v2 : Value) (hv : ∃ a0 n0 c0 a1 n1 c1 a2 n2 c2, v0 = .slice a0 n0 c0 ∧ v1 = .slice a1 n1 c1 ∧ v2 = .slice a2 n2 c2) {A : Option Addr} {c : Nat} {l : List S89} (hr : Kd.C k89 w A l.length l) (hl : l.length ≤ 1000)
    (hok : ∀ x ∈ l, ok x ∧ x.f0.length ≤ 1000 ∧ x.f1.length ≤ 1000) :
    Calls Tryz.prog 49 #[.agg #[v0, v1, v2, .slice A l.length c], .func (.func k) #[] cap] w fun e W' => e = .returned (.agg #[.int .i64 (overL f l).f0, .int .i64 (overL f l).f1]) ∧ Below w.heap.size w W' := by
  obtain ⟨a0, n0, c0, a1, n1, c1, a2, n2, c2, rfl, rfl, rfl⟩ := hv
  have hB0 := below_alloc (below_alloc (below_alloc (Below.refl w.heap.size w) (.cells #[.slice a0 n0 c0, .slice a1 n1 c1, .slice a2 n2 c2, .slice A l.length c] 84)) (.cells #[.int .i64 0, .int .i64 0] 44)) (.cells #[.int .i64 0, .int .i64 0] 44)
  have HB0 := Aside0.mk hB0
  have hk4 := (Blk.new (w.alloc (.cells #[.slice a0 n0 c0, .slice a1 n1 c1, .slice a2 n2 c2, .slice A l.length c] 84)) #[.int .i64 0, .int .i64 0] 44).alloc (.cells #[.int .i64 0, .int .i64 0] 44)
  have hk5 := Blk.new ((w.alloc (.cells #[.slice a0 n0 c0, .slice a1 n1 c1, .slice a2 n2 c2, .slice A l.length c] 84)).alloc (.cells #[.int .i64 0, .int .i64 0] 44)) #[.int .i64 0, .int .i64 0] 44
  rw [World.size_alloc] at hk4
  rw [World.size_alloc, World.size_alloc] at hk5
  have HK4 := Aside0.mk hk4
  have HK5 := Aside0.mk hk5
  have HR := Aside0.mk hr
  have HOK := Aside0.mk hok
  have HFF := Aside0.mk HF
  have hent := HF.1
  clear hB0 hr hok HF hk4 hk5
  go_enter Tryz.func49, Tryz.ntmps49
  go_wp2
  go_loopg [11] (l.length) (fun k i wr => ∃ (j : Nat) (s : S44), j + k = l.length ∧ i = .int .i64 j ∧ Aside0 (s = overL f (l.take j)) ∧ Aside0 (Blk wr (w.heap.size + 1 + 1) #[.int .i64 s.f0, .int .i64 s.f1] 44) ∧ Aside0 (Blk wr (w.heap.size + 1) #[.int .i64 0, .int .i64 0] 44) ∧ Below w.heap.size w wr ∧ w.heap.size + 1 + 1 < wr.heap.size)
  case atStart => exact ⟨0, ⟨0, 0⟩, by omega, rfl, ⟨rfl⟩, HK5, HK4, HB0.out, by simp⟩
  case round =>
    obtain ⟨j, s, hj, rfl, HS, HA, HBk, hBr, hsz⟩ := hrel
    have hj' : j ≤ l.length := by omega
    have HJ := Aside0.mk hj
    clear hj
    have ha0 := HA.out.cell 0 rfl
    have ha1 := HA.out.cell 1 rfl
    by_cases hlt : j < l.length
    · obtain ⟨x, hx⟩ : ∃ x, l[j]? = some x := ⟨_, List.getElem?_eq_getElem hlt⟩
      obtain ⟨ho1, ho2⟩ := HOK.out x (List.mem_of_getElem? hx)
      obtain ⟨ad, Ap, cp, Aq, cq, rfl, hca, hcb, htr⟩ := at_truth (Kd.C_below HR.out hBr) hx hlt ho2
      have HX := Aside0.mk hx
      have HO := Aside0.mk ho1
      have HTR := Aside0.mk htr
      have hst : (overL f (l.take (j + 1))) = widerS s (f x) ((j : Int) == 0) := by
        rw [List.take_add_one, hx, HS.out]
        have := overL_snoc f (l.take j) x
        rw [List.length_take, Nat.min_eq_left (by omega)] at this
        show overL f (l.take j ++ [x]) = _
        rw [this]
        congr 1
        rw [Bool.eq_iff_iff]
        simp
      have HST := Aside0.mk hst
      clear hx ho1 ho2 htr hst
      go_upto_region 5 with fail
      go_region_with (first | (go_at_call 89; (with_reducible refine (wider_calls _ _ _ _ _ _).mono ?_); rintro e w2 ⟨rfl, hb2⟩; have HA2 := Aside0.mk (HA1.out.below hb2); have HC2 := Aside0.mk (HC1.out.below hb2); have HBB2 := Aside0.mk (bthen HBB1.out hb2); have hq0 := HA2.out.cell 0 rfl; have hq1 := HA2.out.cell 1 rfl; have hqf0 := HA2.out.free 0; have hqf1 := HA2.out.free 1; have hql := HA2.out.lt; clear hb2) | (refine (HFF.out.2 x _ _ _ _ _ ?_ HO.out (TR.below HTR.out ?_)).mono ?_; (repeat (first | exact hBr | apply below_alloc | apply below_drew1)); (repeat (first | exact Below.refl _ _ | apply below_alloc | apply below_drew1)); rintro e w1 ⟨rfl, hb1⟩; have HB1 := Aside0.mk hb1; have HA1 := Aside0.mk (Blk.below (Blk.drew (HA.out.alloc _)) hb1); have HC1 := Aside0.mk (Blk.below (Blk.drew (HBk.out.alloc _)) hb1); have HBB1 := Aside0.mk (bthen (w := w) (below_drew1 (below_alloc hBr _)) hb1); have hz1 := hb1.size; have hp0 := HA1.out.cell 0 rfl; have hp1 := HA1.out.cell 1 rfl; clear hb1))
      all_goals (go_wp2_with fail)
      all_goals (go_roundg (gk - 1))
      all_goals first | (case measure => have := HJ.out; omega) | skip
      all_goals exact ⟨j + 1, widerS s (f x) ((j : Int) == 0), by have := HJ.out; omega, by go_num, ⟨HST.out.symm⟩, ⟨(HA2.out.put 0 _ rfl).put 1 _ rfl⟩, ⟨(HC2.out.far (p := ⟨w.heap.size + 1 + 1, 0, none⟩) (by show w.heap.size + 1 ≠ w.heap.size + 1 + 1; omega) _).far (p := ⟨w.heap.size + 1 + 1, 1, none⟩) (by show w.heap.size + 1 ≠ w.heap.size + 1 + 1; omega) _⟩, below_set (below_set HBB2.out (by omega)) (by omega), by rw [World.size_setCell, World.size_setCell]; exact hql⟩
    · obtain rfl : j = l.length := by omega
      have hb0 := HBk.out.cell 0 rfl
      have hb1 := HBk.out.cell 1 rfl
      have hf0 := HBk.out.free 0
      have hf1 := HBk.out.free 1
      go_wp2
      refine bodyPost_ret (results_cell_row rfl _ _ (w.heap.size + 1) 44 #[.int .i64 s.f0, .int .i64 s.f1] (0,0) _ (by rfl) ((HBk.out.put 0 _ rfl).put 1 _ rfl) Tryz.underlying44 rfl (by kernel_rfl)) rfl ?_
      refine ⟨?_, below_set (below_set hBr (by omega)) (by omega)⟩
      rw [HS.out, List.take_length]
end Go.Proofs.YtaojkmalpihmbaaGreatDoor.M

