import Derived.Test.YtaojkmalpihmbaaGreatDoorB28
namespace Go.Proofs.YtaojkmalpihmbaaGreatDoor.M
open Go.RowKit Go.Proofs.YtaojkmalpihmbaaGreatDoorW.PrintWords Go.Proofs.YtaojkmalpihmbaaGreatDoorW.PrintLast Go.Proofs.YtaojkmalpihmbaaGreatDoorW.PrintMore Go.Proofs.YtaojkmalpihmbaaGreatDoor.Q
set_option linter.unusedVariables false
set_option linter.unusedSimpArgs false

/-! Apart. -/
def apartT (a1 : Nat) (n1 d1 : Int) (e1 : List S44) (a2 : Nat) (n2 d2 : Int) (e2 : List S44) (x : S89) : S44 :=
  ⟨(showsT a1 n1 d1 e1 x).f0 - (showsT a2 n2 d2 e2 x).f1, (showsT a1 n1 d1 e1 x).f1 - (showsT a2 n2 d2 e2 x).f0⟩
theorem showsF_bound {num den v : Int} {es : List S44} (hp : HandP num den es) (hv1 : -100000 ≤ v) (hv2 : v ≤ 100000) : -10000030 ≤ (showsF num den es v).f0 ∧ (showsF num den es v).f0 ≤ (showsF num den es v).f1 ∧ (showsF num den es v).f1 ≤ 10000030 := by
  obtain ⟨n1, n2, d1, d2, l1, l2, hes⟩ := hp
  obtain ⟨hm1, hm2⟩ := mul_bound hv1 hv2 n1 n2
  obtain ⟨hd1, hd2⟩ := div_bound d1 (by decide) hm1 hm2
  have hr1 := Int.emod_nonneg (v * num / den) (show (21600 : Int) ≠ 0 by decide)
  have hr2 := Int.emod_lt_of_pos (v * num / den) (show (0 : Int) < 21600 by decide)
  obtain ⟨hs1, hs2, k, hk, hkn⟩ := step_idx hr1 hr2 l1 l2
  obtain ⟨s, hs⟩ : ∃ s, es[k]? = some s := ⟨_, List.getElem?_eq_getElem hkn⟩
  obtain ⟨hz1, hz2, hz3⟩ := hes s (List.mem_of_getElem? hs)
  have HF : showsF num den es v = ⟨v * num / den + s.f0, v * num / den + s.f1⟩ := by simp only [showsF, hk, Int.toNat_natCast, List.getD_eq_getElem?_getD, hs, Option.getD_some]
  rw [HF]
  refine ⟨?_, ?_, ?_⟩ <;> dsimp only <;> omega
theorem two_blk {w2 : World} {a b : Nat} {t : TypeId} {z0 z1 z2 z3 : Value} (ha : Blk w2 a #[z0, z1] t) (hb : Blk w2 b #[z2, z3] t) (ne : a ≠ b) (u0 u1 v0 v1 : Value) :
    ((((w2.setCell ⟨a, 0, none⟩ u0).setCell ⟨a, 1, none⟩ u1).setCell ⟨b, 0, none⟩ v0).setCell ⟨b, 1, none⟩ v1).cell? ⟨a, 0, none⟩ = some u0 ∧ ((((w2.setCell ⟨a, 0, none⟩ u0).setCell ⟨a, 1, none⟩ u1).setCell ⟨b, 0, none⟩ v0).setCell ⟨b, 1, none⟩ v1).cell? ⟨a, 1, none⟩ = some u1 ∧
    ((((w2.setCell ⟨a, 0, none⟩ u0).setCell ⟨a, 1, none⟩ u1).setCell ⟨b, 0, none⟩ v0).setCell ⟨b, 1, none⟩ v1).cell? ⟨b, 0, none⟩ = some v0 ∧ ((((w2.setCell ⟨a, 0, none⟩ u0).setCell ⟨a, 1, none⟩ u1).setCell ⟨b, 0, none⟩ v0).setCell ⟨b, 1, none⟩ v1).cell? ⟨b, 1, none⟩ = some v1 := by
  have h1 := (((ha.put 0 u0 rfl).put 1 u1 rfl).far (p := ⟨b, 0, none⟩) ne v0).far (p := ⟨b, 1, none⟩) ne v1
  have h2 := (((hb.far (p := ⟨a, 0, none⟩) (Ne.symm ne) u0).far (p := ⟨a, 1, none⟩) (Ne.symm ne) u1).put 0 v0 rfl).put 1 v1 rfl
  exact ⟨h1.cell 0 rfl, h1.cell 1 rfl, h2.cell 0 rfl, h2.cell 1 rfl⟩
theorem cell_old {W : World} {q : Addr} {x : Value} (h : W.cell? q = some x) (o : Obj) : (W.alloc o).cell? q = some x := pw_cell_below (below_alloc (Below.refl _ _) o) h
set_option maxHeartbeats 4000000 in
set_option maxRecDepth 100000 in
theorem apart1_of {w : World} {b1 b2 a1 a2 ce1 ce2 : Nat} {AE1 AE2 : Option Addr} {n1 d1 n2 d2 : Int} {e1 e2 : List S44}
    (hb1 : Blk w b1 #[.int .i64 (a1 : Int), .int .i64 n1, .int .i64 d1, .slice AE1 e1.length ce1] 52) (he1 : ER w AE1 ce1 e1) (hp1 : HandP n1 d1 e1)
    (hb2 : Blk w b2 #[.int .i64 (a2 : Int), .int .i64 n2, .int .i64 d2, .slice AE2 e2.length ce2] 52) (he2 : ER w AE2 ce2 e2) (hp2 : HandP n2 d2 e2) :
    OfFn 62 #[.pointer (some ⟨b1, 0, none⟩), .pointer (some ⟨b2, 0, none⟩)] w (fun x => nearT a1 x ∧ nearT a2 x) (apartT a1 n1 d1 e1 a2 n2 d2 e2) := by
  refine ⟨ent Tryz.func62 (by kernel_rfl) rfl, ?_⟩
  intro x W A c A' c' hB hlt ht
  obtain ⟨v, hv⟩ : ∃ v, x.f1[a1]? = some v := ⟨_, List.getElem?_eq_getElem hlt.1.1⟩
  obtain ⟨u, hu⟩ : ∃ u, x.f1[a2]? = some u := ⟨_, List.getElem?_eq_getElem hlt.2.1⟩
  have hvb := hlt.1.2 v hv
  have hub := hlt.2.2 u hu
  obtain ⟨P, hP⟩ : ∃ P, P = showsF n1 d1 e1 v := ⟨_, rfl⟩
  obtain ⟨Q, hQ⟩ : ∃ Q, Q = showsF n2 d2 e2 u := ⟨_, rfl⟩
  have hPb := showsF_bound hp1 hvb.1 hvb.2
  have hQb := showsF_bound hp2 hub.1 hub.2
  rw [← hP] at hPb
  rw [← hQ] at hQb
  obtain ⟨hP1, hP2, hP3⟩ := hPb
  obtain ⟨hQ1, hQ2, hQ3⟩ := hQb
  have HF : Aside0 (apartT a1 n1 d1 e1 a2 n2 d2 e2 x = ⟨P.f0 - Q.f1, P.f1 - Q.f0⟩) := ⟨by simp [apartT, showsT, List.getD_eq_getElem?_getD, hv, hu, hP, hQ]⟩
  have HC1 : Aside0 (∀ V, Below W.heap.size W V → Calls Tryz.prog 63 #[.agg #[.slice A x.f0.length c, .slice A' x.f1.length c'], .agg #[.int .i64 a1, .int .i64 n1, .int .i64 d1, .slice AE1 e1.length ce1]] V fun e w' => e = .returned (.agg #[.int .i64 P.f0, .int .i64 P.f1]) ∧ Below V.heap.size V w') :=
    ⟨fun V hV => by rw [hP]; exact shows_calls (ht.below hV) (he1.below (hB.trans (hV.mono hB.size))) hp1 a1 hv hvb.1 hvb.2⟩
  have HC2 : Aside0 (∀ V, Below W.heap.size W V → Calls Tryz.prog 63 #[.agg #[.slice A x.f0.length c, .slice A' x.f1.length c'], .agg #[.int .i64 a2, .int .i64 n2, .int .i64 d2, .slice AE2 e2.length ce2]] V fun e w' => e = .returned (.agg #[.int .i64 Q.f0, .int .i64 Q.f1]) ∧ Below V.heap.size V w') :=
    ⟨fun V hV => by rw [hQ]; exact shows_calls (ht.below hV) (he2.below (hB.trans (hV.mono hB.size))) hp2 a2 hu hub.1 hub.2⟩
  have HB0 := Aside0.mk (below_alloc (below_alloc (Below.refl W.heap.size W) (.cells #[.slice A x.f0.length c, .slice A' x.f1.length c'] 89)) (.cells #[.int .i64 0, .int .i64 0] 44))
  have hk0 := (Blk.new W #[.slice A x.f0.length c, .slice A' x.f1.length c'] 89).alloc (.cells #[.int .i64 0, .int .i64 0] 44)
  have hk1 := Blk.new (W.alloc (.cells #[.slice A x.f0.length c, .slice A' x.f1.length c'] 89)) #[.int .i64 0, .int .i64 0] 44
  rw [World.size_alloc] at hk1
  have hb1W := ((hb1.below hB).alloc (.cells #[.slice A x.f0.length c, .slice A' x.f1.length c'] 89)).alloc (.cells #[.int .i64 0, .int .i64 0] 44)
  have hb2W := ((hb2.below hB).alloc (.cells #[.slice A x.f0.length c, .slice A' x.f1.length c'] 89)).alloc (.cells #[.int .i64 0, .int .i64 0] 44)
  clear hb1 hb2 he1 he2 hp1 hp2 hB ht hlt hv hu hvb hub hP hQ
  simp only [List.push_toArray, List.append_toArray, List.nil_append, List.cons_append]
  go_enter Tryz.func62, Tryz.ntmps62
  go_upto_region 1 with fail
  obtain ⟨W4, hW4⟩ : ∃ W4, (W.alloc (.cells #[.slice A x.f0.length c, .slice A' x.f1.length c'] 89)).alloc (.cells #[.int .i64 0, .int .i64 0] 44) = W4 := ⟨_, rfl⟩
  rw [hW4] at HB0 hk0 hk1 hb1W hb2W ⊢
  clear hW4
  have HK0 := Aside0.mk hk0
  have HK1 := Aside0.mk hk1
  have HH1 := Aside0.mk hb1W
  have HH2 := Aside0.mk hb2W
  have hp0 := hk0.cell 0 rfl
  have hp1 := hk0.cell 1 rfl
  have ha0 := hb1W.cell 0 rfl
  have ha1 := hb1W.cell 1 rfl
  have ha2 := hb1W.cell 2 rfl
  have ha3 := hb1W.cell 3 rfl
  have hc0 := hb2W.cell 0 rfl
  have hc1 := hb2W.cell 1 rfl
  have hc2 := hb2W.cell 2 rfl
  have hc3 := hb2W.cell 3 rfl
  have hlt0 := hk0.lt
  have hlt1 := hk1.lt
  have hlt2 := hb1W.lt
  have hlt3 := hb2W.lt
  clear hk0 hk1 hb1W hb2W
  go_cut [5, 6] (fun s5 s6 wx => ∃ b5 b6, s5 = .pointer (some ⟨b5, 0, none⟩) ∧ s6 = .pointer (some ⟨b6, 0, none⟩) ∧ Aside0 (wx.cell? ⟨b5, 0, none⟩ = some (.int .i64 P.f0)) ∧ Aside0 (wx.cell? ⟨b5, 1, none⟩ = some (.int .i64 P.f1)) ∧ Aside0 (wx.cell? ⟨b6, 0, none⟩ = some (.int .i64 Q.f0)) ∧ Aside0 (wx.cell? ⟨b6, 1, none⟩ = some (.int .i64 Q.f1)) ∧ Aside0 (Below W4.heap.size W4 wx))
  case first =>
    go_region_held3 (fun w' => w'.cell? ⟨W.heap.size, 0, none⟩ = some (.slice A x.f0.length c) ∧ w'.cell? ⟨W.heap.size, 1, none⟩ = some (.slice A' x.f1.length c') ∧ w'.cell? ⟨b1, 0, none⟩ = some (.int .i64 a1) ∧ w'.cell? ⟨b1, 1, none⟩ = some (.int .i64 n1) ∧ w'.cell? ⟨b1, 2, none⟩ = some (.int .i64 d1) ∧ w'.cell? ⟨b1, 3, none⟩ = some (.slice AE1 e1.length ce1) ∧ w'.cell? ⟨b2, 0, none⟩ = some (.int .i64 a2) ∧ w'.cell? ⟨b2, 1, none⟩ = some (.int .i64 n2) ∧ w'.cell? ⟨b2, 2, none⟩ = some (.int .i64 d2) ∧ w'.cell? ⟨b2, 3, none⟩ = some (.slice AE2 e2.length ce2)) (first | go_keep | ((refine ⟨?_, ?_, ?_, ?_, ?_, ?_, ?_, ?_, ?_, ?_⟩) <;> (repeat (first | (with_reducible assumption) | (with_reducible refine set_far ?_ (by dsimp only; omega)) | (with_reducible refine cell_old ?_ _))))) (first | (go_at_call 63; (with_reducible refine (HC1.out _ ?_).mono ?_); (repeat (first | exact HB0.out | apply below_alloc | apply below_drew1)); rintro e w1 ⟨rfl, hx1⟩; have hbx1 : Below W4.heap.size W4 w1 := bthen (by repeat (first | exact Below.refl _ _ | exact Below.refl _ _ | apply below_alloc | apply below_drew1)) hx1; have HBx1 := Aside0.mk hbx1; have HBw1 := Aside0.mk (HB0.out.trans (hbx1.mono HB0.out.size)); obtain ⟨hk1a, hk1b⟩ := bcell hx1; have hz1 := hx1.size; (try (have HZA1 := Aside0.mk (Blk.below (Blk.drew (Blk.new W4 #[.int .i64 0, .int .i64 0] 44)) hx1); have hza1l := HZA1.out.lt)); (try (have HZA1 := Aside0.mk (Blk.below (Blk.drew ((Blk.new W4 #[.int .i64 0, .int .i64 0] 44).alloc (.cells #[.int .i64 0, .int .i64 0] 44))) hx1); have hza1l := HZA1.out.lt)); (try (have hzz := Blk.below (Blk.drew (Blk.new (W4.alloc (.cells #[.int .i64 0, .int .i64 0] 44)) #[.int .i64 0, .int .i64 0] 44)) hx1; rw [World.size_alloc] at hzz; have HZB1 := Aside0.mk hzz; have hzb1l := hzz.lt; clear hzz)); have hzz1 := hbx1.size; have hs1_0 : w1.cell? ⟨W.heap.size, 0, none⟩ = some (.slice A x.f0.length c) := (HK0.out.below hbx1).cell 0 rfl; have hs1_1 : w1.cell? ⟨W.heap.size, 1, none⟩ = some (.slice A' x.f1.length c') := (HK0.out.below hbx1).cell 1 rfl; have hs1_2 : w1.cell? ⟨b1, 0, none⟩ = some (.int .i64 a1) := (HH1.out.below hbx1).cell 0 rfl; have hs1_3 : w1.cell? ⟨b1, 1, none⟩ = some (.int .i64 n1) := (HH1.out.below hbx1).cell 1 rfl; have hs1_4 : w1.cell? ⟨b1, 2, none⟩ = some (.int .i64 d1) := (HH1.out.below hbx1).cell 2 rfl; have hs1_5 : w1.cell? ⟨b1, 3, none⟩ = some (.slice AE1 e1.length ce1) := (HH1.out.below hbx1).cell 3 rfl; have hs1_6 : w1.cell? ⟨b2, 0, none⟩ = some (.int .i64 a2) := (HH2.out.below hbx1).cell 0 rfl; have hs1_7 : w1.cell? ⟨b2, 1, none⟩ = some (.int .i64 n2) := (HH2.out.below hbx1).cell 1 rfl; have hs1_8 : w1.cell? ⟨b2, 2, none⟩ = some (.int .i64 d2) := (HH2.out.below hbx1).cell 2 rfl; have hs1_9 : w1.cell? ⟨b2, 3, none⟩ = some (.slice AE2 e2.length ce2) := (HH2.out.below hbx1).cell 3 rfl; have hs1_l0 := (HK0.out.below hbx1).lt; have hs1_l1 := (HH1.out.below hbx1).lt; have hs1_l2 := (HH2.out.below hbx1).lt; clear hx1 hbx1) | (go_at_call 63; (with_reducible refine (HC2.out _ ?_).mono ?_); (repeat (first | exact HBw1.out | apply below_alloc | apply below_drew1)); rintro e w2 ⟨rfl, hx2⟩; have hbx2 : Below W4.heap.size W4 w2 := bthen (by repeat (first | exact Below.refl _ _ | exact HBx1.out | apply below_alloc | apply below_drew1)) hx2; have HBx2 := Aside0.mk hbx2; have HBw2 := Aside0.mk (HB0.out.trans (hbx2.mono HB0.out.size)); obtain ⟨hk2a, hk2b⟩ := bcell hx2; have hz2 := hx2.size; (try (have HZA2 := Aside0.mk (HZA1.out.below hx2); have hza2c0 := HZA2.out.cell 0 rfl; have hza2c1 := HZA2.out.cell 1 rfl; have hza2f0 := HZA2.out.free 0; have hza2f1 := HZA2.out.free 1; have hza2l := HZA2.out.lt)); (try (have HZA2 := Aside0.mk ((HZA1.out.alloc (.cells #[.int .i64 0, .int .i64 0] 44)).below hx2); have hza2c0 := HZA2.out.cell 0 rfl; have hza2c1 := HZA2.out.cell 1 rfl; have hza2f0 := HZA2.out.free 0; have hza2f1 := HZA2.out.free 1; have hza2l := HZA2.out.lt)); (try (have HZB2 := Aside0.mk (HZB1.out.below hx2); have hzb2c0 := HZB2.out.cell 0 rfl; have hzb2c1 := HZB2.out.cell 1 rfl; have hzb2f0 := HZB2.out.free 0; have hzb2f1 := HZB2.out.free 1; have hzb2l := HZB2.out.lt)); (try (have HZC2 := Aside0.mk (Blk.below (Blk.new w1 #[.int .i64 0, .int .i64 0] 44) hx2); have hzc2c0 := HZC2.out.cell 0 rfl; have hzc2c1 := HZC2.out.cell 1 rfl; have hzc2f0 := HZC2.out.free 0; have hzc2f1 := HZC2.out.free 1; have hzc2l := HZC2.out.lt)); (try (have HZC2 := Aside0.mk (Blk.below ((Blk.new w1 #[.int .i64 0, .int .i64 0] 44).alloc (.cells #[.int .i64 0, .int .i64 0] 44)) hx2); have hzc2c0 := HZC2.out.cell 0 rfl; have hzc2c1 := HZC2.out.cell 1 rfl; have hzc2f0 := HZC2.out.free 0; have hzc2f1 := HZC2.out.free 1; have hzc2l := HZC2.out.lt)); (try (have hzz := Blk.below (Blk.new (w1.alloc (.cells #[.int .i64 0, .int .i64 0] 44)) #[.int .i64 0, .int .i64 0] 44) hx2; rw [World.size_alloc] at hzz; have HZD2 := Aside0.mk hzz; clear hzz; have hzd2c0 := HZD2.out.cell 0 rfl; have hzd2c1 := HZD2.out.cell 1 rfl; have hzd2f0 := HZD2.out.free 0; have hzd2f1 := HZD2.out.free 1; have hzd2l := HZD2.out.lt)); have hzz2 := hbx2.size; have hs2_0 : w2.cell? ⟨W.heap.size, 0, none⟩ = some (.slice A x.f0.length c) := (HK0.out.below hbx2).cell 0 rfl; have hs2_1 : w2.cell? ⟨W.heap.size, 1, none⟩ = some (.slice A' x.f1.length c') := (HK0.out.below hbx2).cell 1 rfl; have hs2_2 : w2.cell? ⟨b1, 0, none⟩ = some (.int .i64 a1) := (HH1.out.below hbx2).cell 0 rfl; have hs2_3 : w2.cell? ⟨b1, 1, none⟩ = some (.int .i64 n1) := (HH1.out.below hbx2).cell 1 rfl; have hs2_4 : w2.cell? ⟨b1, 2, none⟩ = some (.int .i64 d1) := (HH1.out.below hbx2).cell 2 rfl; have hs2_5 : w2.cell? ⟨b1, 3, none⟩ = some (.slice AE1 e1.length ce1) := (HH1.out.below hbx2).cell 3 rfl; have hs2_6 : w2.cell? ⟨b2, 0, none⟩ = some (.int .i64 a2) := (HH2.out.below hbx2).cell 0 rfl; have hs2_7 : w2.cell? ⟨b2, 1, none⟩ = some (.int .i64 n2) := (HH2.out.below hbx2).cell 1 rfl; have hs2_8 : w2.cell? ⟨b2, 2, none⟩ = some (.int .i64 d2) := (HH2.out.below hbx2).cell 2 rfl; have hs2_9 : w2.cell? ⟨b2, 3, none⟩ = some (.slice AE2 e2.length ce2) := (HH2.out.below hbx2).cell 3 rfl; have hs2_l0 := (HK0.out.below hbx2).lt; have hs2_l1 := (HH1.out.below hbx2).lt; have hs2_l2 := (HH2.out.below hbx2).lt; clear hx2 hbx2))
    all_goals (go_wp2_with fail; go_meet)
    all_goals (have ne1 : W4.heap.size ≠ W4.heap.size + 1 := by omega)
    all_goals (have ne2 : W4.heap.size + 1 ≠ W4.heap.size := by omega)
    all_goals (refine ⟨_, _, rfl, rfl, ⟨?_⟩, ⟨?_⟩, ⟨?_⟩, ⟨?_⟩, ⟨?_⟩⟩)
    all_goals first
      | (repeat (first | exact HBx2.out | apply below_alloc | (refine below_set ?_ (by omega)))); done
      | (go_simp; done)
      | (with_reducible exact (two_blk HZA2.out HZB2.out ne1 _ _ _ _).1)
      | (with_reducible exact (two_blk HZA2.out HZB2.out ne1 _ _ _ _).2.1)
      | (with_reducible exact (two_blk HZA2.out HZB2.out ne1 _ _ _ _).2.2.1)
      | (with_reducible exact (two_blk HZA2.out HZB2.out ne1 _ _ _ _).2.2.2)
      | (with_reducible exact (two_blk HZB2.out HZA2.out ne2 _ _ _ _).1)
      | (with_reducible exact (two_blk HZB2.out HZA2.out ne2 _ _ _ _).2.1)
      | (with_reducible exact (two_blk HZB2.out HZA2.out ne2 _ _ _ _).2.2.1)
      | (with_reducible exact (two_blk HZB2.out HZA2.out ne2 _ _ _ _).2.2.2)
  case rest =>
    obtain ⟨b5, b6, rfl, rfl, HP0, HP1, HQ0, HQ1, HBx⟩ := hcut
    have g0 := HP0.out
    have g1 := HP1.out
    have g2 := HQ0.out
    have g3 := HQ1.out
    have hr := HK1.out.below HBx.out
    have hr0 := hr.cell 0 rfl
    have hr1 := hr.cell 1 rfl
    have hrf0 := hr.free 0
    have hrf1 := hr.free 1
    have hrl := hr.lt
    have HR9 := Aside0.mk hr
    have HW9 := Aside0.mk (HB0.out.trans (HBx.out.mono HB0.out.size))
    clear hr
    go_wp2
    refine bodyPost_ret (results_cell_row rfl _ _ (W.heap.size + 1) 44 #[.int .i64 (P.f0 - Q.f1), .int .i64 (P.f1 - Q.f0)] (0,0) _ (by rfl) ((HR9.out.put 0 _ rfl).put 1 _ rfl) Tryz.underlying44 rfl (by kernel_rfl)) rfl ?_
    exact ⟨by rw [HF.out], below_set (below_set HW9.out (by omega)) (by omega)⟩
end Go.Proofs.YtaojkmalpihmbaaGreatDoor.M

namespace Go.Proofs.YtaojkmalpihmbaaGreatDoor.M
open Go.RowKit Go.Proofs.YtaojkmalpihmbaaGreatDoorW.PrintWords Go.Proofs.YtaojkmalpihmbaaGreatDoorW.PrintLast Go.Proofs.YtaojkmalpihmbaaGreatDoorW.PrintMore Go.Proofs.YtaojkmalpihmbaaGreatDoor.Q
set_option linter.unusedVariables false
set_option linter.unusedSimpArgs false

/-! Apart. -/
section
variable {A0 A1 A2 A3 : Option Addr} {c0 c1 c2 c3 : Nat} {ms : List S64} {mv : List Int} {rs : List S66}
def apartOf (ms : List S64) (mv : List Int) (rs : List S66) (a1 n1 d1 : Int) (e1 : List S44) (a2 n2 d2 : Int) (e2 : List S44) : S44 :=
  if askE ms mv rs (handB ms.length a1 n1 d1 e1 && handB ms.length a2 n2 d2 e2) = 0 then overL (apartT a1.toNat n1 d1 e1 a2.toNat n2 d2 e2) (truthsL ms mv rs) else ⟨0, 0⟩
theorem askE_false : askE ms mv rs false = 2 := by simp [askE]
end
end Go.Proofs.YtaojkmalpihmbaaGreatDoor.M

