import Derived.Test.YtaojkmalpihmbaaGreatDoorG03
import Derived.Test.YtaojkmalpihmbaaGreatDoorB42
import Derived.Test.YtaojkmalpihmbaaGreatDoorB28
import Derived.Test.YtaojkmalpihmbaaGreatDoorB33
import Derived.Deep.QuietTactic
import Derived.BigQuiet
import Derived.Deep.RegionHeld3
import Derived.IntWalk
namespace Go.Proofs.YtaojkmalpihmbaaGreatDoor.M
open Go.RowKit Go.Proofs.YtaojkmalpihmbaaGreatDoorW.PrintWords Go.Proofs.YtaojkmalpihmbaaGreatDoorW.PrintLast Go.Proofs.YtaojkmalpihmbaaGreatDoorW.PrintMore Go.Proofs.YtaojkmalpihmbaaGreatDoor.Q
set_option linter.unusedVariables false
set_option linter.unusedSimpArgs false

/-! SlackDiffer. -/
theorem carried {w1 : World} {n : Nat} {t u : TypeId} {x0 x1 x2 y0 y1 y2 y3 z0 z1 z2 z3 : Value} (h0 : Blk w1 n #[x0, x1, x2] t) (h1 : Blk w1 (n + 1) #[y0, y1, y2, y3] u) (h2 : Blk w1 (n + 1 + 1) #[z0, z1, z2, z3] u) :
    w1.cell? ⟨n, 0, none⟩ = some x0 ∧ w1.cell? ⟨n, 1, none⟩ = some x1 ∧ w1.cell? ⟨n, 2, none⟩ = some x2 ∧ w1.cell? ⟨n + 1, 0, none⟩ = some y0 ∧ w1.cell? ⟨n + 1, 1, none⟩ = some y1 ∧ w1.cell? ⟨n + 1, 2, none⟩ = some y2 ∧ w1.cell? ⟨n + 1, 3, none⟩ = some y3 ∧ w1.cell? ⟨n + 1 + 1, 0, none⟩ = some z0 ∧ w1.cell? ⟨n + 1 + 1, 1, none⟩ = some z1 ∧ w1.cell? ⟨n + 1 + 1, 2, none⟩ = some z2 ∧ w1.cell? ⟨n + 1 + 1, 3, none⟩ = some z3 :=
  ⟨h0.cell 0 rfl, h0.cell 1 rfl, h0.cell 2 rfl, h1.cell 0 rfl, h1.cell 1 rfl, h1.cell 2 rfl, h1.cell 3 rfl, h2.cell 0 rfl, h2.cell 1 rfl, h2.cell 2 rfl, h2.cell 3 rfl⟩
theorem run_two {A0 A1 A2 : Option Addr} {c0 c1 c2 : Nat} {ms : List S64} {mv : List Int} {rs : List S66} {w : World} (h : PR w A0 c0 ms A1 c1 mv A2 c2 rs) {A : Option Addr} {c : Nat} {pl : List Int} (hp : IR w A c pl) (hok : ranB ms mv rs pl = true) {l : List Int} (hl : (runL pl mv)[mv.length]? = some l) {a1 a2 : Nat} {v1 v2 : Int} (h1 : l[a1]? = some v1) (h2 : l[a2]? = some v2) :
    Calls Tryz.prog 15 #[.agg #[.slice A0 ms.length c0, .slice A1 mv.length c1, .slice A2 rs.length c2], .slice A pl.length c] w fun e w' =>
      (∃ ad ae cap ce qg qa qb, e = .returned (.slice (some ad) (mv.length + 1) cap) ∧ ad.add mv.length = qg ∧ ae.add a1 = qa ∧ ae.add a2 = qb ∧ w'.cell? qg = some (.slice (some ae) l.length ce) ∧ w'.cell? qa = some (.int .i64 v1) ∧ w'.cell? qb = some (.int .i64 v2)) ∧ Below w.heap.size w w' := by
  refine (lawrun_calls h hp hok).mono ?_
  rintro e w' ⟨⟨A', c', rfl, hc, hle⟩, hb⟩
  obtain ⟨ad, A0', c0', rfl, hcell, -, hin⟩ := at_row hc hl (by omega)
  obtain ⟨ae, rfl, k1⟩ := at_int hin h1 (List.getElem?_eq_some_iff.1 h1).1
  obtain ⟨ae', e9, k2⟩ := at_int hin h2 (List.getElem?_eq_some_iff.1 h2).1
  cases e9
  exact ⟨⟨ad, ae, _, _, _, _, _, rfl, rfl, rfl, rfl, hcell, k1, k2⟩, hb⟩
theorem apart_ends {ms : List S64} {mv : List Int} {rs : List S66} {a1 a2 : Nat} {n1 d1 n2 d2 : Int} {e1 e2 : List S44} (h : pieceB ms mv rs = true) (hp1 : HandP n1 d1 e1) (hp2 : HandP n2 d2 e2) (h1 : a1 ≤ ms.length) (h2 : a2 ≤ ms.length) {z : S89} (hz : z ∈ truthsL ms mv rs) {s t a b : S44}
    (hs : s = overL (apartT a1 n1 d1 e1 a2 n2 d2 e2) (truthsL ms mv rs)) (ht : t = overL (apartT a2 n2 d2 e2 a1 n1 d1 e1) (truthsL ms mv rs)) (ha : a = overL (showsT a1 n1 d1 e1) (truthsL ms mv rs)) (hb : b = overL (showsT a2 n2 d2 e2) (truthsL ms mv rs)) :
    (t.f0 = -s.f1 ∧ t.f1 = -s.f0) ∧ (-1000000 ≤ a.f0 ∧ a.f1 ≤ 1000000 ∧ -1000000 ≤ b.f0 ∧ b.f1 ≤ 1000000) ∧ (a.f0 ≤ a.f1 ∧ b.f0 ≤ b.f1) ∧ (a.f0 - b.f1 ≤ s.f0 ∧ s.f1 ≤ a.f1 - b.f0) ∧ (s.f0 ≤ (apartT a1 n1 d1 e1 a2 n2 d2 e2 z).f0 ∧ (apartT a1 n1 d1 e1 a2 n2 d2 e2 z).f1 ≤ s.f1) ∧ (-1100000 ≤ s.f0 ∧ s.f0 ≤ 1100000 ∧ -1100000 ≤ s.f1 ∧ s.f1 ≤ 1100000) := by
  have hne : truthsL ms mv rs ≠ [] := fun e => by rw [e] at hz; simp at hz
  have hb9 : ∀ x ∈ truthsL ms mv rs, ∀ {a : Nat} {n d : Int} {es : List S44}, a ≤ ms.length → HandP n d es → -500030 ≤ (showsT a n d es x).f0 ∧ (showsT a n d es x).f0 ≤ (showsT a n d es x).f1 ∧ (showsT a n d es x).f1 ≤ 500030 := by
    intro x hx a n d es ha hp
    obtain ⟨g1, g2⟩ := truthsL_mem hx
    obtain ⟨_, _, _, hv⟩ := truthsL_form h hx g1
    have hm : x.f1.getD a 0 ∈ x.f1 := by
      rw [List.getD_eq_getElem?_getD, List.getElem?_eq_getElem (show a < x.f1.length by omega)]
      exact List.getElem_mem _
    have := hv _ hm
    exact shows_small hp (by omega) (by omega)
  have hneg := overL_neg (f := apartT a1 n1 d1 e1 a2 n2 d2 e2) (g := apartT a2 n2 d2 e2 a1 n1 d1 e1) hne (fun x _ => ⟨by simp only [apartT]; omega, by simp only [apartT]; omega⟩)
  rw [← hs, ← ht] at hneg
  have la := fun x hx => overL_le (f := showsT a1 n1 d1 e1) (T := truthsL ms mv rs) (x := x) hx
  have lb := fun x hx => overL_le (f := showsT a2 n2 d2 e2) (T := truthsL ms mv rs) (x := x) hx
  have ls := overL_le (f := apartT a1 n1 d1 e1 a2 n2 d2 e2) hz
  obtain ⟨⟨y1, hy1, ey1⟩, ⟨y2, hy2, ey2⟩⟩ := overL_ex (f := apartT a1 n1 d1 e1 a2 n2 d2 e2) hne
  obtain ⟨⟨y3, hy3, ey3⟩, ⟨y4, hy4, ey4⟩⟩ := overL_ex (f := showsT a1 n1 d1 e1) hne
  obtain ⟨⟨y5, hy5, ey5⟩, ⟨y6, hy6, ey6⟩⟩ := overL_ex (f := showsT a2 n2 d2 e2) hne
  rw [← hs] at ls ey1 ey2
  rw [← ha] at ey3 ey4
  rw [← hb] at ey5 ey6
  have k1 := la y1 hy1
  have k2 := lb y1 hy1
  have k3 := la y2 hy2
  have k4 := lb y2 hy2
  have kz := la z hz
  have kz' := lb z hz
  rw [← ha] at k1 k3 kz
  rw [← hb] at k2 k4 kz'
  have m3 := hb9 y3 hy3 h1 hp1
  have m4 := hb9 y4 hy4 h1 hp1
  have m5 := hb9 y5 hy5 h2 hp2
  have m6 := hb9 y6 hy6 h2 hp2
  have mz := hb9 z hz h1 hp1
  have mz' := hb9 z hz h2 hp2
  simp only [apartT] at ey1 ey2 ls ⊢
  refine ⟨hneg, ⟨by omega, by omega, by omega, by omega⟩, ⟨by omega, by omega⟩, ⟨by omega, by omega⟩, ls, by omega, by omega, by omega, by omega⟩
section
variable {A0 A1 A2 : Option Addr} {c0 c1 c2 : Nat} {ms : List S64} {mv : List Int} {rs : List S66} {pl : List Int} {A : Option Addr} {c : Nat}
set_option maxHeartbeats 60000000 in
set_option maxRecDepth 100000 in
theorem differ_calls {w : World} (hw : LibW w) (h : PQ w A0 c0 ms A1 c1 mv A2 c2 rs) (r1 n1 d1 : Int) {AE1 : Option Addr} {ce1 : Nat} {e1 : List S44} (he1 : Kd.C k44 w AE1 e1.length e1) (hq1 : e1.length ≤ ce1) (r2 n2 d2 : Int) {AE2 : Option Addr} {ce2 : Nat} {e2 : List S44} (he2 : Kd.C k44 w AE2 e2.length e2) (hq2 : e2.length ≤ ce2) (hp : Kd.C (Kd.int .i64) w A pl.length pl) (hpc : pl.length ≤ c) :
    Calls Tryz.prog 9 #[.agg #[.slice A0 ms.length c0, .slice A1 mv.length c1, .slice A2 rs.length c2], .agg #[.int .i64 r1, .int .i64 n1, .int .i64 d1, .slice AE1 e1.length ce1], .agg #[.int .i64 r2, .int .i64 n2, .int .i64 d2, .slice AE2 e2.length ce2], .slice A pl.length c] w fun e w' => e = .returned (.bool true) ∧ Below w.heap.size w w' := by
  have HP := Aside0.mk hp
  have HPC := Aside0.mk hpc
  clear hp hpc
  have HL := Aside0.mk hw
  have H := Aside0.mk h
  have HE1 := Aside0.mk he1
  have HE2 := Aside0.mk he2
  have HQ1 := Aside0.mk hq1
  have HQ2 := Aside0.mk hq2
  have hb0 := below_alloc (below_alloc (below_alloc (Below.refl w.heap.size w) (.cells #[.slice A0 ms.length c0, .slice A1 mv.length c1, .slice A2 rs.length c2] 26)) (.cells #[.int .i64 r1, .int .i64 n1, .int .i64 d1, .slice AE1 e1.length ce1] 52)) (.cells #[.int .i64 r2, .int .i64 n2, .int .i64 d2, .slice AE2 e2.length ce2] 52)
  have hk0 := ((Blk.new w #[.slice A0 ms.length c0, .slice A1 mv.length c1, .slice A2 rs.length c2] 26).alloc (.cells #[.int .i64 r1, .int .i64 n1, .int .i64 d1, .slice AE1 e1.length ce1] 52)).alloc (.cells #[.int .i64 r2, .int .i64 n2, .int .i64 d2, .slice AE2 e2.length ce2] 52)
  have hk5 := (Blk.new (w.alloc (.cells #[.slice A0 ms.length c0, .slice A1 mv.length c1, .slice A2 rs.length c2] 26)) #[.int .i64 r1, .int .i64 n1, .int .i64 d1, .slice AE1 e1.length ce1] 52).alloc (.cells #[.int .i64 r2, .int .i64 n2, .int .i64 d2, .slice AE2 e2.length ce2] 52)
  have hk6 := Blk.new ((w.alloc (.cells #[.slice A0 ms.length c0, .slice A1 mv.length c1, .slice A2 rs.length c2] 26)).alloc (.cells #[.int .i64 r1, .int .i64 n1, .int .i64 d1, .slice AE1 e1.length ce1] 52)) #[.int .i64 r2, .int .i64 n2, .int .i64 d2, .slice AE2 e2.length ce2] 52
  rw [World.size_alloc] at hk5
  rw [World.size_alloc, World.size_alloc] at hk6
  have HBz := Aside0.mk hb0
  have HK := Aside0.mk hk0
  have HK5 := Aside0.mk hk5
  have HK6 := Aside0.mk hk6
  have HS0 := Aside0.mk (short_at (h.below hb0))
  clear hw h he1 he2 hq1 hq2 hb0 hk0 hk5 hk6
  rcases hs : shortB ms mv rs with _ | _
  · have HSS := Aside0.mk hs
    clear hs
    go_enter Tryz.func9, Tryz.ntmps9
    go_wp2_with (first
      | (go_at_call 10; (with_reducible refine (HS0.out).mono ?_); rintro e w1 ⟨rfl, hb⟩; rw [HSS.out]; replace HBz := Aside0.mk (HBz.out.trans (Below.mono hb HBz.out.size)); replace HK := Aside0.mk (HK.out.below hb); replace HK5 := Aside0.mk (HK5.out.below hb); replace HK6 := Aside0.mk (HK6.out.below hb); obtain ⟨hk0, hk1, hk2, hh10, hh11, hh12, hh13, hh20, hh21, hh22, hh23⟩ := carried HK.out HK5.out HK6.out; clear hb)
      | (go_at_call 14; (with_reducible refine (known_calls (HL.out.below HBz.out)).mono ?_); rintro e wn ⟨rfl, hb⟩; replace HBz := Aside0.mk (HBz.out.trans (Below.mono hb HBz.out.size)); clear hb))
    go_ret
    exact ⟨rfl, HBz.out⟩
  have HSS := Aside0.mk hs
  obtain ⟨hm6, hv10, hr8⟩ := short_len hs
  clear hs
  have HPR : Aside0 (PR w A0 c0 ms A1 c1 mv A2 c2 rs) := ⟨⟨H.out.r0, H.out.r1, H.out.r2, H.out.c0, H.out.c1, H.out.c2, by omega, by omega, by omega⟩⟩
  rcases hs : decide ((e1.length : Int) ≤ 10) with _ | _
  · have HBR1 := Aside0.mk hs
    clear hs
    go_enter Tryz.func9, Tryz.ntmps9
    go_wp2_with (first
      | (go_at_call 10; (with_reducible refine (HS0.out).mono ?_); rintro e w1 ⟨rfl, hb⟩; rw [HSS.out]; replace HBz := Aside0.mk (HBz.out.trans (Below.mono hb HBz.out.size)); replace HK := Aside0.mk (HK.out.below hb); replace HK5 := Aside0.mk (HK5.out.below hb); replace HK6 := Aside0.mk (HK6.out.below hb); obtain ⟨hk0, hk1, hk2, hh10, hh11, hh12, hh13, hh20, hh21, hh22, hh23⟩ := carried HK.out HK5.out HK6.out; clear hb)
      | (go_at_call 28; (with_reducible refine (brief_at (Kd.C_below HE1.out HBz.out) HQ1.out _ _ _).mono ?_); rintro e w2 ⟨rfl, hb⟩; rw [HBR1.out]; replace HBz := Aside0.mk (HBz.out.trans (Below.mono hb HBz.out.size)); replace HK := Aside0.mk (HK.out.below hb); replace HK5 := Aside0.mk (HK5.out.below hb); replace HK6 := Aside0.mk (HK6.out.below hb); obtain ⟨hk0, hk1, hk2, hh10, hh11, hh12, hh13, hh20, hh21, hh22, hh23⟩ := carried HK.out HK5.out HK6.out; clear hb)
      | (go_at_call 14; (with_reducible refine (known_calls (HL.out.below HBz.out)).mono ?_); rintro e wn ⟨rfl, hb⟩; replace HBz := Aside0.mk (HBz.out.trans (Below.mono hb HBz.out.size)); clear hb))
    go_ret
    exact ⟨rfl, HBz.out⟩
  have HBR1 := Aside0.mk hs
  have he10 : (e1.length : Int) ≤ 10 := of_decide_eq_true hs
  have HER1 : Aside0 (ER w AE1 ce1 e1) := ⟨⟨HE1.out, HQ1.out, by omega⟩⟩
  clear hs
  rcases hs : decide ((e2.length : Int) ≤ 10) with _ | _
  · have HBR2 := Aside0.mk hs
    clear hs he10
    go_enter Tryz.func9, Tryz.ntmps9
    go_wp2_with (first
      | (go_at_call 10; (with_reducible refine (HS0.out).mono ?_); rintro e w1 ⟨rfl, hb⟩; rw [HSS.out]; replace HBz := Aside0.mk (HBz.out.trans (Below.mono hb HBz.out.size)); replace HK := Aside0.mk (HK.out.below hb); replace HK5 := Aside0.mk (HK5.out.below hb); replace HK6 := Aside0.mk (HK6.out.below hb); obtain ⟨hk0, hk1, hk2, hh10, hh11, hh12, hh13, hh20, hh21, hh22, hh23⟩ := carried HK.out HK5.out HK6.out; clear hb)
      | (go_at_call 28; (with_reducible refine (brief_at (Kd.C_below HE1.out HBz.out) HQ1.out _ _ _).mono ?_); rintro e w2 ⟨rfl, hb⟩; rw [HBR1.out]; replace HBz := Aside0.mk (HBz.out.trans (Below.mono hb HBz.out.size)); replace HK := Aside0.mk (HK.out.below hb); replace HK5 := Aside0.mk (HK5.out.below hb); replace HK6 := Aside0.mk (HK6.out.below hb); obtain ⟨hk0, hk1, hk2, hh10, hh11, hh12, hh13, hh20, hh21, hh22, hh23⟩ := carried HK.out HK5.out HK6.out; clear hb)
      | (go_at_call 28; (with_reducible refine (brief_at (Kd.C_below HE2.out HBz.out) HQ2.out _ _ _).mono ?_); rintro e w3 ⟨rfl, hb⟩; rw [HBR2.out]; replace HBz := Aside0.mk (HBz.out.trans (Below.mono hb HBz.out.size)); replace HK := Aside0.mk (HK.out.below hb); replace HK5 := Aside0.mk (HK5.out.below hb); replace HK6 := Aside0.mk (HK6.out.below hb); obtain ⟨hk0, hk1, hk2, hh10, hh11, hh12, hh13, hh20, hh21, hh22, hh23⟩ := carried HK.out HK5.out HK6.out; clear hb)
      | (go_at_call 14; (with_reducible refine (known_calls (HL.out.below HBz.out)).mono ?_); rintro e wn ⟨rfl, hb⟩; replace HBz := Aside0.mk (HBz.out.trans (Below.mono hb HBz.out.size)); clear hb))
    go_ret
    exact ⟨rfl, HBz.out⟩
  have HBR2 := Aside0.mk hs
  have he20 : (e2.length : Int) ≤ 10 := of_decide_eq_true hs
  have HER2 : Aside0 (ER w AE2 ce2 e2) := ⟨⟨HE2.out, HQ2.out, by omega⟩⟩
  clear hs he10 he20
  by_cases hp6 : ¬ (pl.length : Int) ≤ 6
  · have hp6' : (6 : Int) < (pl.length : Int) := by omega
    clear hp6
    go_enter Tryz.func9, Tryz.ntmps9
    go_wp2_with (first
      | (go_at_call 10; (with_reducible refine (HS0.out).mono ?_); rintro e w1 ⟨rfl, hb⟩; rw [HSS.out]; replace HBz := Aside0.mk (HBz.out.trans (Below.mono hb HBz.out.size)); replace HK := Aside0.mk (HK.out.below hb); replace HK5 := Aside0.mk (HK5.out.below hb); replace HK6 := Aside0.mk (HK6.out.below hb); obtain ⟨hk0, hk1, hk2, hh10, hh11, hh12, hh13, hh20, hh21, hh22, hh23⟩ := carried HK.out HK5.out HK6.out; clear hb)
      | (go_at_call 28; (with_reducible refine (brief_at (Kd.C_below HE1.out HBz.out) HQ1.out _ _ _).mono ?_); rintro e w2 ⟨rfl, hb⟩; rw [HBR1.out]; replace HBz := Aside0.mk (HBz.out.trans (Below.mono hb HBz.out.size)); replace HK := Aside0.mk (HK.out.below hb); replace HK5 := Aside0.mk (HK5.out.below hb); replace HK6 := Aside0.mk (HK6.out.below hb); obtain ⟨hk0, hk1, hk2, hh10, hh11, hh12, hh13, hh20, hh21, hh22, hh23⟩ := carried HK.out HK5.out HK6.out; clear hb)
      | (go_at_call 28; (with_reducible refine (brief_at (Kd.C_below HE2.out HBz.out) HQ2.out _ _ _).mono ?_); rintro e w3 ⟨rfl, hb⟩; rw [HBR2.out]; replace HBz := Aside0.mk (HBz.out.trans (Below.mono hb HBz.out.size)); replace HK := Aside0.mk (HK.out.below hb); replace HK5 := Aside0.mk (HK5.out.below hb); replace HK6 := Aside0.mk (HK6.out.below hb); obtain ⟨hk0, hk1, hk2, hh10, hh11, hh12, hh13, hh20, hh21, hh22, hh23⟩ := carried HK.out HK5.out HK6.out; clear hb)
      | (go_at_call 14; (with_reducible refine (known_calls (HL.out.below HBz.out)).mono ?_); rintro e wn ⟨rfl, hb⟩; replace HBz := Aside0.mk (HBz.out.trans (Below.mono hb HBz.out.size)); clear hb))
    go_ret
    exact ⟨rfl, HBz.out⟩
  have hp6' : pl.length ≤ 6 := by omega
  have hp6'' : ¬ (6 : Int) < (pl.length : Int) := by omega
  clear hp6
  have HIR : Aside0 (IR w A c pl) := ⟨⟨HP.out, HPC.out, by omega⟩⟩
  rcases hs : pieceB ms mv rs with _ | _
  · have HPB := Aside0.mk hs
    clear hs
    go_enter Tryz.func9, Tryz.ntmps9
    go_wp2_with (first
      | (go_at_call 10; (with_reducible refine (HS0.out).mono ?_); rintro e w1 ⟨rfl, hb⟩; rw [HSS.out]; replace HBz := Aside0.mk (HBz.out.trans (Below.mono hb HBz.out.size)); replace HK := Aside0.mk (HK.out.below hb); replace HK5 := Aside0.mk (HK5.out.below hb); replace HK6 := Aside0.mk (HK6.out.below hb); obtain ⟨hk0, hk1, hk2, hh10, hh11, hh12, hh13, hh20, hh21, hh22, hh23⟩ := carried HK.out HK5.out HK6.out; clear hb)
      | (go_at_call 28; (with_reducible refine (brief_at (Kd.C_below HE1.out HBz.out) HQ1.out _ _ _).mono ?_); rintro e w2 ⟨rfl, hb⟩; rw [HBR1.out]; replace HBz := Aside0.mk (HBz.out.trans (Below.mono hb HBz.out.size)); replace HK := Aside0.mk (HK.out.below hb); replace HK5 := Aside0.mk (HK5.out.below hb); replace HK6 := Aside0.mk (HK6.out.below hb); obtain ⟨hk0, hk1, hk2, hh10, hh11, hh12, hh13, hh20, hh21, hh22, hh23⟩ := carried HK.out HK5.out HK6.out; clear hb)
      | (go_at_call 28; (with_reducible refine (brief_at (Kd.C_below HE2.out HBz.out) HQ2.out _ _ _).mono ?_); rintro e w3 ⟨rfl, hb⟩; rw [HBR2.out]; replace HBz := Aside0.mk (HBz.out.trans (Below.mono hb HBz.out.size)); replace HK := Aside0.mk (HK.out.below hb); replace HK5 := Aside0.mk (HK5.out.below hb); replace HK6 := Aside0.mk (HK6.out.below hb); obtain ⟨hk0, hk1, hk2, hh10, hh11, hh12, hh13, hh20, hh21, hh22, hh23⟩ := carried HK.out HK5.out HK6.out; clear hb)
      | (go_at_call 11; (with_reducible refine (piece_at (HPR.out.below HBz.out)).mono ?_); rintro e w4 ⟨rfl, hb⟩; rw [HPB.out]; replace HBz := Aside0.mk (HBz.out.trans (Below.mono hb HBz.out.size)); replace HK := Aside0.mk (HK.out.below hb); replace HK5 := Aside0.mk (HK5.out.below hb); replace HK6 := Aside0.mk (HK6.out.below hb); obtain ⟨hk0, hk1, hk2, hh10, hh11, hh12, hh13, hh20, hh21, hh22, hh23⟩ := carried HK.out HK5.out HK6.out; clear hb)
      | (go_at_call 14; (with_reducible refine (known_calls (HL.out.below HBz.out)).mono ?_); rintro e wn ⟨rfl, hb⟩; replace HBz := Aside0.mk (HBz.out.trans (Below.mono hb HBz.out.size)); clear hb))
    go_ret
    exact ⟨rfl, HBz.out⟩
  have HPB := Aside0.mk hs
  clear hs
  rcases hs : handB ms.length r1 n1 d1 e1 with _ | _
  · have HHB1 := Aside0.mk hs
    clear hs
    go_enter Tryz.func9, Tryz.ntmps9
    go_wp2_with (first
      | (go_at_call 10; (with_reducible refine (HS0.out).mono ?_); rintro e w1 ⟨rfl, hb⟩; rw [HSS.out]; replace HBz := Aside0.mk (HBz.out.trans (Below.mono hb HBz.out.size)); replace HK := Aside0.mk (HK.out.below hb); replace HK5 := Aside0.mk (HK5.out.below hb); replace HK6 := Aside0.mk (HK6.out.below hb); obtain ⟨hk0, hk1, hk2, hh10, hh11, hh12, hh13, hh20, hh21, hh22, hh23⟩ := carried HK.out HK5.out HK6.out; clear hb)
      | (go_at_call 28; (with_reducible refine (brief_at (Kd.C_below HE1.out HBz.out) HQ1.out _ _ _).mono ?_); rintro e w2 ⟨rfl, hb⟩; rw [HBR1.out]; replace HBz := Aside0.mk (HBz.out.trans (Below.mono hb HBz.out.size)); replace HK := Aside0.mk (HK.out.below hb); replace HK5 := Aside0.mk (HK5.out.below hb); replace HK6 := Aside0.mk (HK6.out.below hb); obtain ⟨hk0, hk1, hk2, hh10, hh11, hh12, hh13, hh20, hh21, hh22, hh23⟩ := carried HK.out HK5.out HK6.out; clear hb)
      | (go_at_call 28; (with_reducible refine (brief_at (Kd.C_below HE2.out HBz.out) HQ2.out _ _ _).mono ?_); rintro e w3 ⟨rfl, hb⟩; rw [HBR2.out]; replace HBz := Aside0.mk (HBz.out.trans (Below.mono hb HBz.out.size)); replace HK := Aside0.mk (HK.out.below hb); replace HK5 := Aside0.mk (HK5.out.below hb); replace HK6 := Aside0.mk (HK6.out.below hb); obtain ⟨hk0, hk1, hk2, hh10, hh11, hh12, hh13, hh20, hh21, hh22, hh23⟩ := carried HK.out HK5.out HK6.out; clear hb)
      | (go_at_call 11; (with_reducible refine (piece_at (HPR.out.below HBz.out)).mono ?_); rintro e w4 ⟨rfl, hb⟩; rw [HPB.out]; replace HBz := Aside0.mk (HBz.out.trans (Below.mono hb HBz.out.size)); replace HK := Aside0.mk (HK.out.below hb); replace HK5 := Aside0.mk (HK5.out.below hb); replace HK6 := Aside0.mk (HK6.out.below hb); obtain ⟨hk0, hk1, hk2, hh10, hh11, hh12, hh13, hh20, hh21, hh22, hh23⟩ := carried HK.out HK5.out HK6.out; clear hb)
      | (go_at_call 30; (with_reducible refine (Hand_at (HPR.out.below HBz.out) (HER1.out.below HBz.out) _ _ _).mono ?_); rintro e w5 ⟨rfl, hb⟩; rw [HHB1.out]; replace HBz := Aside0.mk (HBz.out.trans (Below.mono hb HBz.out.size)); replace HK := Aside0.mk (HK.out.below hb); replace HK5 := Aside0.mk (HK5.out.below hb); replace HK6 := Aside0.mk (HK6.out.below hb); obtain ⟨hk0, hk1, hk2, hh10, hh11, hh12, hh13, hh20, hh21, hh22, hh23⟩ := carried HK.out HK5.out HK6.out; clear hb)
      | (go_at_call 14; (with_reducible refine (known_calls (HL.out.below HBz.out)).mono ?_); rintro e wn ⟨rfl, hb⟩; replace HBz := Aside0.mk (HBz.out.trans (Below.mono hb HBz.out.size)); clear hb))
    go_ret
    exact ⟨rfl, HBz.out⟩
  have HHB1 := Aside0.mk hs
  clear hs
  rcases hs : handB ms.length r2 n2 d2 e2 with _ | _
  · have HHB2 := Aside0.mk hs
    clear hs
    go_enter Tryz.func9, Tryz.ntmps9
    go_wp2_with (first
      | (go_at_call 10; (with_reducible refine (HS0.out).mono ?_); rintro e w1 ⟨rfl, hb⟩; rw [HSS.out]; replace HBz := Aside0.mk (HBz.out.trans (Below.mono hb HBz.out.size)); replace HK := Aside0.mk (HK.out.below hb); replace HK5 := Aside0.mk (HK5.out.below hb); replace HK6 := Aside0.mk (HK6.out.below hb); obtain ⟨hk0, hk1, hk2, hh10, hh11, hh12, hh13, hh20, hh21, hh22, hh23⟩ := carried HK.out HK5.out HK6.out; clear hb)
      | (go_at_call 28; (with_reducible refine (brief_at (Kd.C_below HE1.out HBz.out) HQ1.out _ _ _).mono ?_); rintro e w2 ⟨rfl, hb⟩; rw [HBR1.out]; replace HBz := Aside0.mk (HBz.out.trans (Below.mono hb HBz.out.size)); replace HK := Aside0.mk (HK.out.below hb); replace HK5 := Aside0.mk (HK5.out.below hb); replace HK6 := Aside0.mk (HK6.out.below hb); obtain ⟨hk0, hk1, hk2, hh10, hh11, hh12, hh13, hh20, hh21, hh22, hh23⟩ := carried HK.out HK5.out HK6.out; clear hb)
      | (go_at_call 28; (with_reducible refine (brief_at (Kd.C_below HE2.out HBz.out) HQ2.out _ _ _).mono ?_); rintro e w3 ⟨rfl, hb⟩; rw [HBR2.out]; replace HBz := Aside0.mk (HBz.out.trans (Below.mono hb HBz.out.size)); replace HK := Aside0.mk (HK.out.below hb); replace HK5 := Aside0.mk (HK5.out.below hb); replace HK6 := Aside0.mk (HK6.out.below hb); obtain ⟨hk0, hk1, hk2, hh10, hh11, hh12, hh13, hh20, hh21, hh22, hh23⟩ := carried HK.out HK5.out HK6.out; clear hb)
      | (go_at_call 11; (with_reducible refine (piece_at (HPR.out.below HBz.out)).mono ?_); rintro e w4 ⟨rfl, hb⟩; rw [HPB.out]; replace HBz := Aside0.mk (HBz.out.trans (Below.mono hb HBz.out.size)); replace HK := Aside0.mk (HK.out.below hb); replace HK5 := Aside0.mk (HK5.out.below hb); replace HK6 := Aside0.mk (HK6.out.below hb); obtain ⟨hk0, hk1, hk2, hh10, hh11, hh12, hh13, hh20, hh21, hh22, hh23⟩ := carried HK.out HK5.out HK6.out; clear hb)
      | (go_at_call 30; (with_reducible refine (Hand_at (HPR.out.below HBz.out) (HER1.out.below HBz.out) _ _ _).mono ?_); rintro e w5 ⟨rfl, hb⟩; rw [HHB1.out]; replace HBz := Aside0.mk (HBz.out.trans (Below.mono hb HBz.out.size)); replace HK := Aside0.mk (HK.out.below hb); replace HK5 := Aside0.mk (HK5.out.below hb); replace HK6 := Aside0.mk (HK6.out.below hb); obtain ⟨hk0, hk1, hk2, hh10, hh11, hh12, hh13, hh20, hh21, hh22, hh23⟩ := carried HK.out HK5.out HK6.out; clear hb)
      | (go_at_call 30; (with_reducible refine (Hand_at (HPR.out.below HBz.out) (HER2.out.below HBz.out) _ _ _).mono ?_); rintro e w6 ⟨rfl, hb⟩; rw [HHB2.out]; replace HBz := Aside0.mk (HBz.out.trans (Below.mono hb HBz.out.size)); replace HK := Aside0.mk (HK.out.below hb); replace HK5 := Aside0.mk (HK5.out.below hb); replace HK6 := Aside0.mk (HK6.out.below hb); obtain ⟨hk0, hk1, hk2, hh10, hh11, hh12, hh13, hh20, hh21, hh22, hh23⟩ := carried HK.out HK5.out HK6.out; clear hb)
      | (go_at_call 14; (with_reducible refine (known_calls (HL.out.below HBz.out)).mono ?_); rintro e wn ⟨rfl, hb⟩; replace HBz := Aside0.mk (HBz.out.trans (Below.mono hb HBz.out.size)); clear hb))
    go_ret
    exact ⟨rfl, HBz.out⟩
  have HHB2 := Aside0.mk hs
  clear hs
  rcases hs : playsB ms pl with _ | _
  · have HYB := Aside0.mk hs
    clear hs
    go_enter Tryz.func9, Tryz.ntmps9
    go_wp2_with (first
      | (go_at_call 10; (with_reducible refine (HS0.out).mono ?_); rintro e w1 ⟨rfl, hb⟩; rw [HSS.out]; replace HBz := Aside0.mk (HBz.out.trans (Below.mono hb HBz.out.size)); replace HK := Aside0.mk (HK.out.below hb); replace HK5 := Aside0.mk (HK5.out.below hb); replace HK6 := Aside0.mk (HK6.out.below hb); obtain ⟨hk0, hk1, hk2, hh10, hh11, hh12, hh13, hh20, hh21, hh22, hh23⟩ := carried HK.out HK5.out HK6.out; clear hb)
      | (go_at_call 28; (with_reducible refine (brief_at (Kd.C_below HE1.out HBz.out) HQ1.out _ _ _).mono ?_); rintro e w2 ⟨rfl, hb⟩; rw [HBR1.out]; replace HBz := Aside0.mk (HBz.out.trans (Below.mono hb HBz.out.size)); replace HK := Aside0.mk (HK.out.below hb); replace HK5 := Aside0.mk (HK5.out.below hb); replace HK6 := Aside0.mk (HK6.out.below hb); obtain ⟨hk0, hk1, hk2, hh10, hh11, hh12, hh13, hh20, hh21, hh22, hh23⟩ := carried HK.out HK5.out HK6.out; clear hb)
      | (go_at_call 28; (with_reducible refine (brief_at (Kd.C_below HE2.out HBz.out) HQ2.out _ _ _).mono ?_); rintro e w3 ⟨rfl, hb⟩; rw [HBR2.out]; replace HBz := Aside0.mk (HBz.out.trans (Below.mono hb HBz.out.size)); replace HK := Aside0.mk (HK.out.below hb); replace HK5 := Aside0.mk (HK5.out.below hb); replace HK6 := Aside0.mk (HK6.out.below hb); obtain ⟨hk0, hk1, hk2, hh10, hh11, hh12, hh13, hh20, hh21, hh22, hh23⟩ := carried HK.out HK5.out HK6.out; clear hb)
      | (go_at_call 11; (with_reducible refine (piece_at (HPR.out.below HBz.out)).mono ?_); rintro e w4 ⟨rfl, hb⟩; rw [HPB.out]; replace HBz := Aside0.mk (HBz.out.trans (Below.mono hb HBz.out.size)); replace HK := Aside0.mk (HK.out.below hb); replace HK5 := Aside0.mk (HK5.out.below hb); replace HK6 := Aside0.mk (HK6.out.below hb); obtain ⟨hk0, hk1, hk2, hh10, hh11, hh12, hh13, hh20, hh21, hh22, hh23⟩ := carried HK.out HK5.out HK6.out; clear hb)
      | (go_at_call 30; (with_reducible refine (Hand_at (HPR.out.below HBz.out) (HER1.out.below HBz.out) _ _ _).mono ?_); rintro e w5 ⟨rfl, hb⟩; rw [HHB1.out]; replace HBz := Aside0.mk (HBz.out.trans (Below.mono hb HBz.out.size)); replace HK := Aside0.mk (HK.out.below hb); replace HK5 := Aside0.mk (HK5.out.below hb); replace HK6 := Aside0.mk (HK6.out.below hb); obtain ⟨hk0, hk1, hk2, hh10, hh11, hh12, hh13, hh20, hh21, hh22, hh23⟩ := carried HK.out HK5.out HK6.out; clear hb)
      | (go_at_call 30; (with_reducible refine (Hand_at (HPR.out.below HBz.out) (HER2.out.below HBz.out) _ _ _).mono ?_); rintro e w6 ⟨rfl, hb⟩; rw [HHB2.out]; replace HBz := Aside0.mk (HBz.out.trans (Below.mono hb HBz.out.size)); replace HK := Aside0.mk (HK.out.below hb); replace HK5 := Aside0.mk (HK5.out.below hb); replace HK6 := Aside0.mk (HK6.out.below hb); obtain ⟨hk0, hk1, hk2, hh10, hh11, hh12, hh13, hh20, hh21, hh22, hh23⟩ := carried HK.out HK5.out HK6.out; clear hb)
      | (go_at_call 12; (with_reducible refine (plays_at (HPR.out.below HBz.out) (HIR.out.below HBz.out)).mono ?_); rintro e w7 ⟨rfl, hb⟩; rw [HYB.out]; replace HBz := Aside0.mk (HBz.out.trans (Below.mono hb HBz.out.size)); replace HK := Aside0.mk (HK.out.below hb); replace HK5 := Aside0.mk (HK5.out.below hb); replace HK6 := Aside0.mk (HK6.out.below hb); obtain ⟨hk0, hk1, hk2, hh10, hh11, hh12, hh13, hh20, hh21, hh22, hh23⟩ := carried HK.out HK5.out HK6.out; clear hb)
      | (go_at_call 14; (with_reducible refine (known_calls (HL.out.below HBz.out)).mono ?_); rintro e wn ⟨rfl, hb⟩; replace HBz := Aside0.mk (HBz.out.trans (Below.mono hb HBz.out.size)); clear hb))
    go_ret
    exact ⟨rfl, HBz.out⟩
  have HYB := Aside0.mk hs
  have HLM := Aside0.mk (plays_len hs)
  clear hs
  have HOKP := Aside0.mk (plays_ok HYB.out)
  rcases hs : (okB pl ms && fitB rs pl mv) with _ | _
  · have HFB := Aside0.mk hs
    clear hs
    go_enter Tryz.func9, Tryz.ntmps9
    go_wp2_with (first
      | (go_at_call 10; (with_reducible refine (HS0.out).mono ?_); rintro e w1 ⟨rfl, hb⟩; rw [HSS.out]; replace HBz := Aside0.mk (HBz.out.trans (Below.mono hb HBz.out.size)); replace HK := Aside0.mk (HK.out.below hb); replace HK5 := Aside0.mk (HK5.out.below hb); replace HK6 := Aside0.mk (HK6.out.below hb); obtain ⟨hk0, hk1, hk2, hh10, hh11, hh12, hh13, hh20, hh21, hh22, hh23⟩ := carried HK.out HK5.out HK6.out; clear hb)
      | (go_at_call 28; (with_reducible refine (brief_at (Kd.C_below HE1.out HBz.out) HQ1.out _ _ _).mono ?_); rintro e w2 ⟨rfl, hb⟩; rw [HBR1.out]; replace HBz := Aside0.mk (HBz.out.trans (Below.mono hb HBz.out.size)); replace HK := Aside0.mk (HK.out.below hb); replace HK5 := Aside0.mk (HK5.out.below hb); replace HK6 := Aside0.mk (HK6.out.below hb); obtain ⟨hk0, hk1, hk2, hh10, hh11, hh12, hh13, hh20, hh21, hh22, hh23⟩ := carried HK.out HK5.out HK6.out; clear hb)
      | (go_at_call 28; (with_reducible refine (brief_at (Kd.C_below HE2.out HBz.out) HQ2.out _ _ _).mono ?_); rintro e w3 ⟨rfl, hb⟩; rw [HBR2.out]; replace HBz := Aside0.mk (HBz.out.trans (Below.mono hb HBz.out.size)); replace HK := Aside0.mk (HK.out.below hb); replace HK5 := Aside0.mk (HK5.out.below hb); replace HK6 := Aside0.mk (HK6.out.below hb); obtain ⟨hk0, hk1, hk2, hh10, hh11, hh12, hh13, hh20, hh21, hh22, hh23⟩ := carried HK.out HK5.out HK6.out; clear hb)
      | (go_at_call 11; (with_reducible refine (piece_at (HPR.out.below HBz.out)).mono ?_); rintro e w4 ⟨rfl, hb⟩; rw [HPB.out]; replace HBz := Aside0.mk (HBz.out.trans (Below.mono hb HBz.out.size)); replace HK := Aside0.mk (HK.out.below hb); replace HK5 := Aside0.mk (HK5.out.below hb); replace HK6 := Aside0.mk (HK6.out.below hb); obtain ⟨hk0, hk1, hk2, hh10, hh11, hh12, hh13, hh20, hh21, hh22, hh23⟩ := carried HK.out HK5.out HK6.out; clear hb)
      | (go_at_call 30; (with_reducible refine (Hand_at (HPR.out.below HBz.out) (HER1.out.below HBz.out) _ _ _).mono ?_); rintro e w5 ⟨rfl, hb⟩; rw [HHB1.out]; replace HBz := Aside0.mk (HBz.out.trans (Below.mono hb HBz.out.size)); replace HK := Aside0.mk (HK.out.below hb); replace HK5 := Aside0.mk (HK5.out.below hb); replace HK6 := Aside0.mk (HK6.out.below hb); obtain ⟨hk0, hk1, hk2, hh10, hh11, hh12, hh13, hh20, hh21, hh22, hh23⟩ := carried HK.out HK5.out HK6.out; clear hb)
      | (go_at_call 30; (with_reducible refine (Hand_at (HPR.out.below HBz.out) (HER2.out.below HBz.out) _ _ _).mono ?_); rintro e w6 ⟨rfl, hb⟩; rw [HHB2.out]; replace HBz := Aside0.mk (HBz.out.trans (Below.mono hb HBz.out.size)); replace HK := Aside0.mk (HK.out.below hb); replace HK5 := Aside0.mk (HK5.out.below hb); replace HK6 := Aside0.mk (HK6.out.below hb); obtain ⟨hk0, hk1, hk2, hh10, hh11, hh12, hh13, hh20, hh21, hh22, hh23⟩ := carried HK.out HK5.out HK6.out; clear hb)
      | (go_at_call 12; (with_reducible refine (plays_at (HPR.out.below HBz.out) (HIR.out.below HBz.out)).mono ?_); rintro e w7 ⟨rfl, hb⟩; rw [HYB.out]; replace HBz := Aside0.mk (HBz.out.trans (Below.mono hb HBz.out.size)); replace HK := Aside0.mk (HK.out.below hb); replace HK5 := Aside0.mk (HK5.out.below hb); replace HK6 := Aside0.mk (HK6.out.below hb); obtain ⟨hk0, hk1, hk2, hh10, hh11, hh12, hh13, hh20, hh21, hh22, hh23⟩ := carried HK.out HK5.out HK6.out; clear hb)
      | (go_at_call 26; (with_reducible refine (refFits_calls (HPR.out.below HBz.out) (HIR.out.below HBz.out) HPB.out HOKP.out HLM.out).mono ?_); rintro e w8 ⟨rfl, hb⟩; rw [HFB.out]; replace HBz := Aside0.mk (HBz.out.trans (Below.mono hb HBz.out.size)); replace HK := Aside0.mk (HK.out.below hb); replace HK5 := Aside0.mk (HK5.out.below hb); replace HK6 := Aside0.mk (HK6.out.below hb); obtain ⟨hk0, hk1, hk2, hh10, hh11, hh12, hh13, hh20, hh21, hh22, hh23⟩ := carried HK.out HK5.out HK6.out; clear hb)
      | (go_at_call 14; (with_reducible refine (known_calls (HL.out.below HBz.out)).mono ?_); rintro e wn ⟨rfl, hb⟩; replace HBz := Aside0.mk (HBz.out.trans (Below.mono hb HBz.out.size)); clear hb))
    go_ret
    exact ⟨rfl, HBz.out⟩
  have HFB := Aside0.mk hs
  clear hs
  obtain ⟨⟨ha1, ha1'⟩, hp1⟩ := handB_P HHB1.out
  obtain ⟨⟨ha2, ha2'⟩, hp2⟩ := handB_P HHB2.out
  obtain ⟨a1, rfl⟩ : ∃ a1 : Nat, r1 = (a1 : Int) := ⟨r1.toNat, by omega⟩
  obtain ⟨a2, rfl⟩ : ∃ a2 : Nat, r2 = (a2 : Int) := ⟨r2.toNat, by omega⟩
  obtain ⟨hok, hfit⟩ : okB pl ms = true ∧ fitB rs pl mv = true := by simpa using HFB.out
  have hmem := truth_mem HPB.out HOKP.out hok HLM.out hfit
  obtain ⟨p1, p2, p3, p4⟩ := piece_len HPB.out
  have hask : askE ms mv rs true = 0 := by
    unfold askE
    rw [HPB.out]
    simp only [Bool.and_self, if_true]
    exact if_neg (fun e => by rw [e] at hmem; simp at hmem)
  have HOK : Aside0 (ranB ms mv rs pl = true) := ⟨by simp [ranB, HPB.out, show playsB ms pl = true from HYB.out, hok]⟩
  obtain ⟨-, hokm, hple, -, hpl4, hmv8, hrun⟩ := ran_form HOK.out
  obtain ⟨s, hs⟩ : ∃ s, s = overL (apartT a1 n1 d1 e1 a2 n2 d2 e2) (truthsL ms mv rs) := ⟨_, rfl⟩
  obtain ⟨t, ht⟩ : ∃ t, t = overL (apartT a2 n2 d2 e2 a1 n1 d1 e1) (truthsL ms mv rs) := ⟨_, rfl⟩
  obtain ⟨a, ha⟩ : ∃ a, a = overL (showsT a1 n1 d1 e1) (truthsL ms mv rs) := ⟨_, rfl⟩
  obtain ⟨b, hbE⟩ : ∃ b, b = overL (showsT a2 n2 d2 e2) (truthsL ms mv rs) := ⟨_, rfl⟩
  obtain ⟨⟨t0, t1⟩, ⟨g1, g2, g3, g4⟩, ⟨g5, g6⟩, ⟨g7, g8⟩, ⟨g9, g10⟩, g11, g12, g13, g14⟩ := apart_ends HPB.out hp1 hp2 (by omega) (by omega) hmem hs ht ha hbE
  have HA1 : Aside0 (∀ {u : World}, Below w.heap.size w u → Calls Tryz.prog 29 #[.agg #[.slice A0 ms.length c0, .slice A1 mv.length c1, .slice A2 rs.length c2], .agg #[.int .i64 (a1 : Int), .int .i64 n1, .int .i64 d1, .slice AE1 e1.length ce1], .agg #[.int .i64 (a2 : Int), .int .i64 n2, .int .i64 d2, .slice AE2 e2.length ce2]] u fun e w' => e = .returned (.tuple #[.agg #[.int .i64 s.f0, .int .i64 s.f1], .int .i64 0]) ∧ Below u.heap.size u w') := ⟨fun {u} hu => by
    refine (Apart_ok (HPR.out.below hu) a1 n1 d1 (HER1.out.below hu) a2 n2 d2 (HER2.out.below hu) HHB1.out (by rw [HHB2.out]; exact hask)).mono ?_
    rintro e w' ⟨rfl, hb⟩
    refine ⟨?_, hb⟩
    rw [HHB1.out, HHB2.out, Bool.true_and, hask, apartOf, HHB1.out, HHB2.out, Bool.true_and, if_pos hask, Int.toNat_natCast, Int.toNat_natCast, ← hs]
    rfl⟩
  have HA2 : Aside0 (∀ {u : World}, Below w.heap.size w u → Calls Tryz.prog 29 #[.agg #[.slice A0 ms.length c0, .slice A1 mv.length c1, .slice A2 rs.length c2], .agg #[.int .i64 (a2 : Int), .int .i64 n2, .int .i64 d2, .slice AE2 e2.length ce2], .agg #[.int .i64 (a1 : Int), .int .i64 n1, .int .i64 d1, .slice AE1 e1.length ce1]] u fun e w' => e = .returned (.tuple #[.agg #[.int .i64 t.f0, .int .i64 t.f1], .int .i64 0]) ∧ Below u.heap.size u w') := ⟨fun {u} hu => by
    refine (Apart_ok (HPR.out.below hu) a2 n2 d2 (HER2.out.below hu) a1 n1 d1 (HER1.out.below hu) HHB2.out (by rw [HHB1.out]; exact hask)).mono ?_
    rintro e w' ⟨rfl, hb⟩
    refine ⟨?_, hb⟩
    rw [HHB1.out, HHB2.out, Bool.true_and, hask, apartOf, HHB1.out, HHB2.out, Bool.true_and, if_pos hask, Int.toNat_natCast, Int.toNat_natCast, ← ht]
    rfl⟩
  have HW1 : Aside0 (∀ {u : World}, Below w.heap.size w u → Calls Tryz.prog 32 #[.agg #[.slice A0 ms.length c0, .slice A1 mv.length c1, .slice A2 rs.length c2], .agg #[.int .i64 (a1 : Int), .int .i64 n1, .int .i64 d1, .slice AE1 e1.length ce1]] u fun e w' => e = .returned (.tuple #[.agg #[.int .i64 a.f0, .int .i64 a.f1], .int .i64 0]) ∧ Below u.heap.size u w') := ⟨fun {u} hu => by
    refine (Shows_calls (HPR.out.below hu) a1 n1 d1 (HER1.out.below hu)).mono ?_
    rintro e w' ⟨rfl, hb⟩
    refine ⟨?_, hb⟩
    rw [HHB1.out, hask, showsOf, HHB1.out, if_pos hask, Int.toNat_natCast, ← ha]
    rfl⟩
  have HW2 : Aside0 (∀ {u : World}, Below w.heap.size w u → Calls Tryz.prog 32 #[.agg #[.slice A0 ms.length c0, .slice A1 mv.length c1, .slice A2 rs.length c2], .agg #[.int .i64 (a2 : Int), .int .i64 n2, .int .i64 d2, .slice AE2 e2.length ce2]] u fun e w' => e = .returned (.tuple #[.agg #[.int .i64 b.f0, .int .i64 b.f1], .int .i64 0]) ∧ Below u.heap.size u w') := ⟨fun {u} hu => by
    refine (Shows_calls (HPR.out.below hu) a2 n2 d2 (HER2.out.below hu)).mono ?_
    rintro e w' ⟨rfl, hb⟩
    refine ⟨?_, hb⟩
    rw [HHB2.out, hask, showsOf, HHB2.out, if_pos hask, Int.toNat_natCast, ← hbE]
    rfl⟩
  obtain ⟨l, hl⟩ : ∃ l, lastC pl mv = l := ⟨_, rfl⟩
  have hlb : ∀ v ∈ l, -2800 ≤ v ∧ v ≤ 2400 := by rw [← hl]; exact (truthsL_form HPB.out hmem HLM.out).2.2.2
  have hll : l.length = ms.length + 1 := by rw [← hl]; exact (truthsL_mem hmem).2
  rw [hl] at g9 g10
  obtain ⟨v1, hv1⟩ : ∃ v, l[a1]? = some v := ⟨_, List.getElem?_eq_getElem (by omega)⟩
  obtain ⟨v2, hv2⟩ : ∃ v, l[a2]? = some v := ⟨_, List.getElem?_eq_getElem (by omega)⟩
  have hb1 := hlb v1 (List.mem_of_getElem? hv1)
  have hb2 := hlb v2 (List.mem_of_getElem? hv2)
  obtain ⟨X, hX⟩ : ∃ X, X = showsF n1 d1 e1 v1 := ⟨_, rfl⟩
  obtain ⟨Y, hY⟩ : ∃ Y, Y = showsF n2 d2 e2 v2 := ⟨_, rfl⟩
  have eX : showsT a1 n1 d1 e1 ⟨pl, l⟩ = X := by rw [hX]; simp [showsT, List.getD_eq_getElem?_getD, hv1]
  have eY : showsT a2 n2 d2 e2 ⟨pl, l⟩ = Y := by rw [hY]; simp [showsT, List.getD_eq_getElem?_getD, hv2]
  simp only [apartT, eX, eY] at g9 g10
  have hXb := shows_small hp1 (v := v1) (by omega) (by omega)
  have hYb := shows_small hp2 (v := v2) (by omega) (by omega)
  rw [← hX] at hXb
  rw [← hY] at hYb
  have HC1 : Aside0 (∀ {u : World}, Below w.heap.size w u → Calls Tryz.prog 33 #[.agg #[.int .i64 (a1 : Int), .int .i64 n1, .int .i64 d1, .slice AE1 e1.length ce1], .int .i64 v1] u fun e w' => e = .returned (.agg #[.int .i64 X.f0, .int .i64 X.f1]) ∧ Below u.heap.size u w') := ⟨fun {u} hu => by
    rw [hX]
    exact Shown_at (HER1.out.below hu) a1 hp1 (by omega) (by omega)⟩
  have HC2 : Aside0 (∀ {u : World}, Below w.heap.size w u → Calls Tryz.prog 33 #[.agg #[.int .i64 (a2 : Int), .int .i64 n2, .int .i64 d2, .slice AE2 e2.length ce2], .int .i64 v2] u fun e w' => e = .returned (.agg #[.int .i64 Y.f0, .int .i64 Y.f1]) ∧ Below u.heap.size u w') := ⟨fun {u} hu => by
    rw [hY]
    exact Shown_at (HER2.out.below hu) a2 hp2 (by omega) (by omega)⟩
  have hlast : (runL pl mv)[mv.length]? = some l := by rw [hrun, ← hl]; exact runC_last pl mv
  have HRN : Aside0 (∀ {u : World}, Below w.heap.size w u → Calls Tryz.prog 15 #[.agg #[.slice A0 ms.length c0, .slice A1 mv.length c1, .slice A2 rs.length c2], .slice A pl.length c] u fun e w' => (∃ ad ae cap ce qg qa qb, e = .returned (.slice (some ad) (mv.length + 1) cap) ∧ ad.add mv.length = qg ∧ ae.add a1 = qa ∧ ae.add a2 = qb ∧ w'.cell? qg = some (.slice (some ae) l.length ce) ∧ w'.cell? qa = some (.int .i64 v1) ∧ w'.cell? qb = some (.int .i64 v2)) ∧ Below u.heap.size u w') := ⟨fun {u} hu => run_two (HPR.out.below hu) (HIR.out.below hu) HOK.out hlast hv1 hv2⟩
  have hz0 : (((mv.length : Int) + 1) == 0) = false := by simp; omega
  have hx1 : ¬ a.f0 < -1000000 := by omega
  have hx2 : ¬ 1000000 < a.f1 := by omega
  have hx3 : ¬ b.f0 < -1000000 := by omega
  have hx4 : ¬ 1000000 < b.f1 := by omega
  have hx5 : ¬ s.f0 < a.f0 - b.f1 := by omega
  have hx6 : ¬ a.f1 - b.f0 < s.f1 := by omega
  have hi1 : (0 : Int) ≤ (a1 : Int) := by omega
  have hi2 : (a1 : Int) < (l.length : Int) := by omega
  have hi3 : (0 : Int) ≤ (a2 : Int) := by omega
  have hi4 : (a2 : Int) < (l.length : Int) := by omega
  have hi5 : (mv.length : Int) < (mv.length : Int) + 1 := by omega
  have hwA : IntKind.i64.wrap (a.f0 - b.f1) = a.f0 - b.f1 := IntWalk.i64_in _ (by omega)
  have hwB : IntKind.i64.wrap (a.f1 - b.f0) = a.f1 - b.f0 := IntWalk.i64_in _ (by omega)
  have hwC : IntKind.i64.wrap (-t.f1) = s.f0 := (IntWalk.i64_in _ (by omega)).trans (by omega)
  have hwD : IntKind.i64.wrap (-t.f0) = s.f1 := (IntWalk.i64_in _ (by omega)).trans (by omega)
  have hwE : IntKind.i64.wrap (X.f0 - Y.f1) = X.f0 - Y.f1 := IntWalk.i64_in _ (by omega)
  have hwF : IntKind.i64.wrap (X.f1 - Y.f0) = X.f1 - Y.f0 := IntWalk.i64_in _ (by omega)
  have hwA' := (i64_w _).symm.trans hwA
  have hwB' := (i64_w _).symm.trans hwB
  have hwC' := (i64_w _).symm.trans hwC
  have hwD' := (i64_w _).symm.trans hwD
  have HWE := Aside0.mk hwE
  have HWF := Aside0.mk hwF
  have HWE' := Aside0.mk ((i64_w _).symm.trans hwE)
  have HWF' := Aside0.mk ((i64_w _).symm.trans hwF)
  have HG9 := Aside0.mk g9
  have HG10 := Aside0.mk g10
  clear g1 g2 g3 g4 g5 g6 g7 g8 g9 g10 g11 g12 g13 g14 t0 t1 ha hs ht hbE hX hY hXb hYb eX eY hb1 hb2 hlb hll hwE hwF hv1 hv2 hl ha1 ha1' ha2 ha2' hp1 hp2 hok hfit hmem p1 p2 p3 p4 hask hokm hple hlast hpl4 hmv8 hrun hm6 hv10 hr8 hp6'
  go_enter Tryz.func9, Tryz.ntmps9
  go_upto_region 12 with (first
    | (go_at_call 10; (with_reducible refine (HS0.out).mono ?_); rintro e w1 ⟨rfl, hb⟩; rw [HSS.out]; replace HBz := Aside0.mk (HBz.out.trans (Below.mono hb HBz.out.size)); replace HK := Aside0.mk (HK.out.below hb); replace HK5 := Aside0.mk (HK5.out.below hb); replace HK6 := Aside0.mk (HK6.out.below hb); obtain ⟨hk0, hk1, hk2, hh10, hh11, hh12, hh13, hh20, hh21, hh22, hh23⟩ := carried HK.out HK5.out HK6.out; clear hb)
    | (go_at_call 28; (with_reducible refine (brief_at (Kd.C_below HE1.out HBz.out) HQ1.out _ _ _).mono ?_); rintro e w2 ⟨rfl, hb⟩; rw [HBR1.out]; replace HBz := Aside0.mk (HBz.out.trans (Below.mono hb HBz.out.size)); replace HK := Aside0.mk (HK.out.below hb); replace HK5 := Aside0.mk (HK5.out.below hb); replace HK6 := Aside0.mk (HK6.out.below hb); obtain ⟨hk0, hk1, hk2, hh10, hh11, hh12, hh13, hh20, hh21, hh22, hh23⟩ := carried HK.out HK5.out HK6.out; clear hb)
    | (go_at_call 28; (with_reducible refine (brief_at (Kd.C_below HE2.out HBz.out) HQ2.out _ _ _).mono ?_); rintro e w3 ⟨rfl, hb⟩; rw [HBR2.out]; replace HBz := Aside0.mk (HBz.out.trans (Below.mono hb HBz.out.size)); replace HK := Aside0.mk (HK.out.below hb); replace HK5 := Aside0.mk (HK5.out.below hb); replace HK6 := Aside0.mk (HK6.out.below hb); obtain ⟨hk0, hk1, hk2, hh10, hh11, hh12, hh13, hh20, hh21, hh22, hh23⟩ := carried HK.out HK5.out HK6.out; clear hb)
    | (go_at_call 11; (with_reducible refine (piece_at (HPR.out.below HBz.out)).mono ?_); rintro e w4 ⟨rfl, hb⟩; rw [HPB.out]; replace HBz := Aside0.mk (HBz.out.trans (Below.mono hb HBz.out.size)); replace HK := Aside0.mk (HK.out.below hb); replace HK5 := Aside0.mk (HK5.out.below hb); replace HK6 := Aside0.mk (HK6.out.below hb); obtain ⟨hk0, hk1, hk2, hh10, hh11, hh12, hh13, hh20, hh21, hh22, hh23⟩ := carried HK.out HK5.out HK6.out; clear hb)
    | (go_at_call 30; (with_reducible refine (Hand_at (HPR.out.below HBz.out) (HER1.out.below HBz.out) _ _ _).mono ?_); rintro e w5 ⟨rfl, hb⟩; rw [HHB1.out]; replace HBz := Aside0.mk (HBz.out.trans (Below.mono hb HBz.out.size)); replace HK := Aside0.mk (HK.out.below hb); replace HK5 := Aside0.mk (HK5.out.below hb); replace HK6 := Aside0.mk (HK6.out.below hb); obtain ⟨hk0, hk1, hk2, hh10, hh11, hh12, hh13, hh20, hh21, hh22, hh23⟩ := carried HK.out HK5.out HK6.out; clear hb)
    | (go_at_call 30; (with_reducible refine (Hand_at (HPR.out.below HBz.out) (HER2.out.below HBz.out) _ _ _).mono ?_); rintro e w6 ⟨rfl, hb⟩; rw [HHB2.out]; replace HBz := Aside0.mk (HBz.out.trans (Below.mono hb HBz.out.size)); replace HK := Aside0.mk (HK.out.below hb); replace HK5 := Aside0.mk (HK5.out.below hb); replace HK6 := Aside0.mk (HK6.out.below hb); obtain ⟨hk0, hk1, hk2, hh10, hh11, hh12, hh13, hh20, hh21, hh22, hh23⟩ := carried HK.out HK5.out HK6.out; clear hb)
    | (go_at_call 12; (with_reducible refine (plays_at (HPR.out.below HBz.out) (HIR.out.below HBz.out)).mono ?_); rintro e w7 ⟨rfl, hb⟩; rw [HYB.out]; replace HBz := Aside0.mk (HBz.out.trans (Below.mono hb HBz.out.size)); replace HK := Aside0.mk (HK.out.below hb); replace HK5 := Aside0.mk (HK5.out.below hb); replace HK6 := Aside0.mk (HK6.out.below hb); obtain ⟨hk0, hk1, hk2, hh10, hh11, hh12, hh13, hh20, hh21, hh22, hh23⟩ := carried HK.out HK5.out HK6.out; clear hb)
    | (go_at_call 26; (with_reducible refine (refFits_calls (HPR.out.below HBz.out) (HIR.out.below HBz.out) HPB.out HOKP.out HLM.out).mono ?_); rintro e w8 ⟨rfl, hb⟩; rw [HFB.out]; replace HBz := Aside0.mk (HBz.out.trans (Below.mono hb HBz.out.size)); replace HK := Aside0.mk (HK.out.below hb); replace HK5 := Aside0.mk (HK5.out.below hb); replace HK6 := Aside0.mk (HK6.out.below hb); obtain ⟨hk0, hk1, hk2, hh10, hh11, hh12, hh13, hh20, hh21, hh22, hh23⟩ := carried HK.out HK5.out HK6.out; clear hb)
    | (go_at_call 29; (with_reducible refine (HA1.out HBz.out).mono ?_); rintro e w9 ⟨rfl, hb⟩; replace HBz := Aside0.mk (below_alloc (HBz.out.trans (Below.mono hb HBz.out.size)) (.cells #[.int .i64 s.f0, .int .i64 s.f1] 44)); replace HK := Aside0.mk ((HK.out.below hb).alloc (.cells #[.int .i64 s.f0, .int .i64 s.f1] 44)); replace HK5 := Aside0.mk ((HK5.out.below hb).alloc (.cells #[.int .i64 s.f0, .int .i64 s.f1] 44)); replace HK6 := Aside0.mk ((HK6.out.below hb).alloc (.cells #[.int .i64 s.f0, .int .i64 s.f1] 44)); have HNs := Aside0.mk (Blk.new w9 #[.int .i64 s.f0, .int .i64 s.f1] 44); obtain ⟨hk0, hk1, hk2, hh10, hh11, hh12, hh13, hh20, hh21, hh22, hh23⟩ := carried HK.out HK5.out HK6.out; clear hb)
    | (go_at_call 29; (with_reducible refine (HA2.out HBz.out).mono ?_); rintro e w10 ⟨rfl, hb⟩; replace HBz := Aside0.mk (below_alloc (HBz.out.trans (Below.mono hb HBz.out.size)) (.cells #[.int .i64 t.f0, .int .i64 t.f1] 44)); replace HK := Aside0.mk ((HK.out.below hb).alloc (.cells #[.int .i64 t.f0, .int .i64 t.f1] 44)); replace HK5 := Aside0.mk ((HK5.out.below hb).alloc (.cells #[.int .i64 t.f0, .int .i64 t.f1] 44)); replace HK6 := Aside0.mk ((HK6.out.below hb).alloc (.cells #[.int .i64 t.f0, .int .i64 t.f1] 44)); replace HNs := Aside0.mk ((HNs.out.below hb).alloc (.cells #[.int .i64 t.f0, .int .i64 t.f1] 44)); have HNt := Aside0.mk (Blk.new w10 #[.int .i64 t.f0, .int .i64 t.f1] 44); obtain ⟨hk0, hk1, hk2, hh10, hh11, hh12, hh13, hh20, hh21, hh22, hh23⟩ := carried HK.out HK5.out HK6.out; clear hb)
    | (go_at_call 32; (with_reducible refine (HW1.out HBz.out).mono ?_); rintro e w11 ⟨rfl, hb⟩; replace HBz := Aside0.mk (below_alloc (HBz.out.trans (Below.mono hb HBz.out.size)) (.cells #[.int .i64 a.f0, .int .i64 a.f1] 44)); replace HK := Aside0.mk ((HK.out.below hb).alloc (.cells #[.int .i64 a.f0, .int .i64 a.f1] 44)); replace HK5 := Aside0.mk ((HK5.out.below hb).alloc (.cells #[.int .i64 a.f0, .int .i64 a.f1] 44)); replace HK6 := Aside0.mk ((HK6.out.below hb).alloc (.cells #[.int .i64 a.f0, .int .i64 a.f1] 44)); replace HNs := Aside0.mk ((HNs.out.below hb).alloc (.cells #[.int .i64 a.f0, .int .i64 a.f1] 44)); replace HNt := Aside0.mk ((HNt.out.below hb).alloc (.cells #[.int .i64 a.f0, .int .i64 a.f1] 44)); have HNa := Aside0.mk (Blk.new w11 #[.int .i64 a.f0, .int .i64 a.f1] 44); obtain ⟨hk0, hk1, hk2, hh10, hh11, hh12, hh13, hh20, hh21, hh22, hh23⟩ := carried HK.out HK5.out HK6.out; clear hb)
    | (go_at_call 32; (with_reducible refine (HW2.out HBz.out).mono ?_); rintro e w12 ⟨rfl, hb⟩; replace HBz := Aside0.mk (below_alloc (HBz.out.trans (Below.mono hb HBz.out.size)) (.cells #[.int .i64 b.f0, .int .i64 b.f1] 44)); replace HK := Aside0.mk ((HK.out.below hb).alloc (.cells #[.int .i64 b.f0, .int .i64 b.f1] 44)); replace HK5 := Aside0.mk ((HK5.out.below hb).alloc (.cells #[.int .i64 b.f0, .int .i64 b.f1] 44)); replace HK6 := Aside0.mk ((HK6.out.below hb).alloc (.cells #[.int .i64 b.f0, .int .i64 b.f1] 44)); replace HNs := Aside0.mk ((HNs.out.below hb).alloc (.cells #[.int .i64 b.f0, .int .i64 b.f1] 44)); replace HNt := Aside0.mk ((HNt.out.below hb).alloc (.cells #[.int .i64 b.f0, .int .i64 b.f1] 44)); replace HNa := Aside0.mk ((HNa.out.below hb).alloc (.cells #[.int .i64 b.f0, .int .i64 b.f1] 44)); have HNb := Aside0.mk (Blk.new w12 #[.int .i64 b.f0, .int .i64 b.f1] 44); obtain ⟨hk0, hk1, hk2, hh10, hh11, hh12, hh13, hh20, hh21, hh22, hh23⟩ := carried HK.out HK5.out HK6.out; clear hb)
    | (go_at_call 15; (with_reducible refine (HRN.out HBz.out).mono ?_); rintro e w13 ⟨⟨ad, ae, cap, ce, qg, qa, qb, rfl, hqg, hqa, hqb, hcg, hcv1, hcv2⟩, hb⟩; replace HBz := Aside0.mk (HBz.out.trans (Below.mono hb HBz.out.size)); replace HK := Aside0.mk (HK.out.below hb); replace HK5 := Aside0.mk (HK5.out.below hb); replace HK6 := Aside0.mk (HK6.out.below hb); obtain ⟨hk0, hk1, hk2, hh10, hh11, hh12, hh13, hh20, hh21, hh22, hh23⟩ := carried HK.out HK5.out HK6.out; replace HNs := Aside0.mk (HNs.out.below hb); have hns0 := HNs.out.cell 0 rfl; have hns1 := HNs.out.cell 1 rfl; replace HNt := Aside0.mk (HNt.out.below hb); have hnt0 := HNt.out.cell 0 rfl; have hnt1 := HNt.out.cell 1 rfl; replace HNa := Aside0.mk (HNa.out.below hb); have hna0 := HNa.out.cell 0 rfl; have hna1 := HNa.out.cell 1 rfl; replace HNb := Aside0.mk (HNb.out.below hb); have hnb0 := HNb.out.cell 0 rfl; have hnb1 := HNb.out.cell 1 rfl; clear hb))
  have HCG := Aside0.mk hcg
  have HCA := Aside0.mk hcv1
  have HCB := Aside0.mk hcv2
  have hL0 := HK6.out.lt
  have hL1 := World.block_lt_of_cell? _ _ hcg
  have hL2 := World.block_lt_of_cell? _ _ hcv1
  have hL3 := World.block_lt_of_cell? _ _ hcv2
  clear hx1 hx2 hx3 hx4 hx5 hx6 hwA hwB hwC hwD hwA' hwB' hwC' hwD' hz0 hns0 hns1 hnt0 hnt1 hna0 hna1 hnb0 hnb1
  go_cut [18, 19] (fun s5 s6 wx => ∃ b5 b6, s5 = .pointer (some ⟨b5, 0, none⟩) ∧ s6 = .pointer (some ⟨b6, 0, none⟩) ∧ Aside0 (wx.cell? ⟨b5, 0, none⟩ = some (.int .i64 X.f0)) ∧ Aside0 (wx.cell? ⟨b5, 1, none⟩ = some (.int .i64 X.f1)) ∧ Aside0 (wx.cell? ⟨b6, 0, none⟩ = some (.int .i64 Y.f0)) ∧ Aside0 (wx.cell? ⟨b6, 1, none⟩ = some (.int .i64 Y.f1)) ∧ Aside0 (Below w13.heap.size w13 wx))
  case first =>
    go_region_held3 (fun w' => w'.cell? ⟨w.heap.size, 1, none⟩ = some (.slice A1 mv.length c1) ∧ w'.cell? ⟨w.heap.size + 1, 0, none⟩ = some (.int .i64 (a1 : Int)) ∧ w'.cell? ⟨w.heap.size + 1, 1, none⟩ = some (.int .i64 n1) ∧ w'.cell? ⟨w.heap.size + 1, 2, none⟩ = some (.int .i64 d1) ∧ w'.cell? ⟨w.heap.size + 1, 3, none⟩ = some (.slice AE1 e1.length ce1) ∧ w'.cell? ⟨w.heap.size + 1 + 1, 0, none⟩ = some (.int .i64 (a2 : Int)) ∧ w'.cell? ⟨w.heap.size + 1 + 1, 1, none⟩ = some (.int .i64 n2) ∧ w'.cell? ⟨w.heap.size + 1 + 1, 2, none⟩ = some (.int .i64 d2) ∧ w'.cell? ⟨w.heap.size + 1 + 1, 3, none⟩ = some (.slice AE2 e2.length ce2) ∧ w'.cell? qg = some (.slice (some ae) l.length ce) ∧ w'.cell? qa = some (.int .i64 v1) ∧ w'.cell? qb = some (.int .i64 v2)) (first | go_keep | ((refine ⟨?_, ?_, ?_, ?_, ?_, ?_, ?_, ?_, ?_, ?_, ?_, ?_⟩) <;> (repeat (first | (with_reducible assumption) | (with_reducible refine set_far ?_ (by dsimp only; omega)) | (with_reducible refine cell_old ?_ _))))) (first | (go_at_call 33; (with_reducible refine (HC1.out ?_).mono ?_); (repeat (first | exact HBz.out | apply below_alloc | apply below_drew1)); rintro e w1 ⟨rfl, hx1⟩; have hbx1 : Below w13.heap.size w13 w1 := bthen (by repeat (first | exact Below.refl _ _ | apply below_alloc | apply below_drew1)) hx1; have HBx1 := Aside0.mk hbx1; have HBw1 := Aside0.mk (HBz.out.trans (hbx1.mono HBz.out.size)); obtain ⟨hk1a, hk1b⟩ := bcell hx1; have hz1 := hx1.size; (try (have HZA1 := Aside0.mk (Blk.below (Blk.drew (Blk.new w13 #[.int .i64 0, .int .i64 0] 44)) hx1); have hza1l := HZA1.out.lt)); (try (have HZA1 := Aside0.mk (Blk.below (Blk.drew ((Blk.new w13 #[.int .i64 0, .int .i64 0] 44).alloc (.cells #[.int .i64 0, .int .i64 0] 44))) hx1); have hza1l := HZA1.out.lt)); (try (have hzz := Blk.below (Blk.drew (Blk.new (w13.alloc (.cells #[.int .i64 0, .int .i64 0] 44)) #[.int .i64 0, .int .i64 0] 44)) hx1; rw [World.size_alloc] at hzz; have HZB1 := Aside0.mk hzz; have hzb1l := hzz.lt; clear hzz)); have hzz1 := hbx1.size; have hs1_0 : w1.cell? ⟨w.heap.size, 1, none⟩ = some (.slice A1 mv.length c1) := (HK.out.below hbx1).cell 1 rfl; have hs1_1 : w1.cell? ⟨w.heap.size + 1, 0, none⟩ = some (.int .i64 (a1 : Int)) := (HK5.out.below hbx1).cell 0 rfl; have hs1_2 : w1.cell? ⟨w.heap.size + 1, 1, none⟩ = some (.int .i64 n1) := (HK5.out.below hbx1).cell 1 rfl; have hs1_3 : w1.cell? ⟨w.heap.size + 1, 2, none⟩ = some (.int .i64 d1) := (HK5.out.below hbx1).cell 2 rfl; have hs1_4 : w1.cell? ⟨w.heap.size + 1, 3, none⟩ = some (.slice AE1 e1.length ce1) := (HK5.out.below hbx1).cell 3 rfl; have hs1_5 : w1.cell? ⟨w.heap.size + 1 + 1, 0, none⟩ = some (.int .i64 (a2 : Int)) := (HK6.out.below hbx1).cell 0 rfl; have hs1_6 : w1.cell? ⟨w.heap.size + 1 + 1, 1, none⟩ = some (.int .i64 n2) := (HK6.out.below hbx1).cell 1 rfl; have hs1_7 : w1.cell? ⟨w.heap.size + 1 + 1, 2, none⟩ = some (.int .i64 d2) := (HK6.out.below hbx1).cell 2 rfl; have hs1_8 : w1.cell? ⟨w.heap.size + 1 + 1, 3, none⟩ = some (.slice AE2 e2.length ce2) := (HK6.out.below hbx1).cell 3 rfl; have hs1_9 : w1.cell? qg = some (.slice (some ae) l.length ce) := pw_cell_below hbx1 HCG.out; have hs1_10 : w1.cell? qa = some (.int .i64 v1) := pw_cell_below hbx1 HCA.out; have hs1_11 : w1.cell? qb = some (.int .i64 v2) := pw_cell_below hbx1 HCB.out; have hl1_0 := (HK6.out.below hbx1).lt; have hl1_1 := World.block_lt_of_cell? _ _ hs1_9; have hl1_2 := World.block_lt_of_cell? _ _ hs1_10; have hl1_3 := World.block_lt_of_cell? _ _ hs1_11; clear hx1 hbx1) | (go_at_call 33; (with_reducible refine (HC2.out ?_).mono ?_); (repeat (first | exact HBw1.out | apply below_alloc | apply below_drew1)); rintro e w2 ⟨rfl, hx2⟩; have hbx2 : Below w13.heap.size w13 w2 := bthen (by repeat (first | exact Below.refl _ _ | exact HBx1.out | apply below_alloc | apply below_drew1)) hx2; have HBx2 := Aside0.mk hbx2; have HBw2 := Aside0.mk (HBz.out.trans (hbx2.mono HBz.out.size)); obtain ⟨hk2a, hk2b⟩ := bcell hx2; have hz2 := hx2.size; (try (have HZA2 := Aside0.mk (HZA1.out.below hx2); have hza2c0 := HZA2.out.cell 0 rfl; have hza2c1 := HZA2.out.cell 1 rfl; have hza2f0 := HZA2.out.free 0; have hza2f1 := HZA2.out.free 1; have hza2l := HZA2.out.lt)); (try (have HZA2 := Aside0.mk ((HZA1.out.alloc (.cells #[.int .i64 0, .int .i64 0] 44)).below hx2); have hza2c0 := HZA2.out.cell 0 rfl; have hza2c1 := HZA2.out.cell 1 rfl; have hza2f0 := HZA2.out.free 0; have hza2f1 := HZA2.out.free 1; have hza2l := HZA2.out.lt)); (try (have HZB2 := Aside0.mk (HZB1.out.below hx2); have hzb2c0 := HZB2.out.cell 0 rfl; have hzb2c1 := HZB2.out.cell 1 rfl; have hzb2f0 := HZB2.out.free 0; have hzb2f1 := HZB2.out.free 1; have hzb2l := HZB2.out.lt)); (try (have HZC2 := Aside0.mk (Blk.below (Blk.new w1 #[.int .i64 0, .int .i64 0] 44) hx2); have hzc2c0 := HZC2.out.cell 0 rfl; have hzc2c1 := HZC2.out.cell 1 rfl; have hzc2f0 := HZC2.out.free 0; have hzc2f1 := HZC2.out.free 1; have hzc2l := HZC2.out.lt)); (try (have HZC2 := Aside0.mk (Blk.below ((Blk.new w1 #[.int .i64 0, .int .i64 0] 44).alloc (.cells #[.int .i64 0, .int .i64 0] 44)) hx2); have hzc2c0 := HZC2.out.cell 0 rfl; have hzc2c1 := HZC2.out.cell 1 rfl; have hzc2f0 := HZC2.out.free 0; have hzc2f1 := HZC2.out.free 1; have hzc2l := HZC2.out.lt)); (try (have hzz := Blk.below (Blk.new (w1.alloc (.cells #[.int .i64 0, .int .i64 0] 44)) #[.int .i64 0, .int .i64 0] 44) hx2; rw [World.size_alloc] at hzz; have HZD2 := Aside0.mk hzz; clear hzz; have hzd2c0 := HZD2.out.cell 0 rfl; have hzd2c1 := HZD2.out.cell 1 rfl; have hzd2f0 := HZD2.out.free 0; have hzd2f1 := HZD2.out.free 1; have hzd2l := HZD2.out.lt)); have hzz2 := hbx2.size; have hs2_0 : w2.cell? ⟨w.heap.size, 1, none⟩ = some (.slice A1 mv.length c1) := (HK.out.below hbx2).cell 1 rfl; have hs2_1 : w2.cell? ⟨w.heap.size + 1, 0, none⟩ = some (.int .i64 (a1 : Int)) := (HK5.out.below hbx2).cell 0 rfl; have hs2_2 : w2.cell? ⟨w.heap.size + 1, 1, none⟩ = some (.int .i64 n1) := (HK5.out.below hbx2).cell 1 rfl; have hs2_3 : w2.cell? ⟨w.heap.size + 1, 2, none⟩ = some (.int .i64 d1) := (HK5.out.below hbx2).cell 2 rfl; have hs2_4 : w2.cell? ⟨w.heap.size + 1, 3, none⟩ = some (.slice AE1 e1.length ce1) := (HK5.out.below hbx2).cell 3 rfl; have hs2_5 : w2.cell? ⟨w.heap.size + 1 + 1, 0, none⟩ = some (.int .i64 (a2 : Int)) := (HK6.out.below hbx2).cell 0 rfl; have hs2_6 : w2.cell? ⟨w.heap.size + 1 + 1, 1, none⟩ = some (.int .i64 n2) := (HK6.out.below hbx2).cell 1 rfl; have hs2_7 : w2.cell? ⟨w.heap.size + 1 + 1, 2, none⟩ = some (.int .i64 d2) := (HK6.out.below hbx2).cell 2 rfl; have hs2_8 : w2.cell? ⟨w.heap.size + 1 + 1, 3, none⟩ = some (.slice AE2 e2.length ce2) := (HK6.out.below hbx2).cell 3 rfl; have hs2_9 : w2.cell? qg = some (.slice (some ae) l.length ce) := pw_cell_below hbx2 HCG.out; have hs2_10 : w2.cell? qa = some (.int .i64 v1) := pw_cell_below hbx2 HCA.out; have hs2_11 : w2.cell? qb = some (.int .i64 v2) := pw_cell_below hbx2 HCB.out; have hl2_0 := (HK6.out.below hbx2).lt; have hl2_1 := World.block_lt_of_cell? _ _ hs2_9; have hl2_2 := World.block_lt_of_cell? _ _ hs2_10; have hl2_3 := World.block_lt_of_cell? _ _ hs2_11; clear hx2 hbx2))
    all_goals (go_wp2_with fail; go_meet)
    all_goals (have ne1 : w13.heap.size ≠ w13.heap.size + 1 := by omega)
    all_goals (have ne2 : w13.heap.size + 1 ≠ w13.heap.size := by omega)
    all_goals (refine ⟨_, _, rfl, rfl, ⟨?_⟩, ⟨?_⟩, ⟨?_⟩, ⟨?_⟩, ⟨?_⟩⟩)
    all_goals first
      | (repeat (first | exact HBx2.out | apply below_alloc | (refine below_set ?_ (by omega)))); done
      | (go_simp; done)
      | (with_reducible exact (two_blk HZA2.out HZB2.out ne1 _ _ _ _).1)
      | (with_reducible exact (two_blk HZA2.out HZB2.out ne1 _ _ _ _).2.1)
      | (with_reducible exact (two_blk HZA2.out HZB2.out ne1 _ _ _ _).2.2.1)
      | (with_reducible exact (two_blk HZA2.out HZB2.out ne1 _ _ _ _).2.2.2)
      | (with_reducible exact (two_blk HZB2.out HZA2.out ne2 _ _ _ _).1)
      | (with_reducible exact (two_blk HZB2.out HZA2.out ne2 _ _ _ _).2.1)
      | (with_reducible exact (two_blk HZB2.out HZA2.out ne2 _ _ _ _).2.2.1)
      | (with_reducible exact (two_blk HZB2.out HZA2.out ne2 _ _ _ _).2.2.2)
      | fail
  case rest =>
    obtain ⟨b5, b6, rfl, rfl, HP0, HP1, HQ0, HQ1, HBx⟩ := hcut
    obtain ⟨wx, rfl⟩ : ∃ wx : World, wx = wc := ⟨_, rfl⟩
    have k0 := HP0.out
    have k1 := HP1.out
    have k2 := HQ0.out
    have k3 := HQ1.out
    replace HBz := Aside0.mk (HBz.out.trans (Below.mono HBx.out HBz.out.size))
    have hk9 := HNs.out.below HBx.out
    have hn0 := hk9.cell 0 rfl
    have hn1 := hk9.cell 1 rfl
    clear hk9
    have hwE := HWE.out
    have hwF := HWF.out
    have hwE' := HWE'.out
    have hwF' := HWF'.out
    have g9 := HG9.out
    have g10 := HG10.out
    go_wp2_with (first
      | (go_at_call 14; (with_reducible refine (known_calls (HL.out.below HBz.out)).mono ?_); rintro e wn ⟨rfl, hb⟩; replace HBz := Aside0.mk (HBz.out.trans (Below.mono hb HBz.out.size)); clear hb))
    go_ret
    exact ⟨rfl, HBz.out⟩
end
end Go.Proofs.YtaojkmalpihmbaaGreatDoor.M
