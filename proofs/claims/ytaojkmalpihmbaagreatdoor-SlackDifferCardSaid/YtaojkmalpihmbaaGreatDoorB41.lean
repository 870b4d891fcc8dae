import Derived.Test.YtaojkmalpihmbaaGreatDoorB40
import Derived.Deep.RegionHeld3
namespace Go.Proofs.YtaojkmalpihmbaaGreatDoor.M
open Go.RowKit Go.Proofs.YtaojkmalpihmbaaGreatDoorW.PrintWords Go.Proofs.YtaojkmalpihmbaaGreatDoorW.PrintLast Go.Proofs.YtaojkmalpihmbaaGreatDoorW.PrintMore Go.Proofs.YtaojkmalpihmbaaGreatDoor.Q
set_option linter.unusedVariables false
set_option linter.unusedSimpArgs false

/-! known. -/
set_option maxHeartbeats 8000000 in
set_option maxRecDepth 100000 in
theorem known_calls {w : World} (h : LibW w) : Calls Tryz.prog 14 #[] w fun e w' => e = .returned (.bool true) ∧ Below w.heap.size w w' := by
  have HL := Aside0.mk h
  clear h
  go_enter Tryz.func14, Tryz.ntmps14
  have HB0 := Aside0.mk (Below.refl w.heap.size w)
  go_upto_region 2 with (first
    | (go_at_call 36; (with_reducible refine (P_at _).mono ?_); rintro e wa ⟨⟨A0, c0, A1, c1, A2, c2, rfl, hpr⟩, hb⟩; have HB1 := Aside0.mk (HB0.out.trans (Below.mono hb HB0.out.size)); have HP := Aside0.mk hpr; clear hb hpr)
    | (go_at_call 35; (with_reducible refine (Run_at (HP.out.below (below_alloc (Below.refl _ _) _)) three_ir).mono ?_); rintro e wb ⟨⟨Ar, cr, rfl, hr, hc⟩, hb⟩; have HB2 := Aside0.mk (HB1.out.trans (Below.mono (bthen (below_alloc (Below.refl _ _) _) hb) HB1.out.size)); replace HP := Aside0.mk (HP.out.below (bthen (below_alloc (Below.refl _ _) _) hb)); have HR := Aside0.mk hr; have HRc := Aside0.mk hc; clear hb hr hc))
  clear HP
  go_upto_region 3 with (first
    | (go_at_call 38; (with_reducible refine (Q_at _).mono ?_); rintro e wc ⟨⟨A0, c0, A1, c1, A2, c2, rfl, hpr⟩, hb⟩; have HB3 := Aside0.mk (HB2.out.trans (Below.mono hb HB2.out.size)); replace HR := Aside0.mk (Kd.C_below HR.out hb); have HP := Aside0.mk hpr; clear hb hpr)
    | (go_at_call 37; (with_reducible refine (Truths_at HP.out).mono ?_); rintro e wd ⟨rfl, hb⟩; have HB4 := Aside0.mk (HB3.out.trans (Below.mono hb HB3.out.size)); replace HR := Aside0.mk (Kd.C_below HR.out hb); replace HP := Aside0.mk (HP.out.below hb); clear hb ))
  clear HP
  go_upto_region 4 with (first
    | (go_at_call 36; (with_reducible refine (P_at _).mono ?_); rintro e we ⟨⟨A0, c0, A1, c1, A2, c2, rfl, hpr⟩, hb⟩; have HB5 := Aside0.mk (HB4.out.trans (Below.mono hb HB4.out.size)); replace HR := Aside0.mk (Kd.C_below HR.out hb); have HP := Aside0.mk hpr; clear hb hpr)
    | (go_at_call 17; (with_reducible refine (Known_at HP.out).mono ?_); rintro e wf ⟨⟨Ak, ck, rfl, hr, hc⟩, hb⟩; have HB6 := Aside0.mk (HB5.out.trans (Below.mono hb HB5.out.size)); replace HR := Aside0.mk (Kd.C_below HR.out hb); replace HP := Aside0.mk (HP.out.below hb); have HK := Aside0.mk hr; have HKc := Aside0.mk hc; clear hb hr hc))
  clear HP
  go_upto_region 5 with (first
    | (go_at_call 38; (with_reducible refine (Q_at _).mono ?_); rintro e wg ⟨⟨A0, c0, A1, c1, A2, c2, rfl, hpr⟩, hb⟩; have HB7 := Aside0.mk (HB6.out.trans (Below.mono hb HB6.out.size)); replace HR := Aside0.mk (Kd.C_below HR.out hb); replace HK := Aside0.mk (Kd.C_below HK.out hb); have HP := Aside0.mk hpr; clear hb hpr)
    | (go_at_call 18; (with_reducible refine (Plays_at HP.out).mono ?_); rintro e wh ⟨⟨Ay, cy, rfl, hr, hc⟩, hb⟩; have HB8 := Aside0.mk (HB7.out.trans (Below.mono hb HB7.out.size)); replace HR := Aside0.mk (Kd.C_below HR.out hb); replace HK := Aside0.mk (Kd.C_below HK.out hb); replace HP := Aside0.mk (HP.out.below hb); have HY := Aside0.mk hr; have HYc := Aside0.mk hc; clear hb hr hc))
  clear HP
  go_upto_region 6 with (first
    | (go_at_call 36; (with_reducible refine (P_at _).mono ?_); rintro e wi ⟨⟨A0, c0, A1, c1, A2, c2, rfl, hpr⟩, hb⟩; have HB9 := Aside0.mk (HB8.out.trans (Below.mono hb HB8.out.size)); replace HR := Aside0.mk (Kd.C_below HR.out hb); replace HK := Aside0.mk (Kd.C_below HK.out hb); replace HY := Aside0.mk (Kd.C_below HY.out hb); have HP := Aside0.mk hpr; clear hb hpr)
    | (go_at_call 23; (with_reducible refine (Lost_at HP.out).mono ?_); rintro e wj ⟨rfl, hb⟩; have HB10 := Aside0.mk (HB9.out.trans (Below.mono hb HB9.out.size)); replace HR := Aside0.mk (Kd.C_below HR.out hb); replace HK := Aside0.mk (Kd.C_below HK.out hb); replace HY := Aside0.mk (Kd.C_below HY.out hb); replace HP := Aside0.mk (HP.out.below hb); clear hb ))
  clear HP
  have hbX : Below wj.heap.size wj ((wj.alloc (.cells #[.int .i64 22, .int .i64 22] 44)).alloc (.cells #[.int .i64 13, .int .i64 19] 44)) := (below_alloc (below_alloc (Below.refl _ _) (.cells #[.int .i64 22, .int .i64 22] 44)) (.cells #[.int .i64 13, .int .i64 19] 44))
  have HB11 := Aside0.mk (HB10.out.trans (Below.mono hbX HB10.out.size))
  replace HR := Aside0.mk (Kd.C_below HR.out hbX)
  replace HK := Aside0.mk (Kd.C_below HK.out hbX)
  replace HY := Aside0.mk (Kd.C_below HY.out hbX)
  have hK9 := (Blk.new wj #[.int .i64 22, .int .i64 22] 44).alloc (.cells #[.int .i64 13, .int .i64 19] 44)
  have hK10 := Blk.new (wj.alloc (.cells #[.int .i64 22, .int .i64 22] 44)) #[.int .i64 13, .int .i64 19] 44
  rw [World.size_alloc] at hK10
  obtain ⟨xj, hX⟩ : ∃ X, ((wj.alloc (.cells #[.int .i64 22, .int .i64 22] 44)).alloc (.cells #[.int .i64 13, .int .i64 19] 44)) = X := ⟨_, rfl⟩
  obtain ⟨pxj, hpxj⟩ : ∃ p, wj.heap.size = p := ⟨_, rfl⟩
  rw [hX] at HR HK HY HB11 hK9 hK10 hbX ⊢
  rw [hpxj] at hK9 hK10 ⊢
  have K9 := Aside0.mk hK9
  have K10 := Aside0.mk hK10
  clear hX hpxj hbX hK9 hK10
  go_upto_region 7 with (first
    | (go_at_call 36; (with_reducible refine (P_at _).mono ?_); rintro e wk ⟨⟨A0, c0, A1, c1, A2, c2, rfl, hpr⟩, hb⟩; have HB12 := Aside0.mk (HB11.out.trans (Below.mono hb HB11.out.size)); replace HR := Aside0.mk (Kd.C_below HR.out hb); replace HK := Aside0.mk (Kd.C_below HK.out hb); replace HY := Aside0.mk (Kd.C_below HY.out hb); replace K9 := Aside0.mk (K9.out.below hb); replace K10 := Aside0.mk (K10.out.below hb); have HP := Aside0.mk hpr; clear hb hpr)
    | (go_at_call 39; (with_reducible refine (A_at _).mono ?_); rintro e wl ⟨⟨A5, c5, rfl, hpr⟩, hb⟩; have HB13 := Aside0.mk (HB12.out.trans (Below.mono hb HB12.out.size)); replace HR := Aside0.mk (Kd.C_below HR.out hb); replace HK := Aside0.mk (Kd.C_below HK.out hb); replace HY := Aside0.mk (Kd.C_below HY.out hb); replace K9 := Aside0.mk (K9.out.below hb); replace K10 := Aside0.mk (K10.out.below hb); replace HP := Aside0.mk (HP.out.below hb); have HE := Aside0.mk hpr; clear hb hpr)
    | (go_at_call 32; (with_reducible refine (Shows_at HP.out HE.out).mono ?_); rintro e wm ⟨rfl, hb⟩; have HB14 := Aside0.mk (HB13.out.trans (Below.mono hb HB13.out.size)); replace HR := Aside0.mk (Kd.C_below HR.out hb); replace HK := Aside0.mk (Kd.C_below HK.out hb); replace HY := Aside0.mk (Kd.C_below HY.out hb); replace K9 := Aside0.mk (K9.out.below hb); replace K10 := Aside0.mk (K10.out.below hb); replace HP := Aside0.mk (HP.out.below hb); replace HE := Aside0.mk (HE.out.below hb); clear hb ))
  clear HP
  clear HE
  have hbX : Below wm.heap.size wm (wm.alloc (.cells #[.int .i64 87, .int .i64 99] 44)) := (below_alloc (Below.refl _ _) (.cells #[.int .i64 87, .int .i64 99] 44))
  have HB15 := Aside0.mk (HB14.out.trans (Below.mono hbX HB14.out.size))
  replace HR := Aside0.mk (Kd.C_below HR.out hbX)
  replace HK := Aside0.mk (Kd.C_below HK.out hbX)
  replace HY := Aside0.mk (Kd.C_below HY.out hbX)
  replace K9 := Aside0.mk (K9.out.below hbX)
  replace K10 := Aside0.mk (K10.out.below hbX)
  have hK12 := Blk.new wm #[.int .i64 87, .int .i64 99] 44
  obtain ⟨xm, hX⟩ : ∃ X, (wm.alloc (.cells #[.int .i64 87, .int .i64 99] 44)) = X := ⟨_, rfl⟩
  obtain ⟨pxm, hpxm⟩ : ∃ p, wm.heap.size = p := ⟨_, rfl⟩
  rw [hX] at HR HK HY K9 K10 HB15 hK12 hbX ⊢
  rw [hpxm] at hK12 ⊢
  have K12 := Aside0.mk hK12
  clear hX hpxm hbX hK12
  go_upto_region 8 with (first
    | (go_at_call 36; (with_reducible refine (P_at _).mono ?_); rintro e wn ⟨⟨A0, c0, A1, c1, A2, c2, rfl, hpr⟩, hb⟩; have HB16 := Aside0.mk (HB15.out.trans (Below.mono hb HB15.out.size)); replace HR := Aside0.mk (Kd.C_below HR.out hb); replace HK := Aside0.mk (Kd.C_below HK.out hb); replace HY := Aside0.mk (Kd.C_below HY.out hb); replace K9 := Aside0.mk (K9.out.below hb); replace K10 := Aside0.mk (K10.out.below hb); replace K12 := Aside0.mk (K12.out.below hb); have HP := Aside0.mk hpr; clear hb hpr)
    | (go_at_call 40; (with_reducible refine (B_at _).mono ?_); rintro e wo ⟨⟨A6, c6, rfl, hpr⟩, hb⟩; have HB17 := Aside0.mk (HB16.out.trans (Below.mono hb HB16.out.size)); replace HR := Aside0.mk (Kd.C_below HR.out hb); replace HK := Aside0.mk (Kd.C_below HK.out hb); replace HY := Aside0.mk (Kd.C_below HY.out hb); replace K9 := Aside0.mk (K9.out.below hb); replace K10 := Aside0.mk (K10.out.below hb); replace K12 := Aside0.mk (K12.out.below hb); replace HP := Aside0.mk (HP.out.below hb); have HF := Aside0.mk hpr; clear hb hpr)
    | (go_at_call 39; (with_reducible refine (A_at _).mono ?_); rintro e wp ⟨⟨A5, c5, rfl, hpr⟩, hb⟩; have HB18 := Aside0.mk (HB17.out.trans (Below.mono hb HB17.out.size)); replace HR := Aside0.mk (Kd.C_below HR.out hb); replace HK := Aside0.mk (Kd.C_below HK.out hb); replace HY := Aside0.mk (Kd.C_below HY.out hb); replace K9 := Aside0.mk (K9.out.below hb); replace K10 := Aside0.mk (K10.out.below hb); replace K12 := Aside0.mk (K12.out.below hb); replace HP := Aside0.mk (HP.out.below hb); replace HF := Aside0.mk (HF.out.below hb); have HE := Aside0.mk hpr; clear hb hpr)
    | (go_at_call 29; (with_reducible refine (Apart_at HP.out HF.out HE.out).mono ?_); rintro e wq ⟨rfl, hb⟩; have HB19 := Aside0.mk (HB18.out.trans (Below.mono hb HB18.out.size)); replace HR := Aside0.mk (Kd.C_below HR.out hb); replace HK := Aside0.mk (Kd.C_below HK.out hb); replace HY := Aside0.mk (Kd.C_below HY.out hb); replace K9 := Aside0.mk (K9.out.below hb); replace K10 := Aside0.mk (K10.out.below hb); replace K12 := Aside0.mk (K12.out.below hb); replace HP := Aside0.mk (HP.out.below hb); replace HF := Aside0.mk (HF.out.below hb); replace HE := Aside0.mk (HE.out.below hb); clear hb ))
  clear HP
  clear HE
  clear HF
  have hbX : Below wq.heap.size wq (wq.alloc (.cells #[.int .i64 (-29), .int .i64 (-17)] 44)) := (below_alloc (Below.refl _ _) (.cells #[.int .i64 (-29), .int .i64 (-17)] 44))
  have HB20 := Aside0.mk (HB19.out.trans (Below.mono hbX HB19.out.size))
  replace HR := Aside0.mk (Kd.C_below HR.out hbX)
  replace HK := Aside0.mk (Kd.C_below HK.out hbX)
  replace HY := Aside0.mk (Kd.C_below HY.out hbX)
  replace K9 := Aside0.mk (K9.out.below hbX)
  replace K10 := Aside0.mk (K10.out.below hbX)
  replace K12 := Aside0.mk (K12.out.below hbX)
  have hK14 := Blk.new wq #[.int .i64 (-29), .int .i64 (-17)] 44
  obtain ⟨xq, hX⟩ : ∃ X, (wq.alloc (.cells #[.int .i64 (-29), .int .i64 (-17)] 44)) = X := ⟨_, rfl⟩
  obtain ⟨pxq, hpxq⟩ : ∃ p, wq.heap.size = p := ⟨_, rfl⟩
  rw [hX] at HR HK HY K9 K10 K12 HB20 hK14 hbX ⊢
  rw [hpxq] at hK14 ⊢
  have K14 := Aside0.mk hK14
  clear hX hpxq hbX hK14
  go_upto_region 9 with (first
    | (go_at_call 36; (with_reducible refine (P_at _).mono ?_); rintro e wr ⟨⟨A0, c0, A1, c1, A2, c2, rfl, hpr⟩, hb⟩; have HB21 := Aside0.mk (HB20.out.trans (Below.mono hb HB20.out.size)); replace HR := Aside0.mk (Kd.C_below HR.out hb); replace HK := Aside0.mk (Kd.C_below HK.out hb); replace HY := Aside0.mk (Kd.C_below HY.out hb); replace K9 := Aside0.mk (K9.out.below hb); replace K10 := Aside0.mk (K10.out.below hb); replace K12 := Aside0.mk (K12.out.below hb); replace K14 := Aside0.mk (K14.out.below hb); have HP := Aside0.mk hpr; clear hb hpr)
    | (go_at_call 41; (with_reducible refine (Aim_at HP.out).mono ?_); rintro e ws ⟨rfl, hb⟩; have HB22 := Aside0.mk (HB21.out.trans (Below.mono hb HB21.out.size)); replace HR := Aside0.mk (Kd.C_below HR.out hb); replace HK := Aside0.mk (Kd.C_below HK.out hb); replace HY := Aside0.mk (Kd.C_below HY.out hb); replace K9 := Aside0.mk (K9.out.below hb); replace K10 := Aside0.mk (K10.out.below hb); replace K12 := Aside0.mk (K12.out.below hb); replace K14 := Aside0.mk (K14.out.below hb); replace HP := Aside0.mk (HP.out.below hb); clear hb ))
  clear HP
  go_upto_region 10 with (first
    | (go_at_call 36; (with_reducible refine (P_at _).mono ?_); rintro e wt ⟨⟨A0, c0, A1, c1, A2, c2, rfl, hpr⟩, hb⟩; have HB23 := Aside0.mk (HB22.out.trans (Below.mono hb HB22.out.size)); replace HR := Aside0.mk (Kd.C_below HR.out hb); replace HK := Aside0.mk (Kd.C_below HK.out hb); replace HY := Aside0.mk (Kd.C_below HY.out hb); replace K9 := Aside0.mk (K9.out.below hb); replace K10 := Aside0.mk (K10.out.below hb); replace K12 := Aside0.mk (K12.out.below hb); replace K14 := Aside0.mk (K14.out.below hb); have HP := Aside0.mk hpr; clear hb hpr)
    | (go_at_call 42; (with_reducible refine (Renew_at (HP.out.below (below_alloc (Below.refl _ _) _)) three_ir).mono ?_); rintro e wu ⟨⟨An, cn, rfl, hr⟩, hb⟩; have HB24 := Aside0.mk (HB23.out.trans (Below.mono (bthen (below_alloc (Below.refl _ _) _) hb) HB23.out.size)); replace HR := Aside0.mk (Kd.C_below HR.out (bthen (below_alloc (Below.refl _ _) _) hb)); replace HK := Aside0.mk (Kd.C_below HK.out (bthen (below_alloc (Below.refl _ _) _) hb)); replace HY := Aside0.mk (Kd.C_below HY.out (bthen (below_alloc (Below.refl _ _) _) hb)); replace K9 := Aside0.mk (K9.out.below (bthen (below_alloc (Below.refl _ _) _) hb)); replace K10 := Aside0.mk (K10.out.below (bthen (below_alloc (Below.refl _ _) _) hb)); replace K12 := Aside0.mk (K12.out.below (bthen (below_alloc (Below.refl _ _) _) hb)); replace K14 := Aside0.mk (K14.out.below (bthen (below_alloc (Below.refl _ _) _) hb)); replace HP := Aside0.mk (HP.out.below (bthen (below_alloc (Below.refl _ _) _) hb)); have HN := Aside0.mk hr; clear hb hr))
  clear HP
  go_upto_region 11 with (first
    | (go_at_call 36; (with_reducible refine (P_at _).mono ?_); rintro e wv ⟨⟨A0, c0, A1, c1, A2, c2, rfl, hpr⟩, hb⟩; have HB25 := Aside0.mk (HB24.out.trans (Below.mono hb HB24.out.size)); replace HR := Aside0.mk (Kd.C_below HR.out hb); replace HK := Aside0.mk (Kd.C_below HK.out hb); replace HY := Aside0.mk (Kd.C_below HY.out hb); replace K9 := Aside0.mk (K9.out.below hb); replace K10 := Aside0.mk (K10.out.below hb); replace K12 := Aside0.mk (K12.out.below hb); replace K14 := Aside0.mk (K14.out.below hb); replace HN := Aside0.mk (HN.out.below hb); have HP := Aside0.mk hpr; clear hb hpr)
    | (go_at_call 43; (with_reducible refine (Look_at HP.out).mono ?_); rintro e ww ⟨rfl, hb⟩; have HB26 := Aside0.mk (HB25.out.trans (Below.mono hb HB25.out.size)); replace HR := Aside0.mk (Kd.C_below HR.out hb); replace HK := Aside0.mk (Kd.C_below HK.out hb); replace HY := Aside0.mk (Kd.C_below HY.out hb); replace K9 := Aside0.mk (K9.out.below hb); replace K10 := Aside0.mk (K10.out.below hb); replace K12 := Aside0.mk (K12.out.below hb); replace K14 := Aside0.mk (K14.out.below hb); replace HN := Aside0.mk (HN.out.below hb); replace HP := Aside0.mk (HP.out.below hb); clear hb ))
  clear HP
  go_upto_region 12 with (first
    | (go_at_call 44; (with_reducible refine (Read_at (HL.out.below HB26.out)).mono ?_); rintro e wx ⟨⟨Ap, cp, Ao, co, rfl, hr⟩, hb⟩; have HB27 := Aside0.mk (HB26.out.trans (Below.mono hb HB26.out.size)); replace HR := Aside0.mk (Kd.C_below HR.out hb); replace HK := Aside0.mk (Kd.C_below HK.out hb); replace HY := Aside0.mk (Kd.C_below HY.out hb); replace K9 := Aside0.mk (K9.out.below hb); replace K10 := Aside0.mk (K10.out.below hb); replace K12 := Aside0.mk (K12.out.below hb); replace K14 := Aside0.mk (K14.out.below hb); replace HN := Aside0.mk (HN.out.below hb); have HZ := Aside0.mk hr; clear hb hr))
  have hbX : Below wx.heap.size wx (wx.alloc (.cells #[.slice Ap 1 cp, .slice Ao 0 co, .slice none 0 0] 26)) := (below_alloc (Below.refl _ _) (.cells #[.slice Ap 1 cp, .slice Ao 0 co, .slice none 0 0] 26))
  have HB28 := Aside0.mk (HB27.out.trans (Below.mono hbX HB27.out.size))
  replace HR := Aside0.mk (Kd.C_below HR.out hbX)
  replace HK := Aside0.mk (Kd.C_below HK.out hbX)
  replace HY := Aside0.mk (Kd.C_below HY.out hbX)
  replace K9 := Aside0.mk (K9.out.below hbX)
  replace K10 := Aside0.mk (K10.out.below hbX)
  replace K12 := Aside0.mk (K12.out.below hbX)
  replace K14 := Aside0.mk (K14.out.below hbX)
  replace HN := Aside0.mk (HN.out.below hbX)
  replace HZ := Aside0.mk (HZ.out.below hbX)
  have hK24 := Blk.new wx #[.slice Ap 1 cp, .slice Ao 0 co, .slice none 0 0] 26
  obtain ⟨xx, hX⟩ : ∃ X, (wx.alloc (.cells #[.slice Ap 1 cp, .slice Ao 0 co, .slice none 0 0] 26)) = X := ⟨_, rfl⟩
  obtain ⟨pxx, hpxx⟩ : ∃ p, wx.heap.size = p := ⟨_, rfl⟩
  rw [hX] at HR HK HY K9 K10 K12 K14 HN HZ HB28 hK24 hbX ⊢
  rw [hpxx] at hK24 ⊢
  have K24 := Aside0.mk hK24
  clear hX hpxx hbX hK24
  have HBz := HB28
  go_upto_region 14 with (first
    | fail)
  go_upto_region 16 with (first
    | (go_at_call 45; (with_reducible refine (SameLists_at (Kd.C_below HR.out (below_alloc (below_alloc (below_alloc (below_alloc (below_alloc (Below.refl _ _) _) _) _) _) _)) HRc.out (lit_runs xx) (by decide)).mono ?_); rintro e wz ⟨rfl, hb⟩; replace HR := Aside0.mk (Kd.C_below HR.out (bthen (below_alloc (below_alloc (below_alloc (below_alloc (below_alloc (Below.refl _ _) _) _) _) _) _) hb)); replace HK := Aside0.mk (Kd.C_below HK.out (bthen (below_alloc (below_alloc (below_alloc (below_alloc (below_alloc (Below.refl _ _) _) _) _) _) _) hb)); replace HY := Aside0.mk (Kd.C_below HY.out (bthen (below_alloc (below_alloc (below_alloc (below_alloc (below_alloc (Below.refl _ _) _) _) _) _) _) hb)); replace K9 := Aside0.mk (K9.out.below (bthen (below_alloc (below_alloc (below_alloc (below_alloc (below_alloc (Below.refl _ _) _) _) _) _) _) hb)); replace K10 := Aside0.mk (K10.out.below (bthen (below_alloc (below_alloc (below_alloc (below_alloc (below_alloc (Below.refl _ _) _) _) _) _) _) hb)); replace K12 := Aside0.mk (K12.out.below (bthen (below_alloc (below_alloc (below_alloc (below_alloc (below_alloc (Below.refl _ _) _) _) _) _) _) hb)); replace K14 := Aside0.mk (K14.out.below (bthen (below_alloc (below_alloc (below_alloc (below_alloc (below_alloc (Below.refl _ _) _) _) _) _) _) hb)); replace HN := Aside0.mk (HN.out.below (bthen (below_alloc (below_alloc (below_alloc (below_alloc (below_alloc (Below.refl _ _) _) _) _) _) _) hb)); replace HZ := Aside0.mk (HZ.out.below (bthen (below_alloc (below_alloc (below_alloc (below_alloc (below_alloc (Below.refl _ _) _) _) _) _) _) hb)); replace K24 := Aside0.mk (K24.out.below (bthen (below_alloc (below_alloc (below_alloc (below_alloc (below_alloc (Below.refl _ _) _) _) _) _) _) hb)); replace HBz := Aside0.mk (HBz.out.trans (Below.mono (bthen (below_alloc (below_alloc (below_alloc (below_alloc (below_alloc (Below.refl _ _) _) _) _) _) _) hb) HBz.out.size)); clear hb)
    | (go_at_call 46; (with_reducible refine (span_at _ _ _).mono ?_); rintro e wz ⟨rfl, hb⟩; replace HR := Aside0.mk (Kd.C_below HR.out hb); replace HK := Aside0.mk (Kd.C_below HK.out hb); replace HY := Aside0.mk (Kd.C_below HY.out hb); replace K9 := Aside0.mk (K9.out.below hb); replace K10 := Aside0.mk (K10.out.below hb); replace K12 := Aside0.mk (K12.out.below hb); replace K14 := Aside0.mk (K14.out.below hb); replace HN := Aside0.mk (HN.out.below hb); replace HZ := Aside0.mk (HZ.out.below hb); replace K24 := Aside0.mk (K24.out.below hb); replace HBz := Aside0.mk (HBz.out.trans (Below.mono hb HBz.out.size)); clear hb)
    | (go_at_call 20; (with_reducible refine (SameSpans_k (Kd.C_below HK.out (below_alloc (Below.refl _ _) _)) HKc.out spans4_C (by decide)).mono ?_); rintro e wz ⟨rfl, hb⟩; replace HR := Aside0.mk (Kd.C_below HR.out (bthen (below_alloc (Below.refl _ _) _) hb)); replace HK := Aside0.mk (Kd.C_below HK.out (bthen (below_alloc (Below.refl _ _) _) hb)); replace HY := Aside0.mk (Kd.C_below HY.out (bthen (below_alloc (Below.refl _ _) _) hb)); replace K9 := Aside0.mk (K9.out.below (bthen (below_alloc (Below.refl _ _) _) hb)); replace K10 := Aside0.mk (K10.out.below (bthen (below_alloc (Below.refl _ _) _) hb)); replace K12 := Aside0.mk (K12.out.below (bthen (below_alloc (Below.refl _ _) _) hb)); replace K14 := Aside0.mk (K14.out.below (bthen (below_alloc (Below.refl _ _) _) hb)); replace HN := Aside0.mk (HN.out.below (bthen (below_alloc (Below.refl _ _) _) hb)); replace HZ := Aside0.mk (HZ.out.below (bthen (below_alloc (Below.refl _ _) _) hb)); replace K24 := Aside0.mk (K24.out.below (bthen (below_alloc (Below.refl _ _) _) hb)); replace HBz := Aside0.mk (HBz.out.trans (Below.mono (bthen (below_alloc (Below.refl _ _) _) hb) HBz.out.size)); clear hb)
    | (go_at_call 20; (with_reducible refine (SameSpans_y (Kd.C_below HY.out (below_alloc (Below.refl _ _) _)) HYc.out spans3_C (by decide)).mono ?_); rintro e wz ⟨rfl, hb⟩; replace HR := Aside0.mk (Kd.C_below HR.out (bthen (below_alloc (Below.refl _ _) _) hb)); replace HK := Aside0.mk (Kd.C_below HK.out (bthen (below_alloc (Below.refl _ _) _) hb)); replace HY := Aside0.mk (Kd.C_below HY.out (bthen (below_alloc (Below.refl _ _) _) hb)); replace K9 := Aside0.mk (K9.out.below (bthen (below_alloc (Below.refl _ _) _) hb)); replace K10 := Aside0.mk (K10.out.below (bthen (below_alloc (Below.refl _ _) _) hb)); replace K12 := Aside0.mk (K12.out.below (bthen (below_alloc (Below.refl _ _) _) hb)); replace K14 := Aside0.mk (K14.out.below (bthen (below_alloc (Below.refl _ _) _) hb)); replace HN := Aside0.mk (HN.out.below (bthen (below_alloc (Below.refl _ _) _) hb)); replace HZ := Aside0.mk (HZ.out.below (bthen (below_alloc (Below.refl _ _) _) hb)); replace K24 := Aside0.mk (K24.out.below (bthen (below_alloc (Below.refl _ _) _) hb)); replace HBz := Aside0.mk (HBz.out.trans (Below.mono (bthen (below_alloc (Below.refl _ _) _) hb) HBz.out.size)); clear hb))
  have hc90 : wz.cell? ⟨pxj, 0, none⟩ = some (.int .i64 22) := K9.out.cell 0 rfl
  have hc91 : wz.cell? ⟨pxj, 1, none⟩ = some (.int .i64 22) := K9.out.cell 1 rfl
  have hl9 : pxj < wz.heap.size := K9.out.lt
  have hc100 : wz.cell? ⟨pxj + 1, 0, none⟩ = some (.int .i64 13) := K10.out.cell 0 rfl
  have hc101 : wz.cell? ⟨pxj + 1, 1, none⟩ = some (.int .i64 19) := K10.out.cell 1 rfl
  have hl10 : pxj + 1 < wz.heap.size := K10.out.lt
  have hc120 : wz.cell? ⟨pxm, 0, none⟩ = some (.int .i64 87) := K12.out.cell 0 rfl
  have hc121 : wz.cell? ⟨pxm, 1, none⟩ = some (.int .i64 99) := K12.out.cell 1 rfl
  have hl12 : pxm < wz.heap.size := K12.out.lt
  have hc140 : wz.cell? ⟨pxq, 0, none⟩ = some (.int .i64 (-29)) := K14.out.cell 0 rfl
  have hc141 : wz.cell? ⟨pxq, 1, none⟩ = some (.int .i64 (-17)) := K14.out.cell 1 rfl
  have hl14 : pxq < wz.heap.size := K14.out.lt
  go_cut [192] (fun s wx => s = .bool false ∧ Aside0 (Below wz.heap.size wz wx))
  case first =>
    have HS9 := Aside0.mk (Below.refl wz.heap.size wz)
    go_region_held3 (fun w' => w'.cell? ⟨pxj, 0, none⟩ = some (.int .i64 22) ∧ w'.cell? ⟨pxj, 1, none⟩ = some (.int .i64 22) ∧ w'.cell? ⟨pxj + 1, 0, none⟩ = some (.int .i64 13) ∧ w'.cell? ⟨pxj + 1, 1, none⟩ = some (.int .i64 19) ∧ w'.cell? ⟨pxm, 0, none⟩ = some (.int .i64 87) ∧ w'.cell? ⟨pxm, 1, none⟩ = some (.int .i64 99) ∧ w'.cell? ⟨pxq, 0, none⟩ = some (.int .i64 (-29)) ∧ w'.cell? ⟨pxq, 1, none⟩ = some (.int .i64 (-17))) (first | ((refine ⟨pw_cell_below (w := wz) ?_ hc90, pw_cell_below (w := wz) ?_ hc91, pw_cell_below (w := wz) ?_ hc100, pw_cell_below (w := wz) ?_ hc101, pw_cell_below (w := wz) ?_ hc120, pw_cell_below (w := wz) ?_ hc121, pw_cell_below (w := wz) ?_ hc140, pw_cell_below (w := wz) ?_ hc141⟩) <;> (repeat (first | exact Below.refl _ _ | exact HS9.out | apply below_alloc | apply below_drew1)))) (first | (go_at_call 46; (with_reducible refine (span_same _ _ _).mono ?_); rintro e ws ⟨rfl, rfl⟩) | (go_at_call 16; (with_reducible refine (Same_at (HN.out.below ?_) (lit_same wz _ _ _ _)).mono ?_); (repeat (first | exact Below.refl _ _ | apply below_alloc | apply below_drew1)); rintro e ws ⟨rfl, hb⟩; have HS9 := Aside0.mk (bthen (by (repeat (first | exact Below.refl _ _ | apply below_alloc | apply below_drew1)) : Below wz.heap.size wz _) hb); clear hb))
    all_goals (go_wp2_with fail; go_meet)
    all_goals exact ⟨rfl, HS9⟩
  case rest =>
    obtain ⟨rfl, HF⟩ := hcut
    have hbX := HF.out
    replace HBz := Aside0.mk (HBz.out.trans (Below.mono hbX HBz.out.size))
    replace HZ := Aside0.mk (HZ.out.below hbX)
    replace K24 := Aside0.mk (K24.out.below hbX)
    have hz0 : wc.cell? ⟨pxx, 0, none⟩ = some (.slice Ap 1 cp) := K24.out.cell 0 rfl
    have hz1 : wc.cell? ⟨pxx, 1, none⟩ = some (.slice Ao 0 co) := K24.out.cell 1 rfl
    have hz2 : wc.cell? ⟨pxx, 2, none⟩ = some (.slice none 0 0) := K24.out.cell 2 rfl
    have hzl : pxx < wc.heap.size := K24.out.lt
    clear hbX
    go_wp2_with (go_at_call 47; (with_reducible refine (SamePieces_at (HZ.out.below (below_alloc (Below.refl _ _) _)) (lit_PR wc)).mono ?_); rintro e wy ⟨rfl, hb⟩; have HBy := Aside0.mk (HBz.out.trans (Below.mono (bthen (below_alloc (Below.refl _ _) _) hb) HBz.out.size)); clear hb)
    go_ret
    exact ⟨rfl, HBy.out⟩
end Go.Proofs.YtaojkmalpihmbaaGreatDoor.M

