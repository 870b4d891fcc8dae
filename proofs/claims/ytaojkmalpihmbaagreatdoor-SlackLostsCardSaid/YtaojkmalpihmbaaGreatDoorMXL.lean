import Derived.Test.YtaojkmalpihmbaaGreatDoorE00
import Derived.Test.YtaojkmalpihmbaaGreatDoorB42
import Derived.Test.YtaojkmalpihmbaaGreatDoorB35
import Derived.Deep.RegionHeld3
namespace Go.Proofs.YtaojkmalpihmbaaGreatDoor.M
open Go.RowKit Go.Proofs.YtaojkmalpihmbaaGreatDoorW.PrintWords Go.Proofs.YtaojkmalpihmbaaGreatDoorW.PrintLast Go.Proofs.YtaojkmalpihmbaaGreatDoorW.PrintMore Go.Proofs.YtaojkmalpihmbaaGreatDoor.Q
set_option linter.unusedVariables false
set_option linter.unusedSimpArgs false

/-! SlackLosts. -/
attribute [local go_sem high] eqA44
theorem Last_atL {w : World} {A0 A1 A2 : Option Addr} {c0 c1 c2 : Nat} {ms : List S64} {mv : List Int} {rs : List S66} (h : PR w A0 c0 ms A1 c1 mv A2 c2 rs) (a : Int) : Calls Tryz.prog 24 #[.agg #[.slice A0 ms.length c0, .slice A1 mv.length c1, .slice A2 rs.length c2], .int .i64 a] w fun e w' => e = .returned (.bool (inB a 1 ms.length)) ∧ Below w.heap.size w w' :=
  tellurionref03_Last.calls A0 c0 ms A1 c1 mv A2 c2 rs a _ w h.r0 h.c0 h.r1 h.c1 h.r2 h.c2 (by simp [tellurionref03_Last.f, in_f])
section
variable {A0 A1 A2 : Option Addr} {c0 c1 c2 : Nat} {ms : List S64} {mv : List Int} {rs : List S66} {pl : List Int} {A : Option Addr} {c : Nat}
set_option maxHeartbeats 60000000 in
set_option maxRecDepth 100000 in
theorem losts_calls {w : World} (hw : LibW w) (h : PQ w A0 c0 ms A1 c1 mv A2 c2 rs) (arb : Int) :
    Calls Tryz.prog 6 #[.agg #[.slice A0 ms.length c0, .slice A1 mv.length c1, .slice A2 rs.length c2], .int .i64 arb] w fun e w' => e = .returned (.bool true) ∧ Below w.heap.size w w' := by
  have HL := Aside0.mk hw
  have H := Aside0.mk h
  have hb0 := below_alloc (Below.refl w.heap.size w) (.cells #[.slice A0 ms.length c0, .slice A1 mv.length c1, .slice A2 rs.length c2] 26)
  have hk0 := Blk.new w #[.slice A0 ms.length c0, .slice A1 mv.length c1, .slice A2 rs.length c2] 26
  have HBz := Aside0.mk hb0
  have HK := Aside0.mk hk0
  have HS0 := Aside0.mk (short_at (h.below hb0))
  clear hw h hb0 hk0
  rcases hs : shortB ms mv rs with _ | _
  · have HSS := Aside0.mk hs
    clear hs
    go_enter Tryz.func6, Tryz.ntmps6
    go_wp2_with (first
      | (go_at_call 10; (with_reducible refine (HS0.out).mono ?_); rintro e w1 ⟨rfl, hb⟩; rw [HSS.out]; replace HBz := Aside0.mk (HBz.out.trans (Below.mono hb HBz.out.size)); replace HK := Aside0.mk (HK.out.below hb); have hk0 : World.cell? _ ⟨w.heap.size, 0, none⟩ = some (.slice A0 ms.length c0) := HK.out.cell 0 rfl; have hk1 : World.cell? _ ⟨w.heap.size, 1, none⟩ = some (.slice A1 mv.length c1) := HK.out.cell 1 rfl; have hk2 : World.cell? _ ⟨w.heap.size, 2, none⟩ = some (.slice A2 rs.length c2) := HK.out.cell 2 rfl; clear hb)
      | (go_at_call 14; (with_reducible refine (known_calls (HL.out.below HBz.out)).mono ?_); rintro e wn ⟨rfl, hb⟩; replace HBz := Aside0.mk (HBz.out.trans (Below.mono hb HBz.out.size)); clear hb))
    go_ret
    exact ⟨rfl, HBz.out⟩
  have HSS := Aside0.mk hs
  obtain ⟨hm6, hv10, hr8⟩ := short_len hs
  clear hs
  have HPR : Aside0 (PR w A0 c0 ms A1 c1 mv A2 c2 rs) := ⟨⟨H.out.r0, H.out.r1, H.out.r2, H.out.c0, H.out.c1, H.out.c2, by omega, by omega, by omega⟩⟩
  have hu44 := Tryz.underlying44
  obtain ⟨fb, hfb⟩ : ∃ fb, inB arb 1 ms.length = fb := ⟨_, rfl⟩
  have HLA : Aside0 (∀ {u : World}, Below w.heap.size w u → Calls Tryz.prog 24 #[.agg #[.slice A0 ms.length c0, .slice A1 mv.length c1, .slice A2 rs.length c2], .int .i64 arb] u fun e w' => e = .returned (.bool fb) ∧ Below u.heap.size u w') := ⟨fun {u} hu => by
    rw [← hfb]
    exact Last_atL (HPR.out.below hu) arb⟩
  by_cases hk : askE ms mv rs fb = 0
  · obtain ⟨hp, hfb1, h0⟩ := ask_pos hk
    subst hfb1
    obtain ⟨p1, p2, p3, p4⟩ := piece_len hp
    have hab : 1 ≤ arb ∧ arb ≤ ms.length := by simpa [inB] using hfb
    obtain ⟨a, rfl⟩ : ∃ a : Nat, arb = (a : Int) := ⟨arb.toNat, by omega⟩
    obtain ⟨on, hon⟩ : ∃ on, on = lostOf ms mv rs (a : Int) 0 := ⟨_, rfl⟩
    obtain ⟨bk, hbk⟩ : ∃ bk, bk = lostOf ms mv rs (a : Int) 1 := ⟨_, rfl⟩
    have her : 0 = askE ms mv rs (inB (a : Int) 1 ms.length) := by rw [hfb, hk]
    have HLS : Aside0 (∀ {u : World}, Below w.heap.size w u → Calls Tryz.prog 23 #[.agg #[.slice A0 ms.length c0, .slice A1 mv.length c1, .slice A2 rs.length c2], .int .i64 (a : Int)] u fun e w' => e = .returned (.tuple #[.agg #[.int .i64 on.f0, .int .i64 on.f1], .agg #[.int .i64 bk.f0, .int .i64 bk.f1], .int .i64 0]) ∧ Below u.heap.size u w') := ⟨fun {u} hu => by
      refine (Lost_calls (HPR.out.below hu) (a : Int)).mono ?_
      rintro e w' ⟨rfl, hb⟩
      rw [← hon, ← hbk, ← her]
      exact ⟨rfl, hb⟩⟩
    obtain ⟨RL, hRL⟩ : ∃ RL, RL = playRows ms mv rs := ⟨_, rfl⟩
    have HAS : Aside0 (∀ {u : World}, Below w.heap.size w u → Calls Tryz.prog 19 #[.agg #[.slice A0 ms.length c0, .slice A1 mv.length c1, .slice A2 rs.length c2], .bool true] u fun e w' => (∃ A' c', e = .returned (.tuple #[.slice A' RL.length c', .int .i64 0]) ∧ Kd.C kLists w' A' RL.length RL ∧ RL.length ≤ c') ∧ Below u.heap.size u w') := ⟨fun {u} hu => by
      refine (lawAsked_ok (HPR.out.below hu) true hk).mono ?_
      rintro e w' ⟨⟨v, rfl, hr⟩, hb⟩
      rw [← hRL] at hr
      obtain ⟨A', c', rfl⟩ := Kd.R_slice hr
      obtain ⟨_, g1, g2⟩ := Kd.R_reads' hr
      exact ⟨⟨A', c', rfl, g2, g1⟩, hb⟩⟩
    have e0 : overL (lostS a 0) (truthsL ms mv rs) = on := by rw [hon, lostOf, if_pos her.symm, Int.toNat_natCast]
    have e1 : overL (lostS a 1) (truthsL ms mv rs) = bk := by rw [hbk, lostOf, if_pos her.symm, Int.toNat_natCast]
    have HRE : Aside0 (∀ {u : World} {A' : Option Addr} {c' : Nat}, Below w.heap.size w u → Kd.C kLists u A' RL.length RL → RL.length ≤ c' → Calls Tryz.prog 25 #[.agg #[.slice A0 ms.length c0, .slice A1 mv.length c1, .slice A2 rs.length c2], .slice A' RL.length c', .int .i64 (a : Int)] u fun e w' => e = .returned (.tuple #[.agg #[.int .i64 on.f0, .int .i64 on.f1], .agg #[.int .i64 bk.f0, .int .i64 bk.f1]]) ∧ Below u.heap.size u w') := ⟨fun {u} {A'} {c'} hu hc hl => by
      rw [hRL] at hc hl ⊢
      refine (refLost_calls (HPR.out.below hu) hk hc hl (show 1 ≤ a by omega) (show a ≤ ms.length by omega)).mono ?_
      rintro e w' ⟨rfl, hb⟩
      rw [e0, e1]
      exact ⟨rfl, hb⟩⟩
    clear hk hp h0 hRL hfb her hon hbk e0 e1
    go_enter Tryz.func6, Tryz.ntmps6
    go_wp2_with (first
      | (go_at_call 10; (with_reducible refine (HS0.out).mono ?_); rintro e w1 ⟨rfl, hb⟩; rw [HSS.out]; replace HBz := Aside0.mk (HBz.out.trans (Below.mono hb HBz.out.size)); replace HK := Aside0.mk (HK.out.below hb); have hk0 : World.cell? _ ⟨w.heap.size, 0, none⟩ = some (.slice A0 ms.length c0) := HK.out.cell 0 rfl; have hk1 : World.cell? _ ⟨w.heap.size, 1, none⟩ = some (.slice A1 mv.length c1) := HK.out.cell 1 rfl; have hk2 : World.cell? _ ⟨w.heap.size, 2, none⟩ = some (.slice A2 rs.length c2) := HK.out.cell 2 rfl; clear hb)
      | (go_at_call 23; (with_reducible refine (HLS.out HBz.out).mono ?_); rintro e w6 ⟨rfl, hb⟩; replace HBz := Aside0.mk (HBz.out.trans (Below.mono hb HBz.out.size)); replace HK := Aside0.mk (HK.out.below hb); have hk0 : World.cell? _ ⟨w.heap.size, 0, none⟩ = some (.slice A0 ms.length c0) := HK.out.cell 0 rfl; have hk1 : World.cell? _ ⟨w.heap.size, 1, none⟩ = some (.slice A1 mv.length c1) := HK.out.cell 1 rfl; have hk2 : World.cell? _ ⟨w.heap.size, 2, none⟩ = some (.slice A2 rs.length c2) := HK.out.cell 2 rfl; have hkA0 : ∀ o o' : Obj, ((w6.alloc o).alloc o').cell? ⟨w.heap.size, 0, none⟩ = some (.slice A0 ms.length c0) := (fun o o' => pw_cell_below (below_alloc (below_alloc (Below.refl _ _) o) o') hk0); have hkA1 : ∀ o o' : Obj, ((w6.alloc o).alloc o').cell? ⟨w.heap.size, 1, none⟩ = some (.slice A1 mv.length c1) := (fun o o' => pw_cell_below (below_alloc (below_alloc (Below.refl _ _) o) o') hk1); have hkA2 : ∀ o o' : Obj, ((w6.alloc o).alloc o').cell? ⟨w.heap.size, 2, none⟩ = some (.slice A2 rs.length c2) := (fun o o' => pw_cell_below (below_alloc (below_alloc (Below.refl _ _) o) o') hk2); clear hb))
    have QA0 := Aside0.mk hk0
    have QA1 := Aside0.mk hk1
    have QA2 := Aside0.mk hk2
    have qd0 := hkA0 (.cells #[.int .i64 on.f0, .int .i64 on.f1] 44) (.cells #[.int .i64 bk.f0, .int .i64 bk.f1] 44)
    have qd1 := hkA1 (.cells #[.int .i64 on.f0, .int .i64 on.f1] 44) (.cells #[.int .i64 bk.f0, .int .i64 bk.f1] 44)
    have qd2 := hkA2 (.cells #[.int .i64 on.f0, .int .i64 on.f1] 44) (.cells #[.int .i64 bk.f0, .int .i64 bk.f1] 44)
    have hN1 := (Blk.new w6 #[.int .i64 on.f0, .int .i64 on.f1] 44).alloc (.cells #[.int .i64 bk.f0, .int .i64 bk.f1] 44)
    have hN2 := Blk.new (w6.alloc (.cells #[.int .i64 on.f0, .int .i64 on.f1] 44)) #[.int .i64 bk.f0, .int .i64 bk.f1] 44
    rw [World.size_alloc] at hN2
    have HN1 := Aside0.mk hN1
    have HN2 := Aside0.mk hN2
    have HBd := Aside0.mk (HBz.out.trans (Below.mono (below_alloc (below_alloc (Below.refl w6.heap.size w6) (.cells #[.int .i64 on.f0, .int .i64 on.f1] 44)) (.cells #[.int .i64 bk.f0, .int .i64 bk.f1] 44)) HBz.out.size))
    have HKd := Aside0.mk ((HK.out.alloc (.cells #[.int .i64 on.f0, .int .i64 on.f1] 44)).alloc (.cells #[.int .i64 bk.f0, .int .i64 bk.f1] 44))
    obtain ⟨b6, hb6⟩ : ∃ b6, w6.heap.size = b6 := ⟨_, rfl⟩
    obtain ⟨W, hW⟩ : ∃ W, (w6.alloc (.cells #[.int .i64 on.f0, .int .i64 on.f1] 44)).alloc (.cells #[.int .i64 bk.f0, .int .i64 bk.f1] 44) = W := ⟨_, rfl⟩
    rw [hW] at qd0 qd1 qd2 HN1 HN2 HBd HKd ⊢
    rw [hb6] at HN1 HN2 ⊢
    have QD0 := Aside0.mk qd0
    have QD1 := Aside0.mk qd1
    have QD2 := Aside0.mk qd2
    clear hkA0 hkA1 hkA2 hk0 hk1 hk2 hN1 hN2 hW hb6
    go_cut [8, 9] (fun s8 s9 wx => ∃ (Aq : Option Addr) (cq : Nat), s8 = .slice Aq RL.length cq ∧ s9 = .int .i64 0 ∧ Aside0 (Kd.C kLists wx Aq RL.length RL) ∧ Aside0 (RL.length ≤ cq) ∧ Aside0 (Below W.heap.size W wx))
    case first =>
      go_region_held3 (fun w' => w'.cell? ⟨w.heap.size, 0, none⟩ = some (.slice A0 ms.length c0) ∧ w'.cell? ⟨w.heap.size, 1, none⟩ = some (.slice A1 mv.length c1) ∧ w'.cell? ⟨w.heap.size, 2, none⟩ = some (.slice A2 rs.length c2)) (first | go_keep | (exact ⟨pw_cell_below HBb.out QD0.out, pw_cell_below HBb.out QD1.out, pw_cell_below HBb.out QD2.out⟩) | (exact ⟨pw_cell_below HBa.out QD0.out, pw_cell_below HBa.out QD1.out, pw_cell_below HBa.out QD2.out⟩)) (first | (go_at_call 24; (with_reducible refine (HLA.out (HBd.out.trans (Below.mono (below_drew1 (Below.refl _ _)) HBd.out.size))).mono ?_); rintro e wa ⟨rfl, hba⟩; have HBa : Aside0 (Below W.heap.size W wa) := ⟨(below_drew1 (Below.refl _ _)).trans hba⟩; clear hba) | (go_at_call 19; (with_reducible refine (HAS.out (HBd.out.trans (Below.mono HBa.out HBd.out.size))).mono ?_); rintro e wb ⟨⟨Aq, cq, rfl, hrq, hcq⟩, hbb⟩; have QQ := Aside0.mk hrq; have QQc := Aside0.mk hcq; have HBb : Aside0 (Below W.heap.size W wb) := ⟨HBa.out.trans (Below.mono hbb HBa.out.size)⟩; clear hrq hcq hbb) | fail)
      all_goals (go_wp2_with fail; go_meet)
      all_goals exact ⟨Aq, cq, rfl, rfl, QQ, QQc, HBb⟩
    case rest =>
      obtain ⟨Aq, cq, rfl, rfl, QQ, QQc, HBb⟩ := hcut
      obtain ⟨wx, rfl⟩ : ∃ wx : World, wx = wc := ⟨_, rfl⟩
      replace HBz := Aside0.mk (HBd.out.trans (Below.mono HBb.out HBd.out.size))
      replace HK := Aside0.mk (HKd.out.below HBb.out)
      have HN1x := Aside0.mk (HN1.out.below HBb.out)
      have HN2x := Aside0.mk (HN2.out.below HBb.out)
      have hk0 := HK.out.cell 0 rfl
      have hk1 := HK.out.cell 1 rfl
      have hk2 := HK.out.cell 2 rfl
      go_wp2_with (first
        | (go_at_call 25; (with_reducible refine (HRE.out HBz.out QQ.out QQc.out).mono ?_); rintro e w9 ⟨rfl, hb⟩; replace HBz := Aside0.mk (HBz.out.trans (Below.mono hb HBz.out.size)); have hn1 := (((HN1x.out.below hb).alloc (.cells #[.int .i64 on.f0, .int .i64 on.f1] 44)).alloc (.cells #[.int .i64 bk.f0, .int .i64 bk.f1] 44)); have hn2 := (((HN2x.out.below hb).alloc (.cells #[.int .i64 on.f0, .int .i64 on.f1] 44)).alloc (.cells #[.int .i64 bk.f0, .int .i64 bk.f1] 44)); have hm0 := hn1.cell 0 rfl; have hm1 := hn1.cell 1 rfl; have hm2 := hn2.cell 0 rfl; have hm3 := hn2.cell 1 rfl; replace HBz := Aside0.mk (below_alloc (below_alloc HBz.out (.cells #[.int .i64 on.f0, .int .i64 on.f1] 44)) (.cells #[.int .i64 bk.f0, .int .i64 bk.f1] 44)); clear hb hn1 hn2)
        | (go_at_call 14; (with_reducible refine (known_calls (HL.out.below HBz.out)).mono ?_); rintro e wn ⟨rfl, hb⟩; replace HBz := Aside0.mk (HBz.out.trans (Below.mono hb HBz.out.size)); clear hb))
      go_ret
      exact ⟨rfl, HBz.out⟩
  · obtain ⟨er, her0⟩ : ∃ er, er = askE ms mv rs fb := ⟨_, rfl⟩
    have hz1 : (er == 0) = false := by rw [her0]; simpa using hk
    have hz2 : (er != 0) = true := by rw [bne, hz1]; rfl
    have her : er = askE ms mv rs (inB arb 1 ms.length) := by rw [hfb, her0]
    obtain ⟨on, hon'⟩ : ∃ on : S44, on = ⟨0, 0⟩ := ⟨_, rfl⟩
    obtain ⟨bk, hbk'⟩ : ∃ bk : S44, bk = ⟨0, 0⟩ := ⟨_, rfl⟩
    have hon : on = lostOf ms mv rs arb 0 := by rw [hon', lostOf, if_neg (by rw [hfb]; exact hk)]
    have hbk : bk = lostOf ms mv rs arb 1 := by rw [hbk', lostOf, if_neg (by rw [hfb]; exact hk)]
    have HLS : Aside0 (∀ {u : World}, Below w.heap.size w u → Calls Tryz.prog 23 #[.agg #[.slice A0 ms.length c0, .slice A1 mv.length c1, .slice A2 rs.length c2], .int .i64 arb] u fun e w' => e = .returned (.tuple #[.agg #[.int .i64 on.f0, .int .i64 on.f1], .agg #[.int .i64 bk.f0, .int .i64 bk.f1], .int .i64 er]) ∧ Below u.heap.size u w') := ⟨fun {u} hu => by
      refine (Lost_calls (HPR.out.below hu) arb).mono ?_
      rintro e w' ⟨rfl, hb⟩
      rw [← hon, ← hbk, ← her]
      exact ⟨rfl, hb⟩⟩
    have HAS : Aside0 (∀ {u : World}, Below w.heap.size w u → Calls Tryz.prog 19 #[.agg #[.slice A0 ms.length c0, .slice A1 mv.length c1, .slice A2 rs.length c2], .bool fb] u fun e w' => e = .returned (.tuple #[.slice none 0 0, .int .i64 er]) ∧ Below u.heap.size u w') := ⟨fun {u} hu => by
      rw [her0]
      exact lawAsked_no (HPR.out.below hu) fb hk⟩
    have ho0 : on.f0 = 0 := by rw [hon']
    have ho1 : on.f1 = 0 := by rw [hon']
    have hb0 : bk.f0 = 0 := by rw [hbk']
    have hb1 : bk.f1 = 0 := by rw [hbk']
    have HO0 := Aside0.mk ho0
    have HO1 := Aside0.mk ho1
    have HQ0 := Aside0.mk hb0
    have HQ1 := Aside0.mk hb1
    clear hk her her0 hfb hon hbk hon' hbk' ho0 ho1 hb0 hb1
    go_enter Tryz.func6, Tryz.ntmps6
    go_wp2_with (first
      | (go_at_call 10; (with_reducible refine (HS0.out).mono ?_); rintro e w1 ⟨rfl, hb⟩; rw [HSS.out]; replace HBz := Aside0.mk (HBz.out.trans (Below.mono hb HBz.out.size)); replace HK := Aside0.mk (HK.out.below hb); have hk0 : World.cell? _ ⟨w.heap.size, 0, none⟩ = some (.slice A0 ms.length c0) := HK.out.cell 0 rfl; have hk1 : World.cell? _ ⟨w.heap.size, 1, none⟩ = some (.slice A1 mv.length c1) := HK.out.cell 1 rfl; have hk2 : World.cell? _ ⟨w.heap.size, 2, none⟩ = some (.slice A2 rs.length c2) := HK.out.cell 2 rfl; clear hb)
      | (go_at_call 23; (with_reducible refine (HLS.out HBz.out).mono ?_); rintro e w6 ⟨rfl, hb⟩; replace HBz := Aside0.mk (HBz.out.trans (Below.mono hb HBz.out.size)); replace HK := Aside0.mk (HK.out.below hb); have hk0 : World.cell? _ ⟨w.heap.size, 0, none⟩ = some (.slice A0 ms.length c0) := HK.out.cell 0 rfl; have hk1 : World.cell? _ ⟨w.heap.size, 1, none⟩ = some (.slice A1 mv.length c1) := HK.out.cell 1 rfl; have hk2 : World.cell? _ ⟨w.heap.size, 2, none⟩ = some (.slice A2 rs.length c2) := HK.out.cell 2 rfl; have hkA0 : ∀ o o' : Obj, ((w6.alloc o).alloc o').cell? ⟨w.heap.size, 0, none⟩ = some (.slice A0 ms.length c0) := (fun o o' => pw_cell_below (below_alloc (below_alloc (Below.refl _ _) o) o') hk0); have hkA1 : ∀ o o' : Obj, ((w6.alloc o).alloc o').cell? ⟨w.heap.size, 1, none⟩ = some (.slice A1 mv.length c1) := (fun o o' => pw_cell_below (below_alloc (below_alloc (Below.refl _ _) o) o') hk1); have hkA2 : ∀ o o' : Obj, ((w6.alloc o).alloc o').cell? ⟨w.heap.size, 2, none⟩ = some (.slice A2 rs.length c2) := (fun o o' => pw_cell_below (below_alloc (below_alloc (Below.refl _ _) o) o') hk2); clear hb))
    have QA0 := Aside0.mk hk0
    have QA1 := Aside0.mk hk1
    have QA2 := Aside0.mk hk2
    have qd0 := hkA0 (.cells #[.int .i64 on.f0, .int .i64 on.f1] 44) (.cells #[.int .i64 bk.f0, .int .i64 bk.f1] 44)
    have qd1 := hkA1 (.cells #[.int .i64 on.f0, .int .i64 on.f1] 44) (.cells #[.int .i64 bk.f0, .int .i64 bk.f1] 44)
    have qd2 := hkA2 (.cells #[.int .i64 on.f0, .int .i64 on.f1] 44) (.cells #[.int .i64 bk.f0, .int .i64 bk.f1] 44)
    have hN1 := (Blk.new w6 #[.int .i64 on.f0, .int .i64 on.f1] 44).alloc (.cells #[.int .i64 bk.f0, .int .i64 bk.f1] 44)
    have hN2 := Blk.new (w6.alloc (.cells #[.int .i64 on.f0, .int .i64 on.f1] 44)) #[.int .i64 bk.f0, .int .i64 bk.f1] 44
    rw [World.size_alloc] at hN2
    have HN1 := Aside0.mk hN1
    have HN2 := Aside0.mk hN2
    have HBd := Aside0.mk (HBz.out.trans (Below.mono (below_alloc (below_alloc (Below.refl w6.heap.size w6) (.cells #[.int .i64 on.f0, .int .i64 on.f1] 44)) (.cells #[.int .i64 bk.f0, .int .i64 bk.f1] 44)) HBz.out.size))
    have HKd := Aside0.mk ((HK.out.alloc (.cells #[.int .i64 on.f0, .int .i64 on.f1] 44)).alloc (.cells #[.int .i64 bk.f0, .int .i64 bk.f1] 44))
    obtain ⟨b6, hb6⟩ : ∃ b6, w6.heap.size = b6 := ⟨_, rfl⟩
    obtain ⟨W, hW⟩ : ∃ W, (w6.alloc (.cells #[.int .i64 on.f0, .int .i64 on.f1] 44)).alloc (.cells #[.int .i64 bk.f0, .int .i64 bk.f1] 44) = W := ⟨_, rfl⟩
    rw [hW] at qd0 qd1 qd2 HN1 HN2 HBd HKd ⊢
    rw [hb6] at HN1 HN2 ⊢
    have QD0 := Aside0.mk qd0
    have QD1 := Aside0.mk qd1
    have QD2 := Aside0.mk qd2
    clear hkA0 hkA1 hkA2 hk0 hk1 hk2 hN1 hN2 hW hb6
    go_cut [8, 9] (fun s8 s9 wx => s8 = .slice none 0 0 ∧ s9 = .int .i64 er ∧ Aside0 (Below W.heap.size W wx))
    case first =>
      go_region_held3 (fun w' => w'.cell? ⟨w.heap.size, 0, none⟩ = some (.slice A0 ms.length c0) ∧ w'.cell? ⟨w.heap.size, 1, none⟩ = some (.slice A1 mv.length c1) ∧ w'.cell? ⟨w.heap.size, 2, none⟩ = some (.slice A2 rs.length c2)) (first | go_keep | (exact ⟨pw_cell_below HBb.out QD0.out, pw_cell_below HBb.out QD1.out, pw_cell_below HBb.out QD2.out⟩) | (exact ⟨pw_cell_below HBa.out QD0.out, pw_cell_below HBa.out QD1.out, pw_cell_below HBa.out QD2.out⟩)) (first | (go_at_call 24; (with_reducible refine (HLA.out (HBd.out.trans (Below.mono (below_drew1 (Below.refl _ _)) HBd.out.size))).mono ?_); rintro e wa ⟨rfl, hba⟩; have HBa : Aside0 (Below W.heap.size W wa) := ⟨(below_drew1 (Below.refl _ _)).trans hba⟩; clear hba) | (go_at_call 19; (with_reducible refine (HAS.out (HBd.out.trans (Below.mono HBa.out HBd.out.size))).mono ?_); rintro e wb ⟨rfl, hbb⟩; have HBb : Aside0 (Below W.heap.size W wb) := ⟨HBa.out.trans (Below.mono hbb HBa.out.size)⟩; clear hbb) | fail)
      all_goals (go_wp2_with fail; go_meet)
      all_goals exact ⟨rfl, rfl, HBb⟩
    case rest =>
      obtain ⟨rfl, rfl, HBb⟩ := hcut
      obtain ⟨wx, rfl⟩ : ∃ wx : World, wx = wc := ⟨_, rfl⟩
      replace HBz := Aside0.mk (HBd.out.trans (Below.mono HBb.out HBd.out.size))
      have hn1 := HN1.out.below HBb.out
      have hn2 := HN2.out.below HBb.out
      have hm0 := hn1.cell 0 rfl
      have hm1 := hn1.cell 1 rfl
      have hm2 := hn2.cell 0 rfl
      have hm3 := hn2.cell 1 rfl
      rw [HO0.out] at hm0
      rw [HO1.out] at hm1
      rw [HQ0.out] at hm2
      rw [HQ1.out] at hm3
      clear hn1 hn2
      go_wp2_with (first
        | (go_at_call 14; (with_reducible refine (known_calls (HL.out.below HBz.out)).mono ?_); rintro e wn ⟨rfl, hb⟩; replace HBz := Aside0.mk (HBz.out.trans (Below.mono hb HBz.out.size)); clear hb))
      go_ret
      exact ⟨rfl, HBz.out⟩
end
end Go.Proofs.YtaojkmalpihmbaaGreatDoor.M
