import Derived.Test.YtaojkmalpihmbaaGreatDoorB34
import Derived.Test.YtaojkmalpihmbaaGreatDoorB20
import Derived.Test.YtaojkmalpihmbaaGreatDoorB31
import Derived.Test.YtaojkmalpihmbaaGreatDoorB33
import Derived.Test.YtaojkmalpihmbaaGreatDoorB04
namespace Go.Proofs.YtaojkmalpihmbaaGreatDoor.M
open Go.RowKit Go.Proofs.YtaojkmalpihmbaaGreatDoorW.PrintWords Go.Proofs.YtaojkmalpihmbaaGreatDoorW.PrintLast Go.Proofs.YtaojkmalpihmbaaGreatDoorW.PrintMore Go.Proofs.YtaojkmalpihmbaaGreatDoor.Q
set_option linter.unusedVariables false
set_option linter.unusedSimpArgs false

section
variable {A0 A1 A2 : Option Addr} {c0 c1 c2 : Nat} {ms : List S64} {mv : List Int} {rs : List S66}
set_option maxHeartbeats 8000000 in
set_option maxRecDepth 100000 in
theorem Renew_ok {w : World} (h : PR w A0 c0 ms A1 c1 mv A2 c2 rs) {AP : Option Addr} {cp : Nat} {pr : List Int} (hp : IR w AP cp pr) (limit : Int) (htl : pr.length = ms.length) (htp : anyB priceBad pr = false) (ht3 : inB limit 0 5000 = true) (hask : askE ms mv rs true = 0) :
    Calls Tryz.prog 42 #[.agg #[.slice A0 ms.length c0, .slice A1 mv.length c1, .slice A2 rs.length c2], .slice AP pr.length cp, .int .i64 limit] w fun e w' =>
      RenewV (bestOf betterR zR (renewL ms mv rs pr limit)) e w' ∧ Below w.heap.size w w' := by
  have H := Aside0.mk h
  have hl0 := h.l0
  have HP := Aside0.mk hp
  have hpr := hp.l
  have HBW := Aside0.mk (below_alloc (Below.refl w.heap.size w) (.cells #[.slice A0 ms.length c0, .slice A1 mv.length c1, .slice A2 rs.length c2] 26))
  have hk0 := Blk.new w #[.slice A0 ms.length c0, .slice A1 mv.length c1, .slice A2 rs.length c2] 26
  have HTL := Aside0.mk htl
  have hle : ((pr.length : Int) == (ms.length : Int)) = true := by rw [htl]; simp
  have hle2 : (pr.length == ms.length) = true := by rw [htl]; simp
  have HTp := Aside0.mk htp
  have HT3 := Aside0.mk ht3
  clear htl htp
  go_enter Tryz.func42, Tryz.ntmps42
  go_upto_region 1 with fail
  obtain ⟨W4, hW4⟩ : ∃ W4, w.alloc (.cells #[.slice A0 ms.length c0, .slice A1 mv.length c1, .slice A2 rs.length c2] 26) = W4 := ⟨_, rfl⟩
  have hsz : W4.heap.size = w.heap.size + 1 := by rw [← hW4]; simp only [World.size_alloc]
  rw [hW4] at HBW hk0 ⊢
  clear hW4
  have HK0 := Aside0.mk hk0
  have hp0 := hk0.cell 0 rfl
  have hp1 := hk0.cell 1 rfl
  have hp2 := hk0.cell 2 rfl
  have hlt0 := hk0.lt
  have HSZ := Aside0.mk hsz
  clear h hp hk0 hsz
  have hb3 := ht3
  simp only [inB, Bool.and_eq_true, decide_eq_true_eq] at hb3
  obtain ⟨hm1, hm2⟩ := hb3
  clear ht3
  have HA := Aside0.mk hask
  clear hask
  go_cut [9, 10] (fun s7 s8 wx => AskOk A0 c0 ms A1 c1 mv A2 c2 rs w.heap.size W4 s7 s8 wx)
  case first =>
    go_region_held3 (fun w' => w'.cell? ⟨w.heap.size, 0, none⟩ = some (.slice A0 ms.length c0) ∧ w'.cell? ⟨w.heap.size, 1, none⟩ = some (.slice A1 mv.length c1) ∧ w'.cell? ⟨w.heap.size, 2, none⟩ = some (.slice A2 rs.length c2)) (first | go_keep | ((refine ⟨?_, ?_, ?_⟩) <;> (repeat (first | (with_reducible assumption) | (with_reducible refine set_far ?_ (by dsimp only; omega)))))) (first | (go_at_call 74; (with_reducible refine (containsInt_calls 75 #[] priceBad _ AP cp pr (Kd.C_below HP.out.r (by repeat (first | exact HBW.out | apply below_alloc | apply below_drew1))) HP.out.c hpr (renew1_calls _)).mono ?_); rintro e w1 ⟨rfl, hb1⟩; rw [HTp.out]; have hbx1 : Below W4.heap.size W4 w1 := bthen (by repeat (first | exact Below.refl _ _ | exact Below.refl _ _ | apply below_alloc | apply below_drew1)) hb1; have HBx1 := Aside0.mk hbx1; have HBw1 := Aside0.mk (HBW.out.trans (hbx1.mono HBW.out.size)); obtain ⟨hk1a, hk1b⟩ := bcell hb1; have hz1 := hb1.size; (try (have HZ1 := Aside0.mk (Blk.below (Blk.drew (Blk.new W4 #[.slice none 0 0, .slice none 0 0, .slice none 0 0, .slice none 0 0] 84)) hb1))); have hs1_0 : w1.cell? ⟨w.heap.size, 0, none⟩ = some (.slice A0 ms.length c0) := (HK0.out.below hbx1).cell 0 rfl; have hs1_1 : w1.cell? ⟨w.heap.size, 1, none⟩ = some (.slice A1 mv.length c1) := (HK0.out.below hbx1).cell 1 rfl; have hs1_2 : w1.cell? ⟨w.heap.size, 2, none⟩ = some (.slice A2 rs.length c2) := (HK0.out.below hbx1).cell 2 rfl; have hs1_l0 := (HK0.out.below hbx1).lt; clear hb1 hbx1) | (go_at_call 72; (with_reducible refine (isLimit_calls _ _).mono ?_); rintro e wq ⟨rfl, rfl⟩; rw [HT3.out]) | (go_at_call 48; (with_reducible refine (asked_calls (H.out.below ?_) _).mono ?_); (repeat (first | exact HBw1.out | apply below_alloc | apply below_drew1)); rintro e w2 ⟨hv, hb2⟩; rcases hv with ⟨_, A3, c3, rfl, hall⟩ | ⟨hne, _⟩; rotate_left 1; exact absurd HA.out hne; have HAll := Aside0.mk hall; have hby : Below W4.heap.size W4 w2 := bthen (by repeat (first | exact Below.refl _ _ | exact HBx1.out | apply below_alloc | apply below_drew1)) hb2; have HBy := Aside0.mk hby; obtain ⟨hk2a, hk2b⟩ := bcell hb2; have hz2 := hb2.size; (try (have HZ9 := Aside0.mk (Blk.below (Blk.new w1 #[.slice none 0 0, .slice none 0 0, .slice none 0 0, .slice none 0 0] 84) hb2); have HZL := Aside0.mk ((Blk.new w1 #[.slice none 0 0, .slice none 0 0, .slice none 0 0, .slice none 0 0] 84).lt); have hzc0 := HZ9.out.cell 0 rfl; have hzf0 := HZ9.out.free 0; have hzc1 := HZ9.out.cell 1 rfl; have hzf1 := HZ9.out.free 1; have hzc2 := HZ9.out.cell 2 rfl; have hzf2 := HZ9.out.free 2; have hzc3 := HZ9.out.cell 3 rfl; have hzf3 := HZ9.out.free 3; have hzl := HZ9.out.lt)); (try (have HZ9 := Aside0.mk (HZ1.out.below hb2); have HZL := Aside0.mk HZ1.out.lt; have hzc0 := HZ9.out.cell 0 rfl; have hzf0 := HZ9.out.free 0; have hzc1 := HZ9.out.cell 1 rfl; have hzf1 := HZ9.out.free 1; have hzc2 := HZ9.out.cell 2 rfl; have hzf2 := HZ9.out.free 2; have hzc3 := HZ9.out.cell 3 rfl; have hzf3 := HZ9.out.free 3; have hzl := HZ9.out.lt)); have ht0 : w2.cell? ⟨w.heap.size, 0, none⟩ = some (.slice A0 ms.length c0) := (HK0.out.below hby).cell 0 rfl; have ht1 : w2.cell? ⟨w.heap.size, 1, none⟩ = some (.slice A1 mv.length c1) := (HK0.out.below hby).cell 1 rfl; have ht2 : w2.cell? ⟨w.heap.size, 2, none⟩ = some (.slice A2 rs.length c2) := (HK0.out.below hby).cell 2 rfl; have htl0 := (HK0.out.below hby).lt; clear hb2 hall hby))
    all_goals (go_wp2_with fail; go_meet)
    all_goals first | exact askOk_new HAll.out (by first | exact HBW.out.size | exact Nat.le_trans HBW.out.size HBx1.out.size | exact Nat.le_trans HBW.out.size HBx2.out.size) HBy.out | exact askOk_set HZ9.out (by first | exact HZL.out | exact Nat.lt_of_lt_of_le HZL.out (Nat.le_refl _)) HAll.out (by first | exact HBW.out.size | exact Nat.le_trans HBW.out.size HBx1.out.size | exact Nat.le_trans HBW.out.size HBx2.out.size | (rw [World.size_alloc]; exact Nat.le_succ_of_le HBW.out.size) | (rw [World.size_alloc]; exact Nat.le_succ_of_le (Nat.le_trans HBW.out.size HBx1.out.size)) | (rw [World.size_alloc]; exact Nat.le_succ_of_le (Nat.le_trans HBW.out.size HBx2.out.size))) HBy.out (by first | exact Nat.le_refl _ | exact HBx1.out.size | exact HBx2.out.size)
  case rest =>
    obtain ⟨b, A3, c3, rfl, rfl, HX, HAl, HBx⟩ := hcut
    have hpc := (askE_piece HA.out).1
    have hl6 : (truthsL ms mv rs).length ≤ 625 := truthsL_length hpc
    have hl4 : pr.length ≤ 4 := by rw [HTL.out]; exact (piece_len hpc).2.1
    have hl1 : 1 ≤ pr.length := by rw [HTL.out]; exact (piece_len hpc).1
    have HW9 := Aside0.mk (HBW.out.trans (HBx.out.mono HBW.out.size))
    have HRx := Aside0.mk (Kd.R_reads' HAl.out).2.2
    obtain ⟨N, hN⟩ : ∃ N, N = 2 ^ pr.length := ⟨_, rfl⟩
    have hN16 : N ≤ 16 := by rw [hN]; exact Nat.pow_le_pow_right (by decide) hl4
    have hNI : wrap64 (2 ^ pr.length) = (N : Int) := by
      have e : (2 : Int) ^ pr.length = (N : Int) := by rw [hN]; simp
      rw [e]
      exact wr_in (by omega) (by omega)
    have HN := Aside0.mk hN
    have HOK : Aside0 (∀ x ∈ truthsL ms mv rs, x.f0.length = pr.length ∧ x.f0.length ≤ 1000 ∧ x.f1.length ≤ 1000) := ⟨by
      intro x hx
      have h9 := truthsL_mem hx
      have h7 := HTL.out
      omega⟩
    have HPB : Aside0 (∀ x ∈ pr, 0 ≤ x ∧ x ≤ 1000) := ⟨prices_ok HTp.out⟩
    clear hN hpc
    go_wp2
    rw [hNI]
    clear hNI
    go_loopg [11, 44] N (fun k v i wr => ∃ (s : Nat) (Os : List S109), s + k = N ∧ i = .int .i64 s ∧ Os.length ≤ s ∧ Aside0 (Os = renewTo ms mv rs pr limit s) ∧ Aside0 (Kd.R k109 109 wr wc.heap.size (fun _ => True) v Os) ∧ Below wc.heap.size wc wr)
    case atStart => exact ⟨0, [], by omega, rfl, by simp, ⟨rfl⟩, ⟨none_row _ _ _ _ _⟩, Below.refl _ _⟩
    case round =>
      obtain ⟨wo, rfl⟩ : ∃ wo : World, wo = wr := ⟨_, rfl⟩
      obtain ⟨ko, rfl⟩ : ∃ ko : Nat, ko = gk := ⟨_, rfl⟩
      obtain ⟨s, Os, hs, rfl, hos, HO, HV, hBr⟩ := hrel
      have hs' : s ≤ N := by omega
      have HS := Aside0.mk hs
      clear hs
      obtain ⟨Av, cv, rfl⟩ := Kd.R_slice HV.out
      have hsz := hBr.size
      have hkx := HX.out.below hBr
      have hx0 := hkx.cell 0 rfl
      have hx1 := hkx.cell 1 rfl
      have hx2 := hkx.cell 2 rfl
      have hx3 := hkx.cell 3 rfl
      have hxl := hkx.lt
      have HKX := Aside0.mk hkx
      clear hkx
      by_cases hlt : s < N
      · have HR0 := Aside0.mk (Blk.new wo #[.slice none 0 0, .int .i64 0] 109)
        have HB0 := Aside0.mk (below_alloc (Below.refl wo.heap.size wo) (.cells #[.slice none 0 0, .int .i64 0] 109))
        go_wp2
        go_loopg [49] (pr.length) (fun k i W => ∃ (j : Nat) (A : Option Addr) (c : Nat), j + k = pr.length ∧ i = .int .i64 j ∧ Aside0 (Blk W wo.heap.size #[.slice A (pickI s j).length c, .int .i64 (priceOf pr (picked s j))] 109) ∧ Aside0 (OwnR W wo.heap.size (pickI s j) (.slice A (pickI s j).length c)) ∧ Below wo.heap.size wo W)
        case atStart => exact ⟨0, none, 0, by omega, rfl, HR0, ⟨none_row _ _ _ _ _⟩, HB0.out⟩
        case round =>
          obtain ⟨j, A, c, hj, rfl, HR, HM, hBi⟩ := hrel
          have hj' : j ≤ pr.length := by omega
          have HJ := Aside0.mk hj
          clear hj
          have hr := HR.out
          have hr0 := hr.cell 0 rfl
          have hr1 := hr.cell 1 rfl
          have hrf0 := hr.free 0
          have hrf1 := hr.free 1
          have hrl := hr.lt
          have hszi := hBi.size
          clear hr
          by_cases hjt : j < pr.length
          · obtain ⟨x, hx⟩ : ∃ x, pr[j]? = some x := ⟨_, List.getElem?_eq_getElem hjt⟩
            obtain ⟨hxa, hxb⟩ := HPB.out x (List.mem_of_getElem? hx)
            obtain ⟨hpa, hpb⟩ := price_bound HPB.out s j
            have hpl := pick_len s j
            obtain ⟨ad, rfl, hca⟩ := at_int (((HP.out.below HW9.out).below hBr).below hBi).r hx hjt
            have HX2 := Aside0.mk hx
            clear hx
            rcases hbit : s.testBit j with _ | _
            · have hb1 : (bits BinOp.and IntKind.i64 ((s : Int) / 2 ^ j) 1 == 1) = false := by rw [bit_test s j (by omega) (by omega), hbit]
              have HBT := Aside0.mk hbit
              clear hbit
              go_wp2
              go_roundg (gk - 1)
              case measure => have := HJ.out; omega
              case rel =>
                have e1 := picked_no HBT.out
                exact ⟨j + 1, A, c, by have := HJ.out; omega, by go_num, by rw [pickI, e1]; exact HR, by rw [pickI, e1]; exact HM, hBi⟩
            · have hb1 : (bits BinOp.and IntKind.i64 ((s : Int) / 2 ^ j) 1 == 1) = true := by rw [bit_test s j (by omega) (by omega), hbit]
              have HBT := Aside0.mk hbit
              clear hbit
              go_wp2_with (at_builtin; go_must (refine Kd.R_append (Kd.int .i64) (w0 := wo) wo.heap.size rfl (.tmp 60) (.tmp 62) 23 3 (.int .i64 0) 8 rfl Tryz.underlying23 info3 rfl (by decide) (by decide) _ (pickI s j) (j : Int) [.int .i64 (j : Int)] (fun _ => True) (fun _ => False) rfl rfl rfl (fun _ h => h.elim) (fun _ _ => trivial) HM.out hBi ?_ ?_ ?_); exact below_size hBi; omega; intro v1 w2 hr1 hb1 hg1 _; obtain ⟨A', c', rfl⟩ := Kd.R_slice hr1; have HR1 := Aside0.mk hr1; have hy := HR.out.grown hg1 (Kd.R_ne HM.out HR.out (by decide)); have hy0 := hy.cell 0 rfl; have hy1 := hy.cell 1 rfl; have hyf0 := hy.free 0; have hyf1 := hy.free 1; have hyl := hy.lt; have HY := Aside0.mk hy; have HNE := Aside0.mk (Kd.R_ne hr1 hy (by decide)); have HB1 := Aside0.mk hb1; clear hr1 hg1 hy)
              go_roundg (gk - 1)
              case measure => have := HJ.out; omega
              case rel =>
                have e1 := picked_yes HBT.out
                have e2 : pickI s (j + 1) = pickI s j ++ [(j : Int)] := by simp only [pickI, e1, List.map_append, List.map_cons, List.map_nil]
                have e3 : priceOf pr (picked s (j + 1)) = priceOf pr (picked s j) + x := by rw [e1, priceOf_snoc, List.getD_eq_getElem?_getD, HX2.out]; rfl
                have hgn : ∀ p : Addr, p.block = wo.heap.size → ∀ k, (Value.slice A' (pickI s j ++ [(j : Int)]).length c').ownBlock = some k → k ≠ p.block := fun p hp k hk e => HNE.out (by rw [hk, e, hp])
                refine ⟨j + 1, A', c', by have := HJ.out; omega, by go_num, ?_, ?_, below_set (below_set hb1 (Nat.le_refl _)) (Nat.le_refl _)⟩
                · rw [e2, e3]
                  exact ⟨(HY.out.put 0 _ rfl).put 1 _ (by rw [List.length_append]; rfl)⟩
                · rw [e2]
                  exact ⟨OwnR.far2 (OwnR.far2 HR1.out (hgn ⟨wo.heap.size, 0, none⟩ rfl) _) (hgn ⟨wo.heap.size, 1, none⟩ rfl) _⟩
          · obtain rfl : j = pr.length := by omega
            have hmi : ∀ i ∈ pickI s pr.length, 0 ≤ i ∧ i < (pr.length : Int) := fun i hi => pick_mem hi
            have hpl := pick_len s pr.length
            have hof := renew2_of HR.out (OwnR.ir HM.out (by omega))
            have hent := hof.1
            have HC := Aside0.mk (over_calls (c := c3) hof (.slice A0 ms.length c0) (.slice A1 mv.length c1) (.slice A2 rs.length c2) ⟨_, _, _, _, _, _, _, _, _, rfl, rfl, rfl⟩ (Kd.C_below (Kd.C_below HRx.out hBr) hBi) (by omega) (fun x hx => ⟨fun i hi => by rw [(HOK.out x hx).1]; exact hmi i hi, (HOK.out x hx).2⟩))
            obtain ⟨S9, hS9⟩ : ∃ S9, S9 = overL (leftT (pickI s pr.length)) (truthsL ms mv rs) := ⟨_, rfl⟩
            rw [← hS9] at HC
            have hmf : ∀ (fn : Fn) (first cap : Array Value) (w : World), (Instr.makeFunc fn first cap).run Tryz.prog w = .ok (.func fn first cap) w := fun _ _ _ _ => rfl
            have hgx := HKX.out.below hBi
            have hgx0 := hgx.cell 0 rfl
            have hgx1 := hgx.cell 1 rfl
            have hgx2 := hgx.cell 2 rfl
            have hgx3 := hgx.cell 3 rfl
            have hgxl := hgx.lt
            have HS9 := Aside0.mk hS9
            have HBo := Aside0.mk (hBr.trans (hBi.mono hBr.size))
            have HNE := Aside0.mk (row_lt HV.out)
            have HVi := Aside0.mk (Kd.R_below HV.out hBi)
            clear hS9 hof hgx hmi
            by_cases hle9 : S9.f1 ≤ limit
            · have HLE := Aside0.mk hle9
              go_wp2_with (first | (go_at_call 49; (with_reducible refine HC.out.mono ?_); rintro e w5 ⟨rfl, hb5⟩; have HB5 := Aside0.mk hb5; have hq := HR.out.below hb5; have hq0 := hq.cell 0 rfl; have hq1 := hq.cell 1 rfl; have hql := hq.lt; have HBB := Aside0.mk (below_alloc (bthen HBo.out hb5) (.cells #[.int .i64 S9.f0, .int .i64 S9.f1] 44)); have HVB := Aside0.mk (Kd.R_below (Kd.R_below HVi.out hb5) (below_alloc (Below.refl _ _) (.cells #[.int .i64 S9.f0, .int .i64 S9.f1] 44))); have HM2 := Aside0.mk (k109_mkM _ wc.heap.size _ (renOf pr s) (Kd.R_lower (Kd.R_below (Kd.R_below (Kd.R_bound HM.out) hb5) (below_alloc (Below.refl _ _) (.cells #[.int .i64 S9.f0, .int .i64 S9.f1] 44))) hBr.size)); clear hb5 hq) | (at_builtin; go_must (refine Kd.R_append k109 (w0 := wc) wc.heap.size rfl (.tmp 78) (.tmp 80) 107 109 (.agg #[.slice none 0 0, .int .i64 0]) 32 rfl Tryz.underlying107 info109 rfl (show 0 < 2 by decide) (by decide) _ Os (renOf pr s) _ (fun _ => True) _ rfl ?_ HM2.out ?_ (fun _ _ => trivial) HVB.out HBB.out ?_ ?_ ?_); go_must (first | rfl | (show Value.slice (some ⟨_, 0, none⟩) 1 1 = _; simp only [World.size_alloc])); go_must (intro k hk; exact ⟨trivial, ne_above HNE.out hk.2.1⟩); go_must (exact HBB.out.size); go_must (omega); intro v1 w6 hr1 hb1 hg1 ha1; have HR5 := Aside0.mk hr1; clear hr1 hg1 ha1))
              go_roundg (ko - 1)
              case measure => have := HS.out; omega
              case rel => exact ⟨s + 1, Os ++ [renOf pr s], by have := HS.out; omega, by go_num, by rw [List.length_append]; simp; omega, ⟨by rw [HO.out, renewTo_yes (by rw [← HS9.out]; exact HLE.out)]⟩, HR5, hb1⟩
            · have HLE := Aside0.mk hle9
              go_wp2_with (go_at_call 49; (with_reducible refine HC.out.mono ?_); rintro e w5 ⟨rfl, hb5⟩; have HB5 := Aside0.mk hb5; clear hb5)
              go_roundg (ko - 1)
              case measure => have := HS.out; omega
              case rel => exact ⟨s + 1, Os, by have := HS.out; omega, by go_num, by omega, ⟨by rw [HO.out, renewTo_no (by rw [← HS9.out]; have := HLE.out; omega)]⟩, ⟨Kd.R_below (Kd.R_below HVi.out HB5.out) (below_alloc (Below.refl _ _) _)⟩, below_alloc (bthen HBo.out HB5.out) _⟩
      · obtain rfl : s = N := by omega
        have HQ : Aside0 (Os = renewL ms mv rs pr limit) := ⟨by rw [HO.out, HN.out]; rfl⟩
        have HRD := Aside0.mk (Kd.R_reads' HV.out).2.2
        have hos16 : Os.length ≤ 16 := by omega
        have HMM : Aside0 (∀ x ∈ Os, x.f0.length ≤ 1000) := ⟨by
          intro x hx
          rw [HO.out] at hx
          have := renewTo_len hx
          omega⟩
        go_wp2_with (go_at_call 79; (with_reducible refine (bestR_calls HRD.out (by omega) HMM.out).mono ?_); rintro e w5 ⟨⟨Ab, cb, rfl, hir⟩, hb5⟩; have HB5 := Aside0.mk hb5; have HI5 := Aside0.mk (hir.below hb5); clear hir hb5)
        go_quiet (fail)
        go_wp2
        go_ret3
        rw [← HQ.out]
        refine ⟨⟨Ab, cb, rfl, ?_⟩, ?_⟩
        · exact HI5.out.below (below_drewN (below_alloc (Below.refl _ _) _) _)
        · exact HW9.out.trans ((below_drewN (below_alloc (bthen hBr HB5.out) _) _).mono HW9.out.size)
end
end Go.Proofs.YtaojkmalpihmbaaGreatDoor.M

namespace Go.Proofs.YtaojkmalpihmbaaGreatDoor.M
open Go.RowKit Go.Proofs.YtaojkmalpihmbaaGreatDoorW.PrintWords Go.Proofs.YtaojkmalpihmbaaGreatDoorW.PrintLast Go.Proofs.YtaojkmalpihmbaaGreatDoorW.PrintMore Go.Proofs.YtaojkmalpihmbaaGreatDoor.Q
set_option linter.unusedVariables false
set_option linter.unusedSimpArgs false

/-! The examples' values. -/
def pM : List S64 := [⟨⟨10, 12⟩⟩, ⟨⟨5, 5⟩⟩, ⟨⟨20, 24⟩⟩]
def pV : List Int := [100, -30, 8]
def qR : List S66 := [⟨1, 1, 89, 0⟩, ⟨3, 3, 62, 1⟩]
def aE : List S44 := [⟨-1, 2⟩, ⟨0, 0⟩, ⟨0, 0⟩, ⟨0, 0⟩]
def bE : List S44 := [⟨0, 0⟩]
set_option maxRecDepth 100000
theorem v_run : runL [10, 5, 20] pV = [[0, -10, -15, -35], [100, 90, 85, 65], [70, 70, 70, 65], [78, 70, 70, 65]] := by decide +kernel
theorem v_truths : countT pM pV qR = 3 := by decide +kernel
theorem v_known : knownL pM pV [] = [⟨78, 78⟩, ⟨70, 70⟩, ⟨70, 70⟩, ⟨59, 65⟩] := by kernel_rfl
theorem v_plays : playsL pM pV qR = [⟨11, 11⟩, ⟨5, 5⟩, ⟨21, 23⟩] := by kernel_rfl
theorem v_ask : askE pM pV [] true = 0 := by decide +kernel
theorem v_askq : askE pM pV qR true = 0 := by decide +kernel
theorem v_piece : pieceE pM pV qR = 0 := by decide +kernel
theorem v_lost0 : lostOf pM pV [] 3 0 = ⟨22, 22⟩ := by kernel_rfl
theorem v_lost1 : lostOf pM pV [] 3 1 = ⟨13, 19⟩ := by kernel_rfl
theorem v_shows : showsOf pM pV [] 3 3 2 aE = ⟨87, 99⟩ := by kernel_rfl
theorem v_apart : apartOf pM pV [] 1 1 1 bE 3 3 2 aE = ⟨-29, -17⟩ := by kernel_rfl
theorem v_handA : handB pM.length 3 3 2 aE = true := by decide +kernel
theorem v_handB : handB pM.length 1 1 1 bE = true := by decide +kernel
theorem v_aim : aimOf pM pV [] 3 90 3 = (50, 0) := by decide +kernel
theorem v_renew : bestOf betterR zR (renewL pM pV [] [5, 3, 9] 24) = ⟨[0, 1], 8⟩ := by kernel_rfl
theorem v_price : anyB priceBad [5, 3, 9] = false := by decide +kernel
theorem v_look : lookOf pM pV [] 1 = (⟨3, 9⟩, 0) := by kernel_rfl
end Go.Proofs.YtaojkmalpihmbaaGreatDoor.M

-- Written by wip/pr.py (print.py with given contracts) out of the translation. Lean checks it.
namespace Go.Proofs.YtaojkmalpihmbaaGreatDoor.Q
open Go.RowKit Go.Proofs.YtaojkmalpihmbaaGreatDoorW.PrintWords Go.Proofs.YtaojkmalpihmbaaGreatDoorW.PrintLast Go.Proofs.YtaojkmalpihmbaaGreatDoorW.PrintMore
attribute [local go_sem] max2_int min2_int max_two min_two max_three min_three max_four min_four   -- for this text's walks alone
set_option linter.unusedVariables false
set_option linter.unusedSimpArgs false

theorem eqA44 (d : Nat) (w : World) (x0 y0 : Int) (x1 y1 : Int) :
    (Op.equalIn (d + 2) 44 (.agg #[.int .i64 x0, .int .i64 x1]) (.agg #[.int .i64 y0, .int .i64 y1])).run Tryz.prog w = .ok (x0 == y0 && (x1 == y1)) w := by
  refine eqA_of Tryz.underlying44 (by kernel_rfl) ?_
  refine eqf_cons (by rfl) (by go_simp; rfl) (by go_simp; rfl) (by go_simp) ?_
  exact eqf_last (by rfl) (by go_simp; rfl) (by go_simp; rfl) (by go_simp)
end Go.Proofs.YtaojkmalpihmbaaGreatDoor.Q

