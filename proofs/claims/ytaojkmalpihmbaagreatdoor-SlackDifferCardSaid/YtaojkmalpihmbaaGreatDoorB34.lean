import Derived.Test.YtaojkmalpihmbaaGreatDoorB33
import Derived.LoopN
import Derived.Test.YtaojkmalpihmbaaGreatDoorB30
import Derived.Test.YtaojkmalpihmbaaGreatDoorB24
import Derived.Test.YtaojkmalpihmbaaGreatDoorB28
import Derived.Test.YtaojkmalpihmbaaGreatDoorB10
namespace Go.Proofs.YtaojkmalpihmbaaGreatDoor.M
open Go.RowKit Go.Proofs.YtaojkmalpihmbaaGreatDoorW.PrintWords Go.Proofs.YtaojkmalpihmbaaGreatDoorW.PrintLast Go.Proofs.YtaojkmalpihmbaaGreatDoorW.PrintMore Go.Proofs.YtaojkmalpihmbaaGreatDoor.Q
set_option linter.unusedVariables false
set_option linter.unusedSimpArgs false

section
variable {A0 A1 A2 : Option Addr} {c0 c1 c2 : Nat} {ms : List S64} {mv : List Int} {rs : List S66}
set_option maxHeartbeats 8000000 in
set_option maxRecDepth 100000 in
theorem Aim_ok {w : World} (h : PR w A0 c0 ms A1 c1 mv A2 c2 rs) (a want limit : Int) (ht1 : inB a 1 ms.length = true) (ht2 : inB want (-5000) 5000 = true) (ht3 : inB limit 0 5000 = true) (hask : askE ms mv rs true = 0) :
    Calls Tryz.prog 41 #[.agg #[.slice A0 ms.length c0, .slice A1 mv.length c1, .slice A2 rs.length c2], .int .i64 a, .int .i64 want, .int .i64 limit] w fun e w' =>
      e = .returned (.tuple #[.int .i64 (aimOf ms mv rs a want limit).1, .int .i64 (aimOf ms mv rs a want limit).2]) ∧ Below w.heap.size w w' := by
  have H := Aside0.mk h
  have hl0 := h.l0
  have HBW := Aside0.mk (below_alloc (Below.refl w.heap.size w) (.cells #[.slice A0 ms.length c0, .slice A1 mv.length c1, .slice A2 rs.length c2] 26))
  have hk0 := Blk.new w #[.slice A0 ms.length c0, .slice A1 mv.length c1, .slice A2 rs.length c2] 26
  go_enter Tryz.func41, Tryz.ntmps41
  (try go_wp2_with fail)
  go_step3
  go_upto_region 1 with fail
  obtain ⟨W4, hW4⟩ : ∃ W4, w.alloc (.cells #[.slice A0 ms.length c0, .slice A1 mv.length c1, .slice A2 rs.length c2] 26) = W4 := ⟨_, rfl⟩
  have hsz : W4.heap.size = w.heap.size + 1 := by rw [← hW4]; simp only [World.size_alloc]
  rw [hW4] at HBW hk0 ⊢
  clear hW4
  have HK0 := Aside0.mk hk0
  have hp0 := hk0.cell 0 rfl
  have hp1 := hk0.cell 1 rfl
  have hp2 := hk0.cell 2 rfl
  have hlt0 := hk0.lt
  have HSZ := Aside0.mk hsz
  clear h hk0 hsz
  have hb1 := ht1
  have hb2 := ht2
  have hb3 := ht3
  simp only [inB, Bool.and_eq_true, decide_eq_true_eq] at hb1 hb2 hb3
  obtain ⟨n, hn⟩ : ∃ n : Nat, a = n := ⟨a.toNat, by omega⟩
  subst hn
  obtain ⟨ha1, ha2⟩ := hb1
  obtain ⟨hw1, hw2⟩ := hb2
  obtain ⟨hm1, hm2⟩ := hb3
  have HT1 := Aside0.mk ht1
  have HT2 := Aside0.mk ht2
  have HT3 := Aside0.mk ht3
  clear ht1 ht2 ht3
  have HA := Aside0.mk hask
  clear hask
  go_cut [10, 11] (fun s7 s8 wx => AskOk A0 c0 ms A1 c1 mv A2 c2 rs w.heap.size W4 s7 s8 wx)
  case first =>
    go_region_held3 (fun w' => w'.cell? ⟨w.heap.size, 0, none⟩ = some (.slice A0 ms.length c0) ∧ w'.cell? ⟨w.heap.size, 1, none⟩ = some (.slice A1 mv.length c1) ∧ w'.cell? ⟨w.heap.size, 2, none⟩ = some (.slice A2 rs.length c2)) (first | go_keep | ((refine ⟨?_, ?_, ?_⟩) <;> (repeat (first | (with_reducible assumption) | (with_reducible refine set_far ?_ (by dsimp only; omega)))))) (first | (go_at_call 56; (with_reducible refine (isArbor_calls A0 A1 A2 ms.length c0 mv.length c1 rs.length c2 (n : Int) 1 hl0).mono ?_); rintro e w1 ⟨rfl, hb1⟩; rw [HT1.out]; have hbx1 : Below W4.heap.size W4 w1 := bthen (by repeat (first | exact Below.refl _ _ | exact Below.refl _ _ | apply below_alloc | apply below_drew1)) hb1; have HBx1 := Aside0.mk hbx1; have HBw1 := Aside0.mk (HBW.out.trans (hbx1.mono HBW.out.size)); obtain ⟨hk1a, hk1b⟩ := bcell hb1; have hz1 := hb1.size; (try (have HZ1 := Aside0.mk (Blk.below (Blk.drew (Blk.new W4 #[.slice none 0 0, .slice none 0 0, .slice none 0 0, .slice none 0 0] 84)) hb1))); have hs1_0 : w1.cell? ⟨w.heap.size, 0, none⟩ = some (.slice A0 ms.length c0) := (HK0.out.below hbx1).cell 0 rfl; have hs1_1 : w1.cell? ⟨w.heap.size, 1, none⟩ = some (.slice A1 mv.length c1) := (HK0.out.below hbx1).cell 1 rfl; have hs1_2 : w1.cell? ⟨w.heap.size, 2, none⟩ = some (.slice A2 rs.length c2) := (HK0.out.below hbx1).cell 2 rfl; have hs1_l0 := (HK0.out.below hbx1).lt; clear hb1 hbx1) | (go_at_call 71; (with_reducible refine (isPlace_calls _ _).mono ?_); rintro e wq ⟨rfl, rfl⟩; rw [HT2.out]) | (go_at_call 72; (with_reducible refine (isLimit_calls _ _).mono ?_); rintro e wq ⟨rfl, rfl⟩; rw [HT3.out]) | (go_at_call 48; (with_reducible refine (asked_calls (H.out.below ?_) _).mono ?_); (repeat (first | exact HBw1.out | apply below_alloc | apply below_drew1)); rintro e w2 ⟨hv, hb2⟩; rcases hv with ⟨_, A3, c3, rfl, hall⟩ | ⟨hne, _⟩; rotate_left 1; exact absurd HA.out hne; have HAll := Aside0.mk hall; have hby : Below W4.heap.size W4 w2 := bthen (by repeat (first | exact Below.refl _ _ | exact HBx1.out | apply below_alloc | apply below_drew1)) hb2; have HBy := Aside0.mk hby; obtain ⟨hk2a, hk2b⟩ := bcell hb2; have hz2 := hb2.size; (try (have HZ9 := Aside0.mk (Blk.below (Blk.new w1 #[.slice none 0 0, .slice none 0 0, .slice none 0 0, .slice none 0 0] 84) hb2); have HZL := Aside0.mk ((Blk.new w1 #[.slice none 0 0, .slice none 0 0, .slice none 0 0, .slice none 0 0] 84).lt); have hzc0 := HZ9.out.cell 0 rfl; have hzf0 := HZ9.out.free 0; have hzc1 := HZ9.out.cell 1 rfl; have hzf1 := HZ9.out.free 1; have hzc2 := HZ9.out.cell 2 rfl; have hzf2 := HZ9.out.free 2; have hzc3 := HZ9.out.cell 3 rfl; have hzf3 := HZ9.out.free 3; have hzl := HZ9.out.lt)); (try (have HZ9 := Aside0.mk (HZ1.out.below hb2); have HZL := Aside0.mk HZ1.out.lt; have hzc0 := HZ9.out.cell 0 rfl; have hzf0 := HZ9.out.free 0; have hzc1 := HZ9.out.cell 1 rfl; have hzf1 := HZ9.out.free 1; have hzc2 := HZ9.out.cell 2 rfl; have hzf2 := HZ9.out.free 2; have hzc3 := HZ9.out.cell 3 rfl; have hzf3 := HZ9.out.free 3; have hzl := HZ9.out.lt)); have ht0 : w2.cell? ⟨w.heap.size, 0, none⟩ = some (.slice A0 ms.length c0) := (HK0.out.below hby).cell 0 rfl; have ht1 : w2.cell? ⟨w.heap.size, 1, none⟩ = some (.slice A1 mv.length c1) := (HK0.out.below hby).cell 1 rfl; have ht2 : w2.cell? ⟨w.heap.size, 2, none⟩ = some (.slice A2 rs.length c2) := (HK0.out.below hby).cell 2 rfl; have htl0 := (HK0.out.below hby).lt; clear hb2 hall hby))
    all_goals (go_wp2_with fail; go_meet)
    all_goals first | exact askOk_new HAll.out (by first | exact HBW.out.size | exact Nat.le_trans HBW.out.size HBx1.out.size | exact Nat.le_trans HBW.out.size HBx2.out.size) HBy.out | exact askOk_set HZ9.out (by first | exact HZL.out | exact Nat.lt_of_lt_of_le HZL.out (Nat.le_refl _)) HAll.out (by first | exact HBW.out.size | exact Nat.le_trans HBW.out.size HBx1.out.size | exact Nat.le_trans HBW.out.size HBx2.out.size | (rw [World.size_alloc]; exact Nat.le_succ_of_le HBW.out.size) | (rw [World.size_alloc]; exact Nat.le_succ_of_le (Nat.le_trans HBW.out.size HBx1.out.size)) | (rw [World.size_alloc]; exact Nat.le_succ_of_le (Nat.le_trans HBW.out.size HBx2.out.size))) HBy.out (by first | exact Nat.le_refl _ | exact HBx1.out.size | exact HBx2.out.size)
  case rest =>
    obtain ⟨b, A3, c3, rfl, rfl, HX, HAl, HBx⟩ := hcut
    have hpc := (askE_piece HA.out).1
    have hl6 : (truthsL ms mv rs).length ≤ 625 := truthsL_length hpc
    have HW9 := Aside0.mk (HBW.out.trans (HBx.out.mono HBW.out.size))
    have HRx := Aside0.mk (Kd.R_reads' HAl.out).2.2
    have HOK : Aside0 (∀ x ∈ truthsL ms mv rs, fullT n x ∧ x.f0.length ≤ 1000 ∧ x.f1.length ≤ 1000) := ⟨by
      intro x hx
      have h9 := truthsL_mem hx
      have h7 := (piece_len hpc).2.1
      refine ⟨⟨?_, ?_⟩, ?_, ?_⟩ <;> omega⟩
    have q1 : aimF ms (n : Int) want limit = true := by simp [aimF, HT1.out, HT2.out, HT3.out]
    have HQ : Aside0 (∀ r, aimL (truthsL ms mv rs) n want limit = r → aimOf ms mv rs (n : Int) want limit = (match r with | some n => (n, 0) | none => (0, 5))) := ⟨by
      intro r hr
      simp only [aimOf, q1, if_pos HA.out, Int.toNat_natCast, hr]
      cases r <;> rfl⟩
    obtain ⟨l, hl⟩ : ∃ l, l = truthsL ms mv rs := ⟨_, rfl⟩
    obtain ⟨f, hf⟩ : ∃ f : Int → Bool, f = fun m => aimedB l m n want limit := ⟨_, rfl⟩
    have HL : Aside0 (aimL (truthsL ms mv rs) n want limit = aimGo f 301 0) := ⟨by rw [hf, ← hl]; rfl⟩
    have HC : Aside0 (∀ (W : World) (m : Int), Below wc.heap.size wc W → Calls Tryz.prog 73 #[.agg #[.slice A0 ms.length c0, .slice A1 mv.length c1, .slice A2 rs.length c2, .slice A3 (truthsL ms mv rs).length c3], .int .i64 m, .int .i64 n, .int .i64 want, .int .i64 limit] W fun e w' => e = .returned (.bool (f m)) ∧ Below W.heap.size W w') := ⟨by
      intro W m hW
      rw [hf, hl]
      exact aimed_calls _ _ _ ⟨_, _, _, _, _, _, _, _, _, rfl, rfl, rfl⟩ (Kd.C_below HRx.out hW) (by omega) m n HOK.out want limit hw1 hw2 hm1 hm2⟩
    have hix0 : ∀ (u v : Value) (W : World), (Instr.index 96 (.agg #[u, v]) (.int .i64 0)).run Tryz.prog W = .ok u W := fun u v W => by kernel_rfl
    have hix1 : ∀ (u v : Value) (W : World), (Instr.index 96 (.agg #[u, v]) (.int .i64 1)).run Tryz.prog W = .ok v W := fun u v W => by kernel_rfl
    clear hf hl hpc q1
    have HF9 : Aside0 (∀ r, aimGo f 301 0 = r → aimOf ms mv rs (n : Int) want limit = (match r with | some n => (n, 0) | none => (0, 5))) := ⟨fun r hr => HQ.out r (HL.out.trans hr)⟩
    clear HQ HL
    go_wp2
    go_step3
    go_wp2
    go_loopg [12, 13, 36] 301 (fun k s12 s13 s36 wr => ∃ j : Nat, j + k = 301 ∧ s36 = .int .i64 j ∧ s12 = .int .i64 0 ∧ s13 = .bool false ∧ Aside0 (aimGo f 301 0 = aimGo f k j) ∧ Below wc.heap.size wc wr)
    case atStart => exact ⟨0, rfl, rfl, rfl, rfl, ⟨rfl⟩, Below.refl _ _⟩
    case round =>
      obtain ⟨j, hj, rfl, rfl, rfl, HG, hBr⟩ := hrel
      have hj' : j ≤ 301 := by omega
      have HJ := Aside0.mk hj
      have hkx := HX.out.below hBr
      have hx0 := hkx.cell 0 rfl
      have hx1 := hkx.cell 1 rfl
      have hx2 := hkx.cell 2 rfl
      have hx3 := hkx.cell 3 rfl
      have hxl := hkx.lt
      clear hj hkx
      by_cases hlt : j < 301
      · have hg : aimGo f gk j = if f j then some (j : Int) else if f (-(j : Int)) then some (-(j : Int)) else aimGo f (gk - 1) (j + 1) := by
          have := HJ.out
          obtain ⟨d, rfl⟩ : ∃ d, gk = d + 1 := ⟨gk - 1, by omega⟩
          rfl
        have HG2 := Aside0.mk hg
        clear hg
        rcases hf0 : f j with _ | _
        · rcases hf1 : f (-(j : Int)) with _ | _
          · have HF0 := Aside0.mk hf0
            have HF1 := Aside0.mk hf1
            clear hf0 hf1
            go_wp2
            refine wp_loop_rounds 3 ?_
            rw [rounds_succ]
            go_wp2_with (go_at_call 73; (with_reducible refine (HC.out _ _ ?_).mono ?_); (repeat (first | exact hBr | apply below_alloc | apply below_drew1)); rintro e w5 ⟨rfl, hb⟩; rw [HF0.out]; have hbn : Below wc.heap.size wc w5 := bthen hBr hb; have HB_w5 := Aside0.mk hbn; have hy := HX.out.below hbn; have hy0 := hy.cell 0 rfl; have hy1 := hy.cell 1 rfl; have hy2 := hy.cell 2 rfl; have hy3 := hy.cell 3 rfl; have hyl := hy.lt; clear hb hbn hy)
            rw [rounds_succ]
            go_wp2_with (go_at_call 73; (with_reducible refine (HC.out _ _ ?_).mono ?_); (repeat (first | exact HB_w5.out | apply below_alloc | apply below_drew1)); rintro e w6 ⟨rfl, hb⟩; rw [HF1.out]; have hbn : Below wc.heap.size wc w6 := bthen HB_w5.out hb; have HB_w6 := Aside0.mk hbn; have hy := HX.out.below hbn; have hy0 := hy.cell 0 rfl; have hy1 := hy.cell 1 rfl; have hy2 := hy.cell 2 rfl; have hy3 := hy.cell 3 rfl; have hyl := hy.lt; clear hb hbn hy)
            rw [rounds_succ]
            go_wp2
            go_roundg (gk - 1)
            case measure => have := HJ.out; omega
            case rel => exact ⟨j + 1, by have := HJ.out; omega, by go_num, rfl, rfl, ⟨by rw [HG.out, HG2.out, HF0.out, HF1.out]; rfl⟩, HB_w6.out⟩
          · have HF0 := Aside0.mk hf0
            have HF1 := Aside0.mk hf1
            clear hf0 hf1
            go_wp2
            refine wp_loop_rounds 3 ?_
            rw [rounds_succ]
            go_wp2_with (go_at_call 73; (with_reducible refine (HC.out _ _ ?_).mono ?_); (repeat (first | exact hBr | apply below_alloc | apply below_drew1)); rintro e w5 ⟨rfl, hb⟩; rw [HF0.out]; have hbn : Below wc.heap.size wc w5 := bthen hBr hb; have HB_w5 := Aside0.mk hbn; have hy := HX.out.below hbn; have hy0 := hy.cell 0 rfl; have hy1 := hy.cell 1 rfl; have hy2 := hy.cell 2 rfl; have hy3 := hy.cell 3 rfl; have hyl := hy.lt; clear hb hbn hy)
            rw [rounds_succ]
            go_wp2_with (go_at_call 73; (with_reducible refine (HC.out _ _ ?_).mono ?_); (repeat (first | exact HB_w5.out | apply below_alloc | apply below_drew1)); rintro e w6 ⟨rfl, hb⟩; rw [HF1.out]; have hbn : Below wc.heap.size wc w6 := bthen HB_w5.out hb; have HB_w6 := Aside0.mk hbn; have hy := HX.out.below hbn; have hy0 := hy.cell 0 rfl; have hy1 := hy.cell 1 rfl; have hy2 := hy.cell 2 rfl; have hy3 := hy.cell 3 rfl; have hyl := hy.lt; clear hb hbn hy)
            rw [Exit.noGoto_ret]
            go_ret2
            have q0 := HF9.out (some (-(j : Int))) (by rw [HG.out, HG2.out, HF0.out, HF1.out]; rfl)
            exact ⟨by rw [q0]; rfl, HW9.out.trans (HB_w6.out.mono HW9.out.size)⟩
        · have HF0 := Aside0.mk hf0
          clear hf0
          go_wp2
          refine wp_loop_rounds 3 ?_
          rw [rounds_succ]
          go_wp2_with (go_at_call 73; (with_reducible refine (HC.out _ _ ?_).mono ?_); (repeat (first | exact hBr | apply below_alloc | apply below_drew1)); rintro e w5 ⟨rfl, hb⟩; rw [HF0.out]; have hbn : Below wc.heap.size wc w5 := bthen hBr hb; have HB_w5 := Aside0.mk hbn; have hy := HX.out.below hbn; have hy0 := hy.cell 0 rfl; have hy1 := hy.cell 1 rfl; have hy2 := hy.cell 2 rfl; have hy3 := hy.cell 3 rfl; have hyl := hy.lt; clear hb hbn hy)
          rw [Exit.noGoto_ret]
          go_ret2
          have q0 := HF9.out (some (j : Int)) (by rw [HG.out, HG2.out, HF0.out]; rfl)
          exact ⟨by rw [q0]; rfl, HW9.out.trans (HB_w5.out.mono HW9.out.size)⟩
      · obtain rfl : j = 301 := by omega
        have hk0 : gk = 0 := by have := HJ.out; omega
        subst hk0
        have HR := Aside0.mk (HF9.out none HG.out)
        go_wp2
        go_ret2
        exact ⟨by rw [HR.out]; rfl, HW9.out.trans (hBr.mono HW9.out.size)⟩
end
end Go.Proofs.YtaojkmalpihmbaaGreatDoor.M

namespace Go.Proofs.YtaojkmalpihmbaaGreatDoor.M
open Go.RowKit Go.Proofs.YtaojkmalpihmbaaGreatDoorW.PrintWords Go.Proofs.YtaojkmalpihmbaaGreatDoorW.PrintLast Go.Proofs.YtaojkmalpihmbaaGreatDoorW.PrintMore Go.Proofs.YtaojkmalpihmbaaGreatDoor.Q
set_option linter.unusedVariables false
set_option linter.unusedSimpArgs false

/-! Renew's second closure: what is left of a truth's plays. -/
def lessP (pl : List Int) (n : Int) (gone : List Int) : Int := gone.foldl (fun n i => wrap64 (n - pl.getD i.toNat 0)) n
def leftT (gone : List Int) (x : S89) : S44 := one (lessP x.f0 (sumW x.f0) gone)
theorem lessP_snoc (pl : List Int) (n : Int) (l : List Int) (i : Int) : lessP pl n (l ++ [i]) = wrap64 (lessP pl n l - pl.getD i.toNat 0) := by simp [lessP, List.foldl_append]
set_option maxHeartbeats 2000000 in
set_option maxRecDepth 100000 in
theorem renew2_of {w : World} {b c : Nat} {A : Option Addr} {gone : List Int} {price : Int} (hb : Blk w b #[.slice A gone.length c, .int .i64 price] 109) (hg : IR w A c gone) :
    OfFn 77 #[.pointer (some ⟨b, 0, none⟩)] w (fun x => ∀ i ∈ gone, 0 ≤ i ∧ i < (x.f0.length : Int)) (leftT gone) := by
  refine ⟨ent Tryz.func77 (by kernel_rfl) rfl, ?_⟩
  intro x W A' c' A2 c2 hB hlt ht
  have hgl := hg.l
  have hpl := ht.p.l
  have HLT := Aside0.mk hlt
  have HT := Aside0.mk ht
  have HG := Aside0.mk (hg.below hB)
  have HBb := Aside0.mk (hb.below hB)
  have hb0 := HBb.out.cell 0 rfl
  have hbl := HBb.out.lt
  have hk0 := (Blk.new W #[.slice A' x.f0.length c', .slice A2 x.f1.length c2] 89).alloc (.cells #[.int .i64 0, .int .i64 0] 44)
  have hk1 := Blk.new (W.alloc (.cells #[.slice A' x.f0.length c', .slice A2 x.f1.length c2] 89)) #[.int .i64 0, .int .i64 0] 44
  rw [World.size_alloc] at hk1
  have HK0 := Aside0.mk hk0
  have HK1 := Aside0.mk hk1
  have HB0 := Aside0.mk (below_alloc (below_alloc (Below.refl W.heap.size W) (.cells #[.slice A' x.f0.length c', .slice A2 x.f1.length c2] 89)) (.cells #[.int .i64 0, .int .i64 0] 44))
  obtain ⟨s0, hs0⟩ : ∃ s0, s0 = sumW x.f0 := ⟨_, rfl⟩
  have HS0 := Aside0.mk hs0
  clear hb hg hB hlt ht hk0 hk1 hs0
  simp only [List.push_toArray, List.append_toArray, List.nil_append, List.cons_append]
  go_enter Tryz.func77, Tryz.ntmps77
  go_wp2_with (go_at_call 78; (with_reducible refine (sum_calls (HT.out.p.below HB0.out)).mono ?_); rintro e w1 ⟨rfl, rfl⟩; rw [← HS0.out])
  go_loopg [4, 13] (gone.length) (fun k n i wr => ∃ (j : Nat) (s : Int), j + k = gone.length ∧ n = .int .i64 s ∧ i = .int .i64 j ∧ Aside0 (s = lessP x.f0 s0 (gone.take j)) ∧ (W.alloc (.cells #[.slice A' x.f0.length c', .slice A2 x.f1.length c2] 89)).alloc (.cells #[.int .i64 0, .int .i64 0] 44) = wr)
  case atStart => exact ⟨0, s0, by omega, rfl, rfl, ⟨rfl⟩, rfl⟩
  case round =>
    obtain ⟨j, s, hj, rfl, rfl, HS, rfl⟩ := hrel
    have hj' : j ≤ gone.length := by omega
    have HJ := Aside0.mk hj
    clear hj
    have hc0 := HK0.out.cell 0 rfl
    by_cases hlt : j < gone.length
    · obtain ⟨i, hi⟩ : ∃ i, gone[j]? = some i := ⟨_, List.getElem?_eq_getElem hlt⟩
      obtain ⟨h1, h2⟩ := HLT.out i (List.mem_of_getElem? hi)
      obtain ⟨n, rfl⟩ : ∃ n : Nat, i = n := ⟨i.toNat, by omega⟩
      obtain ⟨v, hv⟩ : ∃ v, x.f0[n]? = some v := ⟨_, List.getElem?_eq_getElem (by omega)⟩
      obtain ⟨ad, rfl, hca⟩ := at_int (Kd.C_below HG.out.r HB0.out) hi hlt
      obtain ⟨bd, rfl, hcb⟩ := at_int (Kd.C_below HT.out.p.r HB0.out) hv (by omega)
      have HI := Aside0.mk hi
      have HV := Aside0.mk hv
      clear hi hv
      go_wp2
      go_roundg (gk - 1)
      case measure => have := HJ.out; omega
      case rel =>
        refine ⟨j + 1, _, by have := HJ.out; omega, rfl, by go_num, ⟨?_⟩, rfl⟩
        rw [List.take_add_one, HI.out]
        show _ = lessP x.f0 s0 (gone.take j ++ [(n : Int)])
        rw [lessP_snoc, ← HS.out, Int.toNat_natCast, List.getD_eq_getElem?_getD, HV.out]
        rfl
    · obtain rfl : j = gone.length := by omega
      go_wp2_with (go_at_call 51; (with_reducible refine (just_calls _ _).mono ?_); rintro e w3 ⟨rfl, hb3⟩; have HB3 := Aside0.mk (bthen HB0.out hb3); have hr := HK1.out.below hb3; have hr0 := hr.cell 0 rfl; have hr1 := hr.cell 1 rfl; have hrf0 := hr.free 0; have hrf1 := hr.free 1; have hrl := hr.lt; have HR9 := Aside0.mk hr; clear hb3 hr)
      refine bodyPost_ret (results_cell_row rfl _ _ (W.heap.size + 1) 44 #[.int .i64 s, .int .i64 s] (0,0) _ (by rfl) ((HR9.out.put 0 _ rfl).put 1 _ rfl) Tryz.underlying44 rfl (by kernel_rfl)) rfl ?_
      refine ⟨?_, below_set (below_set HB3.out (by omega)) (by omega)⟩
      have hs := HS.out
      rw [List.take_length] at hs
      rw [show leftT gone x = ⟨s, s⟩ by rw [hs, HS0.out]; rfl]
end Go.Proofs.YtaojkmalpihmbaaGreatDoor.M

namespace Go.Proofs.YtaojkmalpihmbaaGreatDoor.M
open Go.RowKit Go.Proofs.YtaojkmalpihmbaaGreatDoorW.PrintWords Go.Proofs.YtaojkmalpihmbaaGreatDoorW.PrintLast Go.Proofs.YtaojkmalpihmbaaGreatDoorW.PrintMore Go.Proofs.YtaojkmalpihmbaaGreatDoor.Q
set_option linter.unusedVariables false
set_option linter.unusedSimpArgs false

/-! Renew. -/
def picked (s j : Nat) : List Nat := (List.range j).filter fun i => s.testBit i
def pickI (s j : Nat) : List Int := (picked s j).map fun (i : Nat) => (i : Int)
def priceOf (pr : List Int) (l : List Nat) : Int := l.foldl (fun n i => n + pr.getD i 0) 0
def renOf (pr : List Int) (s : Nat) : S109 := ⟨pickI s pr.length, priceOf pr (picked s pr.length)⟩
def renewL (ms : List S64) (mv : List Int) (rs : List S66) (pr : List Int) (limit : Int) : List S109 :=
  ((List.range (2 ^ pr.length)).filter fun s => decide ((overL (leftT (pickI s pr.length)) (truthsL ms mv rs)).f1 ≤ limit)).map (renOf pr)
def RenewV (x : S109) (e : Ending) (w' : World) : Prop := ∃ A c, e = .returned (.tuple #[.slice A x.f0.length c, .int .i64 x.f1, .int .i64 0]) ∧ IR w' A c x.f0
def renewTo (ms : List S64) (mv : List Int) (rs : List S66) (pr : List Int) (limit : Int) (s : Nat) : List S109 :=
  ((List.range s).filter fun s => decide ((overL (leftT (pickI s pr.length)) (truthsL ms mv rs)).f1 ≤ limit)).map (renOf pr)
theorem bit_all : ∀ s, s < 16 → ∀ j, j < 4 → (bits BinOp.and IntKind.i64 ((s : Nat) / (2 : Int) ^ (j : Nat)) 1 == 1) = s.testBit j := by decide +kernel
theorem bit_test (s j : Nat) (hs : s < 16) (hj : j < 4) : (bits BinOp.and IntKind.i64 ((s : Int) / 2 ^ j) 1 == 1) = s.testBit j := bit_all s hs j hj
theorem picked_yes {s j : Nat} (h : s.testBit j = true) : picked s (j + 1) = picked s j ++ [j] := by simp [picked, List.range_succ, List.filter_append, h]
theorem picked_no {s j : Nat} (h : s.testBit j = false) : picked s (j + 1) = picked s j := by simp [picked, List.range_succ, List.filter_append, h]
theorem pick_len (s j : Nat) : (pickI s j).length ≤ j := by
  simp only [pickI, picked, List.length_map]
  exact Nat.le_trans (List.length_filter_le _ _) (by simp)
theorem prices_ok {pr : List Int} (h : anyB priceBad pr = false) : ∀ x ∈ pr, 0 ≤ x ∧ x ≤ 1000 := by
  intro x hx
  simp [anyB] at h
  have := h x hx
  simp [priceBad, inB] at this
  omega
theorem priceOf_snoc (pr : List Int) (l : List Nat) (j : Nat) : priceOf pr (l ++ [j]) = priceOf pr l + pr.getD j 0 := by simp [priceOf, List.foldl_append]
theorem price_bound {pr : List Int} (h : ∀ x ∈ pr, 0 ≤ x ∧ x ≤ 1000) (s : Nat) : ∀ j, 0 ≤ priceOf pr (picked s j) ∧ priceOf pr (picked s j) ≤ 1000 * (j : Int)
  | 0 => by simp [picked, priceOf]
  | j + 1 => by
    have h1 := price_bound h s j
    have h2 : 0 ≤ pr.getD j 0 ∧ pr.getD j 0 ≤ 1000 := by
      rw [List.getD_eq_getElem?_getD]
      cases hj : pr[j]? with
      | none => simp
      | some x => exact h x (List.mem_of_getElem? hj)
    rcases hb : s.testBit j with _ | _
    · rw [picked_no hb]; omega
    · rw [picked_yes hb, priceOf_snoc]; omega
theorem OwnR.far2 {w : World} {base : Nat} {l : List Int} {v : Value} (h : OwnR w base l v) {p : Addr} (hp : ∀ k, v.ownBlock = some k → k ≠ p.block) (u : Value) : OwnR (w.setCell p u) base l v :=
  Kd.R_of_own (own_move h.own (fun k hk => Below.heap_setCell w p u k (hp k hk))) (fun _ _ => trivial)
theorem pick_mem {s j : Nat} {i : Int} (h : i ∈ pickI s j) : 0 ≤ i ∧ i < (j : Int) := by
  simp only [pickI, picked, List.mem_map, List.mem_filter, List.mem_range] at h
  obtain ⟨n, ⟨h1, _⟩, rfl⟩ := h
  omega
theorem renewTo_yes {ms : List S64} {mv : List Int} {rs : List S66} {pr : List Int} {limit : Int} {s : Nat} (h : (overL (leftT (pickI s pr.length)) (truthsL ms mv rs)).f1 ≤ limit) : renewTo ms mv rs pr limit (s + 1) = renewTo ms mv rs pr limit s ++ [renOf pr s] := by
  simp [renewTo, List.range_succ, List.filter_append, h]
theorem renewTo_no {ms : List S64} {mv : List Int} {rs : List S66} {pr : List Int} {limit : Int} {s : Nat} (h : ¬ (overL (leftT (pickI s pr.length)) (truthsL ms mv rs)).f1 ≤ limit) : renewTo ms mv rs pr limit (s + 1) = renewTo ms mv rs pr limit s := by
  simp [renewTo, List.range_succ, List.filter_append, h]
theorem renewTo_len {ms : List S64} {mv : List Int} {rs : List S66} {pr : List Int} {limit : Int} {s : Nat} {x : S109} (h : x ∈ renewTo ms mv rs pr limit s) : x.f0.length ≤ pr.length := by
  simp only [renewTo, List.mem_map] at h
  obtain ⟨n, _, rfl⟩ := h
  exact pick_len n pr.length
end Go.Proofs.YtaojkmalpihmbaaGreatDoor.M

