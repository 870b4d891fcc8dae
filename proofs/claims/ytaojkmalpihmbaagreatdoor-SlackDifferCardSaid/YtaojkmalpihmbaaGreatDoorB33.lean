import Derived.Test.YtaojkmalpihmbaaGreatDoorB32
import Derived.Test.YtaojkmalpihmbaaGreatDoorB30
import Derived.Test.YtaojkmalpihmbaaGreatDoorB28
namespace Go.Proofs.YtaojkmalpihmbaaGreatDoor.M
open Go.RowKit Go.Proofs.YtaojkmalpihmbaaGreatDoorW.PrintWords Go.Proofs.YtaojkmalpihmbaaGreatDoorW.PrintLast Go.Proofs.YtaojkmalpihmbaaGreatDoorW.PrintMore Go.Proofs.YtaojkmalpihmbaaGreatDoor.Q
set_option linter.unusedVariables false
set_option linter.unusedSimpArgs false

/-! Apart. -/
section
variable {A0 A1 A2 A3 : Option Addr} {c0 c1 c2 c3 : Nat} {ms : List S64} {mv : List Int} {rs : List S66}
set_option maxHeartbeats 8000000 in
set_option maxRecDepth 100000 in
theorem Apart_ok {w : World} (h : PR w A0 c0 ms A1 c1 mv A2 c2 rs) (a1 n1 d1 : Int) {AE1 : Option Addr} {ce1 : Nat} {e1 : List S44} (he1 : ER w AE1 ce1 e1) (a2 n2 d2 : Int) {AE2 : Option Addr} {ce2 : Nat} {e2 : List S44} (he2 : ER w AE2 ce2 e2) (ht1 : handB ms.length a1 n1 d1 e1 = true) (hask : askE ms mv rs (handB ms.length a2 n2 d2 e2) = 0) :
    Calls Tryz.prog 29 #[.agg #[.slice A0 ms.length c0, .slice A1 mv.length c1, .slice A2 rs.length c2], .agg #[.int .i64 a1, .int .i64 n1, .int .i64 d1, .slice AE1 e1.length ce1], .agg #[.int .i64 a2, .int .i64 n2, .int .i64 d2, .slice AE2 e2.length ce2]] w fun e w' =>
      e = .returned (.tuple #[spanV (apartOf ms mv rs a1 n1 d1 e1 a2 n2 d2 e2), .int .i64 (askE ms mv rs (handB ms.length a1 n1 d1 e1 && handB ms.length a2 n2 d2 e2))]) ∧ Below w.heap.size w w' := by
  have H := Aside0.mk h
  have hl0 := h.l0
  have HE1 := Aside0.mk he1
  have HE2 := Aside0.mk he2
  have HBW := Aside0.mk (below_alloc (below_alloc (below_alloc (below_alloc (Below.refl w.heap.size w) (.cells #[.slice A0 ms.length c0, .slice A1 mv.length c1, .slice A2 rs.length c2] 26)) (.cells #[.int .i64 a1, .int .i64 n1, .int .i64 d1, .slice AE1 e1.length ce1] 52)) (.cells #[.int .i64 a2, .int .i64 n2, .int .i64 d2, .slice AE2 e2.length ce2] 52)) (.cells #[.int .i64 0, .int .i64 0] 44))
  have hk0 := (((Blk.new w #[.slice A0 ms.length c0, .slice A1 mv.length c1, .slice A2 rs.length c2] 26).alloc (.cells #[.int .i64 a1, .int .i64 n1, .int .i64 d1, .slice AE1 e1.length ce1] 52)).alloc (.cells #[.int .i64 a2, .int .i64 n2, .int .i64 d2, .slice AE2 e2.length ce2] 52)).alloc (.cells #[.int .i64 0, .int .i64 0] 44)
  have hk1 := ((Blk.new (w.alloc (.cells #[.slice A0 ms.length c0, .slice A1 mv.length c1, .slice A2 rs.length c2] 26)) #[.int .i64 a1, .int .i64 n1, .int .i64 d1, .slice AE1 e1.length ce1] 52).alloc (.cells #[.int .i64 a2, .int .i64 n2, .int .i64 d2, .slice AE2 e2.length ce2] 52)).alloc (.cells #[.int .i64 0, .int .i64 0] 44)
  have hk2 := (Blk.new ((w.alloc (.cells #[.slice A0 ms.length c0, .slice A1 mv.length c1, .slice A2 rs.length c2] 26)).alloc (.cells #[.int .i64 a1, .int .i64 n1, .int .i64 d1, .slice AE1 e1.length ce1] 52)) #[.int .i64 a2, .int .i64 n2, .int .i64 d2, .slice AE2 e2.length ce2] 52).alloc (.cells #[.int .i64 0, .int .i64 0] 44)
  have hk3 := Blk.new (((w.alloc (.cells #[.slice A0 ms.length c0, .slice A1 mv.length c1, .slice A2 rs.length c2] 26)).alloc (.cells #[.int .i64 a1, .int .i64 n1, .int .i64 d1, .slice AE1 e1.length ce1] 52)).alloc (.cells #[.int .i64 a2, .int .i64 n2, .int .i64 d2, .slice AE2 e2.length ce2] 52)) #[.int .i64 0, .int .i64 0] 44
  simp only [World.size_alloc] at hk1 hk2 hk3
  go_enter Tryz.func29, Tryz.ntmps29
  go_upto_region 1 with fail
  obtain ⟨W4, hW4⟩ : ∃ W4, (((w.alloc (.cells #[.slice A0 ms.length c0, .slice A1 mv.length c1, .slice A2 rs.length c2] 26)).alloc (.cells #[.int .i64 a1, .int .i64 n1, .int .i64 d1, .slice AE1 e1.length ce1] 52)).alloc (.cells #[.int .i64 a2, .int .i64 n2, .int .i64 d2, .slice AE2 e2.length ce2] 52)).alloc (.cells #[.int .i64 0, .int .i64 0] 44) = W4 := ⟨_, rfl⟩
  have hsz : W4.heap.size = w.heap.size + 1 + 1 + 1 + 1 := by rw [← hW4]; simp only [World.size_alloc]
  rw [hW4] at HBW hk0 hk1 hk2 hk3 ⊢
  clear hW4
  have HK0 := Aside0.mk hk0
  have HK1 := Aside0.mk hk1
  have HK2 := Aside0.mk hk2
  have HK3 := Aside0.mk hk3
  have hp0 := hk0.cell 0 rfl
  have hp1 := hk0.cell 1 rfl
  have hp2 := hk0.cell 2 rfl
  have hp3 := hk1.cell 0 rfl
  have hp4 := hk1.cell 1 rfl
  have hp5 := hk1.cell 2 rfl
  have hp6 := hk1.cell 3 rfl
  have hq3 := hk2.cell 0 rfl
  have hq4 := hk2.cell 1 rfl
  have hq5 := hk2.cell 2 rfl
  have hq6 := hk2.cell 3 rfl
  have hlt0 := hk0.lt
  have hlt1 := hk1.lt
  have hlt2 := hk2.lt
  have hlt3 := hk3.lt
  have HSZ := Aside0.mk hsz
  clear h he1 he2 hk0 hk1 hk2 hk3 hsz
  have HT1 := Aside0.mk ht1
  clear ht1
  have HA := Aside0.mk hask
  clear hask
  go_cut [8, 9] (fun s7 s8 wx => AskOk A0 c0 ms A1 c1 mv A2 c2 rs w.heap.size W4 s7 s8 wx)
  case first =>
    go_region_held3 (fun w' => w'.cell? ⟨w.heap.size, 0, none⟩ = some (.slice A0 ms.length c0) ∧ w'.cell? ⟨w.heap.size, 1, none⟩ = some (.slice A1 mv.length c1) ∧ w'.cell? ⟨w.heap.size, 2, none⟩ = some (.slice A2 rs.length c2) ∧ w'.cell? ⟨w.heap.size + 1, 0, none⟩ = some (.int .i64 a1) ∧ w'.cell? ⟨w.heap.size + 1, 1, none⟩ = some (.int .i64 n1) ∧ w'.cell? ⟨w.heap.size + 1, 2, none⟩ = some (.int .i64 d1) ∧ w'.cell? ⟨w.heap.size + 1, 3, none⟩ = some (.slice AE1 e1.length ce1) ∧ w'.cell? ⟨w.heap.size + 1 + 1, 0, none⟩ = some (.int .i64 a2) ∧ w'.cell? ⟨w.heap.size + 1 + 1, 1, none⟩ = some (.int .i64 n2) ∧ w'.cell? ⟨w.heap.size + 1 + 1, 2, none⟩ = some (.int .i64 d2) ∧ w'.cell? ⟨w.heap.size + 1 + 1, 3, none⟩ = some (.slice AE2 e2.length ce2)) (first | go_keep | ((refine ⟨?_, ?_, ?_, ?_, ?_, ?_, ?_, ?_, ?_, ?_, ?_⟩) <;> (repeat (first | (with_reducible assumption) | (with_reducible refine set_far ?_ (by dsimp only; omega)))))) (first | (go_at_call 61; (with_reducible refine (isHand_calls A0 A1 A2 ms.length c0 mv.length c1 rs.length c2 hl0 a1 n1 d1 (HE1.out.below (by repeat (first | exact HBW.out | apply below_alloc | apply below_drew1)))).mono ?_); rintro e w1 ⟨rfl, hb1⟩; rw [HT1.out]; have hbx1 : Below W4.heap.size W4 w1 := bthen (by repeat (first | exact Below.refl _ _ | exact Below.refl _ _ | apply below_alloc | apply below_drew1)) hb1; have HBx1 := Aside0.mk hbx1; have HBw1 := Aside0.mk (HBW.out.trans (hbx1.mono HBW.out.size)); obtain ⟨hk1a, hk1b⟩ := bcell hb1; have hz1 := hb1.size; (try (have HZ1 := Aside0.mk (Blk.below (Blk.drew (Blk.new W4 #[.slice none 0 0, .slice none 0 0, .slice none 0 0, .slice none 0 0] 84)) hb1))); have hs1_0 : w1.cell? ⟨w.heap.size, 0, none⟩ = some (.slice A0 ms.length c0) := (HK0.out.below hbx1).cell 0 rfl; have hs1_1 : w1.cell? ⟨w.heap.size, 1, none⟩ = some (.slice A1 mv.length c1) := (HK0.out.below hbx1).cell 1 rfl; have hs1_2 : w1.cell? ⟨w.heap.size, 2, none⟩ = some (.slice A2 rs.length c2) := (HK0.out.below hbx1).cell 2 rfl; have hs1_3 : w1.cell? ⟨w.heap.size + 1, 0, none⟩ = some (.int .i64 a1) := (HK1.out.below hbx1).cell 0 rfl; have hs1_4 : w1.cell? ⟨w.heap.size + 1, 1, none⟩ = some (.int .i64 n1) := (HK1.out.below hbx1).cell 1 rfl; have hs1_5 : w1.cell? ⟨w.heap.size + 1, 2, none⟩ = some (.int .i64 d1) := (HK1.out.below hbx1).cell 2 rfl; have hs1_6 : w1.cell? ⟨w.heap.size + 1, 3, none⟩ = some (.slice AE1 e1.length ce1) := (HK1.out.below hbx1).cell 3 rfl; have hs1_7 : w1.cell? ⟨w.heap.size + 1 + 1, 0, none⟩ = some (.int .i64 a2) := (HK2.out.below hbx1).cell 0 rfl; have hs1_8 : w1.cell? ⟨w.heap.size + 1 + 1, 1, none⟩ = some (.int .i64 n2) := (HK2.out.below hbx1).cell 1 rfl; have hs1_9 : w1.cell? ⟨w.heap.size + 1 + 1, 2, none⟩ = some (.int .i64 d2) := (HK2.out.below hbx1).cell 2 rfl; have hs1_10 : w1.cell? ⟨w.heap.size + 1 + 1, 3, none⟩ = some (.slice AE2 e2.length ce2) := (HK2.out.below hbx1).cell 3 rfl; have hs1_l0 := (HK0.out.below hbx1).lt; have hs1_l1 := (HK1.out.below hbx1).lt; have hs1_l2 := (HK2.out.below hbx1).lt; clear hb1 hbx1) | (go_at_call 61; (with_reducible refine (isHand_calls A0 A1 A2 ms.length c0 mv.length c1 rs.length c2 hl0 a2 n2 d2 (HE2.out.below (by repeat (first | exact HBw1.out | apply below_alloc | apply below_drew1)))).mono ?_); rintro e w2 ⟨rfl, hb2⟩; have hbx2 : Below W4.heap.size W4 w2 := bthen (by repeat (first | exact Below.refl _ _ | exact HBx1.out | apply below_alloc | apply below_drew1)) hb2; have HBx2 := Aside0.mk hbx2; have HBw2 := Aside0.mk (HBW.out.trans (hbx2.mono HBW.out.size)); obtain ⟨hk2a, hk2b⟩ := bcell hb2; have hz2 := hb2.size; (try (have HZ2 := Aside0.mk (Blk.below (Blk.new w1 #[.slice none 0 0, .slice none 0 0, .slice none 0 0, .slice none 0 0] 84) hb2))); (try (have HZ2 := Aside0.mk (HZ1.out.below hb2))); have hs2_0 : w2.cell? ⟨w.heap.size, 0, none⟩ = some (.slice A0 ms.length c0) := (HK0.out.below hbx2).cell 0 rfl; have hs2_1 : w2.cell? ⟨w.heap.size, 1, none⟩ = some (.slice A1 mv.length c1) := (HK0.out.below hbx2).cell 1 rfl; have hs2_2 : w2.cell? ⟨w.heap.size, 2, none⟩ = some (.slice A2 rs.length c2) := (HK0.out.below hbx2).cell 2 rfl; have hs2_3 : w2.cell? ⟨w.heap.size + 1, 0, none⟩ = some (.int .i64 a1) := (HK1.out.below hbx2).cell 0 rfl; have hs2_4 : w2.cell? ⟨w.heap.size + 1, 1, none⟩ = some (.int .i64 n1) := (HK1.out.below hbx2).cell 1 rfl; have hs2_5 : w2.cell? ⟨w.heap.size + 1, 2, none⟩ = some (.int .i64 d1) := (HK1.out.below hbx2).cell 2 rfl; have hs2_6 : w2.cell? ⟨w.heap.size + 1, 3, none⟩ = some (.slice AE1 e1.length ce1) := (HK1.out.below hbx2).cell 3 rfl; have hs2_7 : w2.cell? ⟨w.heap.size + 1 + 1, 0, none⟩ = some (.int .i64 a2) := (HK2.out.below hbx2).cell 0 rfl; have hs2_8 : w2.cell? ⟨w.heap.size + 1 + 1, 1, none⟩ = some (.int .i64 n2) := (HK2.out.below hbx2).cell 1 rfl; have hs2_9 : w2.cell? ⟨w.heap.size + 1 + 1, 2, none⟩ = some (.int .i64 d2) := (HK2.out.below hbx2).cell 2 rfl; have hs2_10 : w2.cell? ⟨w.heap.size + 1 + 1, 3, none⟩ = some (.slice AE2 e2.length ce2) := (HK2.out.below hbx2).cell 3 rfl; have hs2_l0 := (HK0.out.below hbx2).lt; have hs2_l1 := (HK1.out.below hbx2).lt; have hs2_l2 := (HK2.out.below hbx2).lt; clear hb2 hbx2) | (go_at_call 48; (with_reducible refine (asked_calls (H.out.below ?_) _).mono ?_); (repeat (first | exact HBw2.out | apply below_alloc | apply below_drew1)); rintro e w3 ⟨hv, hb3⟩; rcases hv with ⟨_, A3, c3, rfl, hall⟩ | ⟨hne, _⟩; rotate_left 1; exact absurd HA.out hne; have HAll := Aside0.mk hall; have hby : Below W4.heap.size W4 w3 := bthen (by repeat (first | exact Below.refl _ _ | exact HBx2.out | apply below_alloc | apply below_drew1)) hb3; have HBy := Aside0.mk hby; obtain ⟨hk3a, hk3b⟩ := bcell hb3; have hz3 := hb3.size; (try (have HZ9 := Aside0.mk (Blk.below (Blk.new w2 #[.slice none 0 0, .slice none 0 0, .slice none 0 0, .slice none 0 0] 84) hb3); have HZL := Aside0.mk ((Blk.new w2 #[.slice none 0 0, .slice none 0 0, .slice none 0 0, .slice none 0 0] 84).lt); have hzc0 := HZ9.out.cell 0 rfl; have hzf0 := HZ9.out.free 0; have hzc1 := HZ9.out.cell 1 rfl; have hzf1 := HZ9.out.free 1; have hzc2 := HZ9.out.cell 2 rfl; have hzf2 := HZ9.out.free 2; have hzc3 := HZ9.out.cell 3 rfl; have hzf3 := HZ9.out.free 3; have hzl := HZ9.out.lt)); (try (have HZ9 := Aside0.mk (HZ2.out.below hb3); have HZL := Aside0.mk HZ2.out.lt; have hzc0 := HZ9.out.cell 0 rfl; have hzf0 := HZ9.out.free 0; have hzc1 := HZ9.out.cell 1 rfl; have hzf1 := HZ9.out.free 1; have hzc2 := HZ9.out.cell 2 rfl; have hzf2 := HZ9.out.free 2; have hzc3 := HZ9.out.cell 3 rfl; have hzf3 := HZ9.out.free 3; have hzl := HZ9.out.lt)); have ht0 : w3.cell? ⟨w.heap.size, 0, none⟩ = some (.slice A0 ms.length c0) := (HK0.out.below hby).cell 0 rfl; have ht1 : w3.cell? ⟨w.heap.size, 1, none⟩ = some (.slice A1 mv.length c1) := (HK0.out.below hby).cell 1 rfl; have ht2 : w3.cell? ⟨w.heap.size, 2, none⟩ = some (.slice A2 rs.length c2) := (HK0.out.below hby).cell 2 rfl; have ht3 : w3.cell? ⟨w.heap.size + 1, 0, none⟩ = some (.int .i64 a1) := (HK1.out.below hby).cell 0 rfl; have ht4 : w3.cell? ⟨w.heap.size + 1, 1, none⟩ = some (.int .i64 n1) := (HK1.out.below hby).cell 1 rfl; have ht5 : w3.cell? ⟨w.heap.size + 1, 2, none⟩ = some (.int .i64 d1) := (HK1.out.below hby).cell 2 rfl; have ht6 : w3.cell? ⟨w.heap.size + 1, 3, none⟩ = some (.slice AE1 e1.length ce1) := (HK1.out.below hby).cell 3 rfl; have ht7 : w3.cell? ⟨w.heap.size + 1 + 1, 0, none⟩ = some (.int .i64 a2) := (HK2.out.below hby).cell 0 rfl; have ht8 : w3.cell? ⟨w.heap.size + 1 + 1, 1, none⟩ = some (.int .i64 n2) := (HK2.out.below hby).cell 1 rfl; have ht9 : w3.cell? ⟨w.heap.size + 1 + 1, 2, none⟩ = some (.int .i64 d2) := (HK2.out.below hby).cell 2 rfl; have ht10 : w3.cell? ⟨w.heap.size + 1 + 1, 3, none⟩ = some (.slice AE2 e2.length ce2) := (HK2.out.below hby).cell 3 rfl; have htl0 := (HK0.out.below hby).lt; have htl1 := (HK1.out.below hby).lt; have htl2 := (HK2.out.below hby).lt; clear hb3 hall hby))
    all_goals (go_wp2_with fail; go_meet)
    all_goals first | exact askOk_new HAll.out (by first | exact HBW.out.size | exact Nat.le_trans HBW.out.size HBx1.out.size | exact Nat.le_trans HBW.out.size HBx2.out.size) HBy.out | exact askOk_set HZ9.out (by first | exact HZL.out | exact Nat.lt_of_lt_of_le HZL.out (Nat.le_refl _)) HAll.out (by first | exact HBW.out.size | exact Nat.le_trans HBW.out.size HBx1.out.size | exact Nat.le_trans HBW.out.size HBx2.out.size | (rw [World.size_alloc]; exact Nat.le_succ_of_le HBW.out.size) | (rw [World.size_alloc]; exact Nat.le_succ_of_le (Nat.le_trans HBW.out.size HBx1.out.size)) | (rw [World.size_alloc]; exact Nat.le_succ_of_le (Nat.le_trans HBW.out.size HBx2.out.size))) HBy.out (by first | exact Nat.le_refl _ | exact HBx1.out.size | exact HBx2.out.size)
  case rest =>
    obtain ⟨b, A3, c3, rfl, rfl, HX, HAl, HBx⟩ := hcut
    have hin := (askE_piece HA.out).2
    obtain ⟨⟨hn1, hn2⟩, hpp1⟩ := handB_P HT1.out
    obtain ⟨⟨hn3, hn4⟩, hpp2⟩ := handB_P hin
    obtain ⟨i1, rfl⟩ : ∃ n : Nat, a1 = n := ⟨a1.toNat, by omega⟩
    obtain ⟨i2, rfl⟩ : ∃ n : Nat, a2 = n := ⟨a2.toNat, by omega⟩
    have hl6 : (truthsL ms mv rs).length ≤ 625 := truthsL_length (askE_piece HA.out).1
    have hx0 := HX.out.cell 0 rfl
    have hx1 := HX.out.cell 1 rfl
    have hx2 := HX.out.cell 2 rfl
    have hx3 := HX.out.cell 3 rfl
    have hxl := HX.out.lt
    have hof := apart1_of (HK1.out.below HBx.out) ((HE1.out.below HBW.out).below HBx.out) hpp1 (HK2.out.below HBx.out) ((HE2.out.below HBW.out).below HBx.out) hpp2
    have hent := hof.1
    have HC := Aside0.mk (over_calls (c := c3) hof (.slice A0 ms.length c0) (.slice A1 mv.length c1) (.slice A2 rs.length c2) ⟨_, _, _, _, _, _, _, _, _, rfl, rfl, rfl⟩ (Kd.R_reads' HAl.out).2.2 (by omega) (fun x hx => by have g1 := truths_near (askE_piece HA.out).1 (show i1 ≤ ms.length by omega) x hx; have g2 := truths_near (askE_piece HA.out).1 (show i2 ≤ ms.length by omega) x hx; exact ⟨⟨g1.1, g2.1⟩, g1.2⟩))
    obtain ⟨S9, hS9⟩ : ∃ S9, S9 = overL (apartT i1 n1 d1 e1 i2 n2 d2 e2) (truthsL ms mv rs) := ⟨_, rfl⟩
    rw [← hS9] at HC
    have HS9 := Aside0.mk hS9
    have hmf : ∀ (fn : Fn) (first cap : Array Value) (w : World), (Instr.makeFunc fn first cap).run Tryz.prog w = .ok (.func fn first cap) w := fun _ _ _ _ => rfl
    clear hS9 hof hpp1 hpp2 hin
    go_wp2_with (go_at_call 49; (with_reducible refine HC.out.mono ?_); rintro e w5 ⟨rfl, hb5⟩; have hr := (HK3.out.below HBx.out).below hb5; have hr0 := hr.cell 0 rfl; have hr1 := hr.cell 1 rfl; have hrf0 := hr.free 0; have hrf1 := hr.free 1; have hrl := hr.lt; have HR9 := Aside0.mk hr; have HW9 := Aside0.mk (HBW.out.trans ((bthen HBx.out hb5).mono HBW.out.size)); clear hb5 hr)
    refine bodyPost_ret (results_ct rfl _ _ (w.heap.size + 1 + 1 + 1) 44 #[.int .i64 S9.f0, .int .i64 S9.f1] (0, 0) _ rfl ((HR9.out.put 0 _ rfl).put 1 _ rfl) Tryz.underlying44 rfl (by kernel_rfl)) rfl ?_
    have q0 : apartOf ms mv rs (i1 : Int) n1 d1 e1 (i2 : Int) n2 d2 e2 = S9 := by rw [HS9.out]; simp [apartOf, HT1.out, HA.out]
    exact ⟨by rw [q0, HT1.out, Bool.true_and, HA.out]; rfl, below_set (below_set HW9.out (by omega)) (by omega)⟩
end
end Go.Proofs.YtaojkmalpihmbaaGreatDoor.M

namespace Go.Proofs.YtaojkmalpihmbaaGreatDoor.M
open Go.RowKit Go.Proofs.YtaojkmalpihmbaaGreatDoorW.PrintWords Go.Proofs.YtaojkmalpihmbaaGreatDoorW.PrintLast Go.Proofs.YtaojkmalpihmbaaGreatDoorW.PrintMore Go.Proofs.YtaojkmalpihmbaaGreatDoor.Q
set_option linter.unusedVariables false
set_option linter.unusedSimpArgs false

/-! aimed, Aim. -/
def aimedB (l : List S89) (m : Int) (a : Nat) (want limit : Int) : Bool := decide (want - limit ≤ (overL (aimT m a) l).f0) && decide ((overL (aimT m a) l).f1 ≤ want + limit)
set_option maxHeartbeats 4000000 in
set_option maxRecDepth 100000 in
theorem aimed_calls {w : World} (v0 v1 v2 : Value) (hv : ∃ a0 n0 c0 a1 n1 c1 a2 n2 c2, v0 = .slice a0 n0 c0 ∧ v1 = .slice a1 n1 c1 ∧ v2 = .slice a2 n2 c2) {A : Option Addr} {c : Nat} {l : List S89} (hr : Kd.C k89 w A l.length l) (hl : l.length ≤ 1000) (m : Int) (a : Nat)
    (hok : ∀ x ∈ l, fullT a x ∧ x.f0.length ≤ 1000 ∧ x.f1.length ≤ 1000) (want limit : Int) (h1 : -5000 ≤ want) (h2 : want ≤ 5000) (h3 : 0 ≤ limit) (h4 : limit ≤ 5000) :
    Calls Tryz.prog 73 #[.agg #[v0, v1, v2, .slice A l.length c], .int .i64 m, .int .i64 a, .int .i64 want, .int .i64 limit] w fun e w' => e = .returned (.bool (aimedB l m a want limit)) ∧ Below w.heap.size w w' := by
  obtain ⟨a0, n0, c0, a1, n1, c1, a2, n2, c2, rfl, rfl, rfl⟩ := hv
  have HB0 := Aside0.mk (below_alloc (below_alloc (below_alloc (Below.refl w.heap.size w) (.cells #[.slice a0 n0 c0, .slice a1 n1 c1, .slice a2 n2 c2, .slice A l.length c] 84)) (.cells #[.int .i64 m] 3)) (.cells #[.int .i64 a] 3))
  have hk1 := (Blk.new (w.alloc (.cells #[.slice a0 n0 c0, .slice a1 n1 c1, .slice a2 n2 c2, .slice A l.length c] 84)) #[.int .i64 m] 3).alloc (.cells #[.int .i64 a] 3)
  have hk2 := Blk.new ((w.alloc (.cells #[.slice a0 n0 c0, .slice a1 n1 c1, .slice a2 n2 c2, .slice A l.length c] 84)).alloc (.cells #[.int .i64 m] 3)) #[.int .i64 (a : Int)] 3
  simp only [World.size_alloc] at hk1 hk2
  have hof := aimed1_of hk1 hk2
  have hent := hof.1
  have hmf : ∀ (fn : Fn) (first cap : Array Value) (w : World), (Instr.makeFunc fn first cap).run Tryz.prog w = .ok (.func fn first cap) w := fun _ _ _ _ => rfl
  obtain ⟨S9, hS9⟩ : ∃ S9, S9 = overL (aimT m a) l := ⟨_, rfl⟩
  have HF : Aside0 (aimedB l m a want limit = (decide (want - limit ≤ S9.f0) && decide (S9.f1 ≤ want + limit))) := ⟨by rw [hS9]; rfl⟩
  have HC := Aside0.mk (over_calls (c := c) hof (.slice a0 n0 c0) (.slice a1 n1 c1) (.slice a2 n2 c2) ⟨_, _, _, _, _, _, _, _, _, rfl, rfl, rfl⟩ (Kd.C_below hr HB0.out) (by omega) hok)
  rw [← hS9] at HC
  clear hk1 hk2 hof hr hok hS9
  by_cases hge : want - limit ≤ S9.f0
  · by_cases hle : S9.f1 ≤ want + limit
    all_goals
      go_enter Tryz.func73, Tryz.ntmps73
      go_wp2_with (go_at_call 49; (with_reducible refine HC.out.mono ?_); rintro e w5 ⟨rfl, hb5⟩; have HW9 := Aside0.mk (bthen HB0.out hb5); clear hb5)
      go_ret
    · exact ⟨by rw [HF.out]; simp [hge, hle], below_alloc HW9.out _⟩
    · exact ⟨by rw [HF.out]; simp [hge, hle], below_alloc HW9.out _⟩
  · go_enter Tryz.func73, Tryz.ntmps73
    go_wp2_with (go_at_call 49; (with_reducible refine HC.out.mono ?_); rintro e w5 ⟨rfl, hb5⟩; have HW9 := Aside0.mk (bthen HB0.out hb5); clear hb5)
    go_ret
    exact ⟨by rw [HF.out]; simp; omega, below_alloc HW9.out _⟩
def aimGo (f : Int → Bool) : Nat → Nat → Option Int
  | 0, _ => none
  | d + 1, k => if f k then some (k : Int) else if f (-(k : Int)) then some (-(k : Int)) else aimGo f d (k + 1)
def aimL (l : List S89) (a : Nat) (want limit : Int) : Option Int := aimGo (fun m => aimedB l m a want limit) 301 0
section
variable {A0 A1 A2 : Option Addr} {c0 c1 c2 : Nat} {ms : List S64} {mv : List Int} {rs : List S66}
def aimF (ms : List S64) (a want limit : Int) : Bool := inB a 1 ms.length && (inB want (-5000) 5000 && inB limit 0 5000)
/-- Aim's two results. -/
def aimOf (ms : List S64) (mv : List Int) (rs : List S66) (a want limit : Int) : Int × Int :=
  if askE ms mv rs (aimF ms a want limit) = 0 then (match aimL (truthsL ms mv rs) a.toNat want limit with | some n => (n, 0) | none => (0, 5)) else (0, askE ms mv rs (aimF ms a want limit))
theorem askE_no : askE ms mv rs false = 2 := by simp [askE]
end
end Go.Proofs.YtaojkmalpihmbaaGreatDoor.M

