import Derived.Test.YtaojkmalpihmbaaGreatDoorB26
import Derived.Test.YtaojkmalpihmbaaGreatDoorB27
import Derived.Deep.RegionHeld3
namespace Go.Proofs.YtaojkmalpihmbaaGreatDoor.M
open Go.RowKit Go.Proofs.YtaojkmalpihmbaaGreatDoorW.PrintWords Go.Proofs.YtaojkmalpihmbaaGreatDoorW.PrintLast Go.Proofs.YtaojkmalpihmbaaGreatDoorW.PrintMore Go.Proofs.YtaojkmalpihmbaaGreatDoor.Q
set_option linter.unusedVariables false
set_option linter.unusedSimpArgs false

/-! x, e := asked(p, ..): what a region leaves that draws its order. Shows. -/
def AskOk (A0 : Option Addr) (c0 : Nat) (ms : List S64) (A1 : Option Addr) (c1 : Nat) (mv : List Int) (A2 : Option Addr) (c2 : Nat) (rs : List S66) (base : Nat) (W4 : World) (s7 s8 : Value) (wx : World) : Prop :=
  ∃ b A3 c3, s7 = .pointer (some ⟨b, 0, none⟩) ∧ s8 = .int .i64 0 ∧ Aside0 (Blk wx b #[.slice A0 ms.length c0, .slice A1 mv.length c1, .slice A2 rs.length c2, .slice A3 (truthsL ms mv rs).length c3] 84) ∧
    Aside0 (AllR wx base (.slice A3 (truthsL ms mv rs).length c3) (truthsL ms mv rs)) ∧ Aside0 (Below W4.heap.size W4 wx)
def AskNo (er : Int) (W4 : World) (s7 s8 : Value) (wx : World) : Prop := ∃ b, s7 = .pointer (some ⟨b, 0, none⟩) ∧ s8 = .int .i64 er ∧ Aside0 (Below W4.heap.size W4 wx)
section
variable {A0 A1 A2 A3 : Option Addr} {c0 c1 c2 c3 : Nat} {ms : List S64} {mv : List Int} {rs : List S66}
theorem askOk_new {w2 W4 : World} {base B : Nat} (ha : AllR w2 B (.slice A3 (truthsL ms mv rs).length c3) (truthsL ms mv rs)) (hb : base ≤ B) (hB : Below W4.heap.size W4 w2) :
    AskOk A0 c0 ms A1 c1 mv A2 c2 rs base W4 (.pointer (some ⟨w2.heap.size, 0, none⟩)) (.int .i64 0) (w2.alloc (.cells #[.slice A0 ms.length c0, .slice A1 mv.length c1, .slice A2 rs.length c2, .slice A3 (truthsL ms mv rs).length c3] 84)) :=
  ⟨_, A3, c3, rfl, rfl, ⟨Blk.new w2 _ _⟩, ⟨Kd.R_lower (Kd.R_below ha (below_alloc (Below.refl _ _) _)) hb⟩, ⟨below_alloc hB _⟩⟩
theorem askOk_set {w2 W4 : World} {base B b : Nat} {z0 z1 z2 z3 : Value} (hz : Blk w2 b #[z0, z1, z2, z3] 84) (hl : b < B) (ha : AllR w2 B (.slice A3 (truthsL ms mv rs).length c3) (truthsL ms mv rs)) (hb : base ≤ B) (hB : Below W4.heap.size W4 w2) (hW : W4.heap.size ≤ b) :
    AskOk A0 c0 ms A1 c1 mv A2 c2 rs base W4 (.pointer (some ⟨b, 0, none⟩)) (.int .i64 0) ((((w2.setCell ⟨b, 0, none⟩ (.slice A0 ms.length c0)).setCell ⟨b, 1, none⟩ (.slice A1 mv.length c1)).setCell ⟨b, 2, none⟩ (.slice A2 rs.length c2)).setCell ⟨b, 3, none⟩ (.slice A3 (truthsL ms mv rs).length c3)) :=
  ⟨_, A3, c3, rfl, rfl, ⟨(((hz.put 0 _ rfl).put 1 _ rfl).put 2 _ rfl).put 3 _ rfl⟩,
    ⟨Kd.R_lower (R_under_set (R_under_set (R_under_set (R_under_set ha (p := ⟨b, 0, none⟩) hl _) (p := ⟨b, 1, none⟩) hl _) (p := ⟨b, 2, none⟩) hl _) (p := ⟨b, 3, none⟩) hl _) hb⟩, ⟨below_set (below_set (below_set (below_set hB hW) hW) hW) hW⟩⟩
theorem truths_near (h : pieceB ms mv rs = true) {n : Nat} (hn : n ≤ ms.length) : ∀ x ∈ truthsL ms mv rs, nearT n x ∧ x.f0.length ≤ 1000 ∧ x.f1.length ≤ 1000 := by
  intro x hx
  have h1 := truthsL_mem hx
  have h2 := (truthsL_form h hx h1.1).2.2.2
  have h3 := piece_len h
  refine ⟨⟨by omega, fun v hv => ?_⟩, by omega, by omega⟩
  have := h2 v (List.mem_of_getElem? hv)
  omega
def showsOf (ms : List S64) (mv : List Int) (rs : List S66) (arb num den : Int) (es : List S44) : S44 := if askE ms mv rs (handB ms.length arb num den es) = 0 then overL (showsT arb.toNat num den es) (truthsL ms mv rs) else ⟨0, 0⟩
set_option maxHeartbeats 4000000 in
set_option maxRecDepth 100000 in
theorem Shows_calls {w : World} (h : PR w A0 c0 ms A1 c1 mv A2 c2 rs) (arb num den : Int) {AE : Option Addr} {ce : Nat} {es : List S44} (he : ER w AE ce es) :
    Calls Tryz.prog 32 #[.agg #[.slice A0 ms.length c0, .slice A1 mv.length c1, .slice A2 rs.length c2], .agg #[.int .i64 arb, .int .i64 num, .int .i64 den, .slice AE es.length ce]] w fun e w' =>
      e = .returned (.tuple #[spanV (showsOf ms mv rs arb num den es), .int .i64 (askE ms mv rs (handB ms.length arb num den es))]) ∧ Below w.heap.size w w' := by
  have H := Aside0.mk h
  have hl0 := h.l0
  have HE9 := Aside0.mk he
  have HBW := Aside0.mk (below_alloc (below_alloc (below_alloc (Below.refl w.heap.size w) (.cells #[.slice A0 ms.length c0, .slice A1 mv.length c1, .slice A2 rs.length c2] 26)) (.cells #[.int .i64 arb, .int .i64 num, .int .i64 den, .slice AE es.length ce] 52)) (.cells #[.int .i64 0, .int .i64 0] 44))
  have hk0 := ((Blk.new w #[.slice A0 ms.length c0, .slice A1 mv.length c1, .slice A2 rs.length c2] 26).alloc (.cells #[.int .i64 arb, .int .i64 num, .int .i64 den, .slice AE es.length ce] 52)).alloc (.cells #[.int .i64 0, .int .i64 0] 44)
  have hk1 := (Blk.new (w.alloc (.cells #[.slice A0 ms.length c0, .slice A1 mv.length c1, .slice A2 rs.length c2] 26)) #[.int .i64 arb, .int .i64 num, .int .i64 den, .slice AE es.length ce] 52).alloc (.cells #[.int .i64 0, .int .i64 0] 44)
  have hk2 := Blk.new ((w.alloc (.cells #[.slice A0 ms.length c0, .slice A1 mv.length c1, .slice A2 rs.length c2] 26)).alloc (.cells #[.int .i64 arb, .int .i64 num, .int .i64 den, .slice AE es.length ce] 52)) #[.int .i64 0, .int .i64 0] 44
  simp only [World.size_alloc] at hk1 hk2
  go_enter Tryz.func32, Tryz.ntmps32
  go_upto_region 1 with fail
  obtain ⟨W4, hW4⟩ : ∃ W4, ((w.alloc (.cells #[.slice A0 ms.length c0, .slice A1 mv.length c1, .slice A2 rs.length c2] 26)).alloc (.cells #[.int .i64 arb, .int .i64 num, .int .i64 den, .slice AE es.length ce] 52)).alloc (.cells #[.int .i64 0, .int .i64 0] 44) = W4 := ⟨_, rfl⟩
  have hsz : W4.heap.size = w.heap.size + 1 + 1 + 1 := by rw [← hW4]; simp only [World.size_alloc]
  rw [hW4] at HBW hk0 hk1 hk2 ⊢
  clear hW4
  have HK0 := Aside0.mk hk0
  have HK1 := Aside0.mk hk1
  have HK2 := Aside0.mk hk2
  have hp0 := hk0.cell 0 rfl
  have hp1 := hk0.cell 1 rfl
  have hp2 := hk0.cell 2 rfl
  have hp3 := hk1.cell 0 rfl
  have hp4 := hk1.cell 1 rfl
  have hp5 := hk1.cell 2 rfl
  have hp6 := hk1.cell 3 rfl
  have hlt0 := hk0.lt
  have hlt1 := hk1.lt
  have hlt2 := hk2.lt
  have HSZ := Aside0.mk hsz
  clear h he hk0 hk1 hk2 hsz
  by_cases hask : askE ms mv rs (handB ms.length arb num den es) = 0
  · have HA := Aside0.mk hask
    clear hask
    go_cut [6, 7] (fun s7 s8 wx => AskOk A0 c0 ms A1 c1 mv A2 c2 rs w.heap.size W4 s7 s8 wx)
    case first =>
      go_region_held3 (fun w' => w'.cell? ⟨w.heap.size, 0, none⟩ = some (.slice A0 ms.length c0) ∧ w'.cell? ⟨w.heap.size, 1, none⟩ = some (.slice A1 mv.length c1) ∧ w'.cell? ⟨w.heap.size, 2, none⟩ = some (.slice A2 rs.length c2) ∧ w'.cell? ⟨w.heap.size + 1, 0, none⟩ = some (.int .i64 arb) ∧ w'.cell? ⟨w.heap.size + 1, 1, none⟩ = some (.int .i64 num) ∧ w'.cell? ⟨w.heap.size + 1, 2, none⟩ = some (.int .i64 den) ∧ w'.cell? ⟨w.heap.size + 1, 3, none⟩ = some (.slice AE es.length ce)) (first | go_keep | ((refine ⟨?_, ?_, ?_, ?_, ?_, ?_, ?_⟩) <;> (repeat (first | (with_reducible assumption) | (with_reducible refine set_far ?_ (by dsimp only; omega)))))) (first | (go_at_call 61; (refine (isHand_calls A0 A1 A2 ms.length c0 mv.length c1 rs.length c2 hl0 arb num den (HE9.out.below (by repeat (first | exact HBW.out | apply below_alloc | apply below_drew1)))).mono ?_); rintro e w1 ⟨rfl, hb1⟩; have hbx1 : Below W4.heap.size W4 w1 := bthen (by repeat (first | exact Below.refl _ _ | exact Below.refl _ _ | apply below_alloc | apply below_drew1)) hb1; have HBx1 := Aside0.mk hbx1; have HBw1 := Aside0.mk (HBW.out.trans (hbx1.mono HBW.out.size)); obtain ⟨hk1a, hk1b⟩ := bcell hb1; have hz1 := hb1.size; (try (have HZ1 := Aside0.mk (Blk.below (Blk.drew (Blk.new W4 #[.slice none 0 0, .slice none 0 0, .slice none 0 0, .slice none 0 0] 84)) hb1))); have hs1_0 : w1.cell? ⟨w.heap.size, 0, none⟩ = some (.slice A0 ms.length c0) := (HK0.out.below hbx1).cell 0 rfl; have hs1_1 : w1.cell? ⟨w.heap.size, 1, none⟩ = some (.slice A1 mv.length c1) := (HK0.out.below hbx1).cell 1 rfl; have hs1_2 : w1.cell? ⟨w.heap.size, 2, none⟩ = some (.slice A2 rs.length c2) := (HK0.out.below hbx1).cell 2 rfl; have hs1_3 : w1.cell? ⟨w.heap.size + 1, 0, none⟩ = some (.int .i64 arb) := (HK1.out.below hbx1).cell 0 rfl; have hs1_4 : w1.cell? ⟨w.heap.size + 1, 1, none⟩ = some (.int .i64 num) := (HK1.out.below hbx1).cell 1 rfl; have hs1_5 : w1.cell? ⟨w.heap.size + 1, 2, none⟩ = some (.int .i64 den) := (HK1.out.below hbx1).cell 2 rfl; have hs1_6 : w1.cell? ⟨w.heap.size + 1, 3, none⟩ = some (.slice AE es.length ce) := (HK1.out.below hbx1).cell 3 rfl; have hs1_l0 := (HK0.out.below hbx1).lt; have hs1_l1 := (HK1.out.below hbx1).lt; clear hb1 hbx1) | (go_at_call 48; (refine (asked_calls (H.out.below ?_) _).mono ?_); (repeat (first | exact HBw1.out | apply below_alloc | apply below_drew1)); rintro e w2 ⟨hv, hb2⟩; rcases hv with ⟨_, A3, c3, rfl, hall⟩ | ⟨hne, _⟩; rotate_left 1; exact absurd HA.out hne; have HAll := Aside0.mk hall; have hby : Below W4.heap.size W4 w2 := bthen (by repeat (first | exact Below.refl _ _ | exact HBx1.out | apply below_alloc | apply below_drew1)) hb2; have HBy := Aside0.mk hby; obtain ⟨hk2a, hk2b⟩ := bcell hb2; have hz2 := hb2.size; (try (have HZ9 := Aside0.mk (Blk.below (Blk.new w1 #[.slice none 0 0, .slice none 0 0, .slice none 0 0, .slice none 0 0] 84) hb2); have HZL := Aside0.mk ((Blk.new w1 #[.slice none 0 0, .slice none 0 0, .slice none 0 0, .slice none 0 0] 84).lt); have hzc0 := HZ9.out.cell 0 rfl; have hzf0 := HZ9.out.free 0; have hzc1 := HZ9.out.cell 1 rfl; have hzf1 := HZ9.out.free 1; have hzc2 := HZ9.out.cell 2 rfl; have hzf2 := HZ9.out.free 2; have hzc3 := HZ9.out.cell 3 rfl; have hzf3 := HZ9.out.free 3; have hzl := HZ9.out.lt)); (try (have HZ9 := Aside0.mk (HZ1.out.below hb2); have HZL := Aside0.mk HZ1.out.lt; have hzc0 := HZ9.out.cell 0 rfl; have hzf0 := HZ9.out.free 0; have hzc1 := HZ9.out.cell 1 rfl; have hzf1 := HZ9.out.free 1; have hzc2 := HZ9.out.cell 2 rfl; have hzf2 := HZ9.out.free 2; have hzc3 := HZ9.out.cell 3 rfl; have hzf3 := HZ9.out.free 3; have hzl := HZ9.out.lt)); have ht0 : w2.cell? ⟨w.heap.size, 0, none⟩ = some (.slice A0 ms.length c0) := (HK0.out.below hby).cell 0 rfl; have ht1 : w2.cell? ⟨w.heap.size, 1, none⟩ = some (.slice A1 mv.length c1) := (HK0.out.below hby).cell 1 rfl; have ht2 : w2.cell? ⟨w.heap.size, 2, none⟩ = some (.slice A2 rs.length c2) := (HK0.out.below hby).cell 2 rfl; have ht3 : w2.cell? ⟨w.heap.size + 1, 0, none⟩ = some (.int .i64 arb) := (HK1.out.below hby).cell 0 rfl; have ht4 : w2.cell? ⟨w.heap.size + 1, 1, none⟩ = some (.int .i64 num) := (HK1.out.below hby).cell 1 rfl; have ht5 : w2.cell? ⟨w.heap.size + 1, 2, none⟩ = some (.int .i64 den) := (HK1.out.below hby).cell 2 rfl; have ht6 : w2.cell? ⟨w.heap.size + 1, 3, none⟩ = some (.slice AE es.length ce) := (HK1.out.below hby).cell 3 rfl; have htl0 := (HK0.out.below hby).lt; have htl1 := (HK1.out.below hby).lt; clear hb2 hall hby))
      all_goals (go_wp2_with fail; go_meet)
      all_goals first | exact askOk_new HAll.out (by first | exact HBW.out.size | exact Nat.le_trans HBW.out.size HBx1.out.size | exact Nat.le_trans HBW.out.size HBx2.out.size) HBy.out | exact askOk_set HZ9.out (by first | exact HZL.out | exact Nat.lt_of_lt_of_le HZL.out (Nat.le_refl _)) HAll.out (by first | exact HBW.out.size | exact Nat.le_trans HBW.out.size HBx1.out.size | exact Nat.le_trans HBW.out.size HBx2.out.size | (rw [World.size_alloc]; exact Nat.le_succ_of_le HBW.out.size) | (rw [World.size_alloc]; exact Nat.le_succ_of_le (Nat.le_trans HBW.out.size HBx1.out.size)) | (rw [World.size_alloc]; exact Nat.le_succ_of_le (Nat.le_trans HBW.out.size HBx2.out.size))) HBy.out (by first | exact Nat.le_refl _ | exact HBx1.out.size | exact HBx2.out.size)
    case rest =>
      obtain ⟨b, A3, c3, rfl, rfl, HX, HAl, HBx⟩ := hcut
      have hin := (askE_piece HA.out).2
      obtain ⟨⟨hn1, hn2⟩, hpp⟩ := handB_P hin
      obtain ⟨n, rfl⟩ : ∃ n : Nat, arb = n := ⟨arb.toNat, by omega⟩
      have hl6 : (truthsL ms mv rs).length ≤ 625 := truthsL_length (askE_piece HA.out).1
      have hx0 := HX.out.cell 0 rfl
      have hx1 := HX.out.cell 1 rfl
      have hx2 := HX.out.cell 2 rfl
      have hx3 := HX.out.cell 3 rfl
      have hxl := HX.out.lt
      have hof := shows1_of (HK1.out.below HBx.out) ((HE9.out.below HBW.out).below HBx.out) hpp
      have hent := hof.1
      have HC := Aside0.mk (over_calls (c := c3) hof (.slice A0 ms.length c0) (.slice A1 mv.length c1) (.slice A2 rs.length c2) ⟨_, _, _, _, _, _, _, _, _, rfl, rfl, rfl⟩ (Kd.R_reads' HAl.out).2.2 (by omega) (truths_near (askE_piece HA.out).1 (by omega)))
      obtain ⟨S9, hS9⟩ : ∃ S9, S9 = overL (showsT n num den es) (truthsL ms mv rs) := ⟨_, rfl⟩
      rw [← hS9] at HC
      have HS9 := Aside0.mk hS9
      have hmf : ∀ (fn : Fn) (first cap : Array Value) (w : World), (Instr.makeFunc fn first cap).run Tryz.prog w = .ok (.func fn first cap) w := fun _ _ _ _ => rfl
      clear hS9 hof hpp hin
      go_wp2_with (go_at_call 49; (with_reducible refine HC.out.mono ?_); rintro e w5 ⟨rfl, hb5⟩; have hr := (HK2.out.below HBx.out).below hb5; have hr0 := hr.cell 0 rfl; have hr1 := hr.cell 1 rfl; have hrf0 := hr.free 0; have hrf1 := hr.free 1; have hrl := hr.lt; have HR9 := Aside0.mk hr; have HW9 := Aside0.mk (HBW.out.trans ((bthen HBx.out hb5).mono HBW.out.size)); clear hb5 hr)
      refine bodyPost_ret (results_ct rfl _ _ (w.heap.size + 1 + 1) 44 #[.int .i64 S9.f0, .int .i64 S9.f1] (0, 0) _ rfl ((HR9.out.put 0 _ rfl).put 1 _ rfl) Tryz.underlying44 rfl (by kernel_rfl)) rfl ?_
      have q0 : showsOf ms mv rs (n : Int) num den es = S9 := by rw [HS9.out]; simp [showsOf, HA.out]
      exact ⟨by rw [q0, HA.out]; rfl, below_set (below_set HW9.out (by omega)) (by omega)⟩
  · have HA := Aside0.mk hask
    have hne : (askE ms mv rs (handB ms.length arb num den es) == 0) = false := by simpa using hask
    obtain ⟨er, her⟩ : ∃ er, er = askE ms mv rs (handB ms.length arb num den es) := ⟨_, rfl⟩
    rw [← her] at hne
    have HE := Aside0.mk her
    clear hask her
    go_cut [6, 7] (fun s7 s8 wx => AskNo er W4 s7 s8 wx)
    case first =>
      go_region_held3 (fun w' => w'.cell? ⟨w.heap.size, 0, none⟩ = some (.slice A0 ms.length c0) ∧ w'.cell? ⟨w.heap.size, 1, none⟩ = some (.slice A1 mv.length c1) ∧ w'.cell? ⟨w.heap.size, 2, none⟩ = some (.slice A2 rs.length c2) ∧ w'.cell? ⟨w.heap.size + 1, 0, none⟩ = some (.int .i64 arb) ∧ w'.cell? ⟨w.heap.size + 1, 1, none⟩ = some (.int .i64 num) ∧ w'.cell? ⟨w.heap.size + 1, 2, none⟩ = some (.int .i64 den) ∧ w'.cell? ⟨w.heap.size + 1, 3, none⟩ = some (.slice AE es.length ce)) (first | go_keep | ((refine ⟨?_, ?_, ?_, ?_, ?_, ?_, ?_⟩) <;> (repeat (first | (with_reducible assumption) | (with_reducible refine set_far ?_ (by dsimp only; omega)))))) (first | (go_at_call 61; (refine (isHand_calls A0 A1 A2 ms.length c0 mv.length c1 rs.length c2 hl0 arb num den (HE9.out.below (by repeat (first | exact HBW.out | apply below_alloc | apply below_drew1)))).mono ?_); rintro e w1 ⟨rfl, hb1⟩; have hbx1 : Below W4.heap.size W4 w1 := bthen (by repeat (first | exact Below.refl _ _ | exact Below.refl _ _ | apply below_alloc | apply below_drew1)) hb1; have HBx1 := Aside0.mk hbx1; have HBw1 := Aside0.mk (HBW.out.trans (hbx1.mono HBW.out.size)); obtain ⟨hk1a, hk1b⟩ := bcell hb1; have hz1 := hb1.size; (try (have HZ1 := Aside0.mk (Blk.below (Blk.drew (Blk.new W4 #[.slice none 0 0, .slice none 0 0, .slice none 0 0, .slice none 0 0] 84)) hb1))); have hs1_0 : w1.cell? ⟨w.heap.size, 0, none⟩ = some (.slice A0 ms.length c0) := (HK0.out.below hbx1).cell 0 rfl; have hs1_1 : w1.cell? ⟨w.heap.size, 1, none⟩ = some (.slice A1 mv.length c1) := (HK0.out.below hbx1).cell 1 rfl; have hs1_2 : w1.cell? ⟨w.heap.size, 2, none⟩ = some (.slice A2 rs.length c2) := (HK0.out.below hbx1).cell 2 rfl; have hs1_3 : w1.cell? ⟨w.heap.size + 1, 0, none⟩ = some (.int .i64 arb) := (HK1.out.below hbx1).cell 0 rfl; have hs1_4 : w1.cell? ⟨w.heap.size + 1, 1, none⟩ = some (.int .i64 num) := (HK1.out.below hbx1).cell 1 rfl; have hs1_5 : w1.cell? ⟨w.heap.size + 1, 2, none⟩ = some (.int .i64 den) := (HK1.out.below hbx1).cell 2 rfl; have hs1_6 : w1.cell? ⟨w.heap.size + 1, 3, none⟩ = some (.slice AE es.length ce) := (HK1.out.below hbx1).cell 3 rfl; have hs1_l0 := (HK0.out.below hbx1).lt; have hs1_l1 := (HK1.out.below hbx1).lt; clear hb1 hbx1) | (go_at_call 48; (refine (asked_calls (H.out.below ?_) _).mono ?_); (repeat (first | exact HBw1.out | apply below_alloc | apply below_drew1)); rintro e w2 ⟨hv, hb2⟩; rcases hv with ⟨h0, _⟩ | ⟨_, rfl⟩; exact absurd h0 HA.out; rw [← HE.out]; have hby : Below W4.heap.size W4 w2 := bthen (by repeat (first | exact Below.refl _ _ | exact HBx1.out | apply below_alloc | apply below_drew1)) hb2; have HBy := Aside0.mk hby; obtain ⟨hk2a, hk2b⟩ := bcell hb2; have hz2 := hb2.size; (try (have HZ9 := Aside0.mk (Blk.below (Blk.new w1 #[.slice none 0 0, .slice none 0 0, .slice none 0 0, .slice none 0 0] 84) hb2); have HZL := Aside0.mk ((Blk.new w1 #[.slice none 0 0, .slice none 0 0, .slice none 0 0, .slice none 0 0] 84).lt); have hzc0 := HZ9.out.cell 0 rfl; have hzf0 := HZ9.out.free 0; have hzc1 := HZ9.out.cell 1 rfl; have hzf1 := HZ9.out.free 1; have hzc2 := HZ9.out.cell 2 rfl; have hzf2 := HZ9.out.free 2; have hzc3 := HZ9.out.cell 3 rfl; have hzf3 := HZ9.out.free 3; have hzl := HZ9.out.lt)); (try (have HZ9 := Aside0.mk (HZ1.out.below hb2); have HZL := Aside0.mk HZ1.out.lt; have hzc0 := HZ9.out.cell 0 rfl; have hzf0 := HZ9.out.free 0; have hzc1 := HZ9.out.cell 1 rfl; have hzf1 := HZ9.out.free 1; have hzc2 := HZ9.out.cell 2 rfl; have hzf2 := HZ9.out.free 2; have hzc3 := HZ9.out.cell 3 rfl; have hzf3 := HZ9.out.free 3; have hzl := HZ9.out.lt)); have ht0 : w2.cell? ⟨w.heap.size, 0, none⟩ = some (.slice A0 ms.length c0) := (HK0.out.below hby).cell 0 rfl; have ht1 : w2.cell? ⟨w.heap.size, 1, none⟩ = some (.slice A1 mv.length c1) := (HK0.out.below hby).cell 1 rfl; have ht2 : w2.cell? ⟨w.heap.size, 2, none⟩ = some (.slice A2 rs.length c2) := (HK0.out.below hby).cell 2 rfl; have ht3 : w2.cell? ⟨w.heap.size + 1, 0, none⟩ = some (.int .i64 arb) := (HK1.out.below hby).cell 0 rfl; have ht4 : w2.cell? ⟨w.heap.size + 1, 1, none⟩ = some (.int .i64 num) := (HK1.out.below hby).cell 1 rfl; have ht5 : w2.cell? ⟨w.heap.size + 1, 2, none⟩ = some (.int .i64 den) := (HK1.out.below hby).cell 2 rfl; have ht6 : w2.cell? ⟨w.heap.size + 1, 3, none⟩ = some (.slice AE es.length ce) := (HK1.out.below hby).cell 3 rfl; have htl0 := (HK0.out.below hby).lt; have htl1 := (HK1.out.below hby).lt; clear hb2 hby))
      all_goals (go_wp2_with fail; go_meet)
      all_goals first | exact ⟨_, rfl, rfl, ⟨below_alloc HBy.out _⟩⟩ | exact ⟨_, rfl, rfl, ⟨below_set (below_set (below_set (below_set HBy.out (by first | exact Nat.le_refl _ | exact HBx1.out.size | exact HBx2.out.size)) (by first | exact Nat.le_refl _ | exact HBx1.out.size | exact HBx2.out.size)) (by first | exact Nat.le_refl _ | exact HBx1.out.size | exact HBx2.out.size)) (by first | exact Nat.le_refl _ | exact HBx1.out.size | exact HBx2.out.size)⟩⟩
    case rest =>
      obtain ⟨b, rfl, rfl, HBx⟩ := hcut
      have hr := HK2.out.below HBx.out
      have hr0 := hr.cell 0 rfl
      have hr1 := hr.cell 1 rfl
      have hrf0 := hr.free 0
      have hrf1 := hr.free 1
      have hrl := hr.lt
      have HR9 := Aside0.mk hr
      clear hr
      go_wp2
      refine bodyPost_ret (results_ct rfl _ _ (w.heap.size + 1 + 1) 44 #[.int .i64 0, .int .i64 0] (0, 0) _ rfl ((HR9.out.put 0 _ rfl).put 1 _ rfl) Tryz.underlying44 rfl (by kernel_rfl)) rfl ?_
      have q0 : showsOf ms mv rs arb num den es = ⟨0, 0⟩ := by simp [showsOf, HA.out]
      exact ⟨by rw [q0, ← HE.out]; rfl, below_set (below_set (HBW.out.trans (HBx.out.mono HBW.out.size)) (by omega)) (by omega)⟩
end
end Go.Proofs.YtaojkmalpihmbaaGreatDoor.M

