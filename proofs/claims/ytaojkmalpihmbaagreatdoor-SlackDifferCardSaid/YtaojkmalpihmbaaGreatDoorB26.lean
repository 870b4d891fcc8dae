import Derived.Test.YtaojkmalpihmbaaGreatDoorB25
import Derived.Deep.RegionHeld3
namespace Go.Proofs.YtaojkmalpihmbaaGreatDoor.M
open Go.RowKit Go.Proofs.YtaojkmalpihmbaaGreatDoorW.PrintWords Go.Proofs.YtaojkmalpihmbaaGreatDoorW.PrintLast Go.Proofs.YtaojkmalpihmbaaGreatDoorW.PrintMore Go.Proofs.YtaojkmalpihmbaaGreatDoor.Q
set_option linter.unusedVariables false
set_option linter.unusedSimpArgs false

/-! Lost. -/
theorem set_far {W : World} {p q : Addr} {v x : Value} (h : W.cell? q = some x) (hne : q.block ≠ p.block) : (W.setCell p v).cell? q = some x := by
  rw [← h]
  exact World.cell?_of_block (Below.heap_setCell W p v q.block hne)
section
variable {A0 A1 A2 : Option Addr} {c0 c1 c2 : Nat} {ms : List S64} {mv : List Int} {rs : List S66}
def lostOf (ms : List S64) (mv : List Int) (rs : List S66) (a : Int) (k : Nat) : S44 := if askE ms mv rs (inB a 1 ms.length) = 0 then overL (lostS a.toNat k) (truthsL ms mv rs) else ⟨0, 0⟩
theorem results_cct {P : Program} {fn : Func} {p p' u : Tmp} {ty ty' : TypeId} (h : fn.results = #[.cell p ty, .cell p' ty', .tmp u]) (tmps : Array Value) (w : World) (g g' : Nat) (t t' : TypeId) (cs cs' : Array Value) (fr fr' : Nat × Nat) (d d' : TypeDesc)
    (hp : tmps.getD p undef = .pointer (some ⟨g, 0, none⟩)) (hg : w.heap[g]? = some (.cells cs t fr)) (hu : P.underlying ty = some d) (hd : (match d with | .struct _ | .array _ _ => true | _ => false) = true) (hi : (P.info? ty).map (·.size) = some cs.size)
    (hp' : tmps.getD p' undef = .pointer (some ⟨g', 0, none⟩)) (hg' : w.heap[g']? = some (.cells cs' t' fr')) (hu' : P.underlying ty' = some d') (hd' : (match d' with | .struct _ | .array _ _ => true | _ => false) = true) (hi' : (P.info? ty').map (·.size) = some cs'.size) :
    (results fn tmps).run P w = .ok (.tuple #[.agg cs, .agg cs', tmps.getD u undef]) w := by
  have e : tmps[p]?.getD undef = .pointer (some ⟨g, 0, none⟩) := by simpa using hp
  have e' : tmps[p']?.getD undef = .pointer (some ⟨g', 0, none⟩) := by simpa using hp'
  simp [results, h, e, e', asAddr, run_loadVar_row w g t ty cs fr d hg hu hd hi, run_loadVar_row w g' t' ty' cs' fr' d' hg' hu' hd' hi']
def outC (j : Nat) (s t : S44) : Array Value := #[.int .i64 (if 0 < j then s.f0 else 0), .int .i64 (if 0 < j then s.f1 else 0), .int .i64 (if 1 < j then t.f0 else 0), .int .i64 (if 1 < j then t.f1 else 0)]
set_option maxHeartbeats 4000000 in
set_option maxRecDepth 100000 in
theorem Lost_calls {w : World} (h : PR w A0 c0 ms A1 c1 mv A2 c2 rs) (a : Int) :
    Calls Tryz.prog 23 #[.agg #[.slice A0 ms.length c0, .slice A1 mv.length c1, .slice A2 rs.length c2], .int .i64 a] w fun e w' =>
      e = .returned (.tuple #[spanV (lostOf ms mv rs a 0), spanV (lostOf ms mv rs a 1), .int .i64 (askE ms mv rs (inB a 1 ms.length))]) ∧ Below w.heap.size w w' := by
  have H := Aside0.mk h
  have hl0 := h.l0
  have HBW := Aside0.mk (below_alloc (below_alloc (below_alloc (below_alloc (Below.refl w.heap.size w) (.cells #[.slice A0 ms.length c0, .slice A1 mv.length c1, .slice A2 rs.length c2] 26)) (.cells #[.int .i64 a] 3)) (.cells #[.int .i64 0, .int .i64 0] 44)) (.cells #[.int .i64 0, .int .i64 0] 44))
  have hk0 := (((Blk.new w #[.slice A0 ms.length c0, .slice A1 mv.length c1, .slice A2 rs.length c2] 26).alloc (.cells #[.int .i64 a] 3)).alloc (.cells #[.int .i64 0, .int .i64 0] 44)).alloc (.cells #[.int .i64 0, .int .i64 0] 44)
  have hk1 := ((Blk.new (w.alloc (.cells #[.slice A0 ms.length c0, .slice A1 mv.length c1, .slice A2 rs.length c2] 26)) #[.int .i64 a] 3).alloc (.cells #[.int .i64 0, .int .i64 0] 44)).alloc (.cells #[.int .i64 0, .int .i64 0] 44)
  have hk2 := (Blk.new ((w.alloc (.cells #[.slice A0 ms.length c0, .slice A1 mv.length c1, .slice A2 rs.length c2] 26)).alloc (.cells #[.int .i64 a] 3)) #[.int .i64 0, .int .i64 0] 44).alloc (.cells #[.int .i64 0, .int .i64 0] 44)
  have hk3 := Blk.new (((w.alloc (.cells #[.slice A0 ms.length c0, .slice A1 mv.length c1, .slice A2 rs.length c2] 26)).alloc (.cells #[.int .i64 a] 3)).alloc (.cells #[.int .i64 0, .int .i64 0] 44)) #[.int .i64 0, .int .i64 0] 44
  simp only [World.size_alloc] at hk1 hk2 hk3
  go_enter Tryz.func23, Tryz.ntmps23
  go_upto_region 1 with fail
  obtain ⟨W4, hW4⟩ : ∃ W4, (((w.alloc (.cells #[.slice A0 ms.length c0, .slice A1 mv.length c1, .slice A2 rs.length c2] 26)).alloc (.cells #[.int .i64 a] 3)).alloc (.cells #[.int .i64 0, .int .i64 0] 44)).alloc (.cells #[.int .i64 0, .int .i64 0] 44) = W4 := ⟨_, rfl⟩
  have hsz : W4.heap.size = w.heap.size + 1 + 1 + 1 + 1 := by rw [← hW4]; simp only [World.size_alloc]
  rw [hW4] at HBW hk0 hk1 hk2 hk3 ⊢
  clear hW4
  have HK0 := Aside0.mk hk0
  have HK1 := Aside0.mk hk1
  have HK2 := Aside0.mk hk2
  have HK3 := Aside0.mk hk3
  have hp0 := hk0.cell 0 rfl
  have hp1 := hk0.cell 1 rfl
  have hp2 := hk0.cell 2 rfl
  have hp3 := hk1.cell 0 rfl
  have HSZ := Aside0.mk hsz
  have hlt0 := hk0.lt
  have hlt1 := hk1.lt
  have hlt2 := hk2.lt
  have hlt3 := hk3.lt
  clear h hk0 hk1 hk2 hk3 hsz
  by_cases hask : askE ms mv rs (inB a 1 ms.length) = 0
  · have HA := Aside0.mk hask
    clear hask
    go_cut [7, 8] (fun s7 s8 wx => ∃ b A3 c3, s7 = .pointer (some ⟨b, 0, none⟩) ∧ s8 = .int .i64 0 ∧ Aside0 (Blk wx b #[.slice A0 ms.length c0, .slice A1 mv.length c1, .slice A2 rs.length c2, .slice A3 (truthsL ms mv rs).length c3] 84) ∧ Aside0 (AllR wx w.heap.size (.slice A3 (truthsL ms mv rs).length c3) (truthsL ms mv rs)) ∧ Aside0 (Below W4.heap.size W4 wx))
    case first =>
      go_region_held3 (fun w' => w'.cell? ⟨w.heap.size, 0, none⟩ = some (.slice A0 ms.length c0) ∧ w'.cell? ⟨w.heap.size, 1, none⟩ = some (.slice A1 mv.length c1) ∧ w'.cell? ⟨w.heap.size, 2, none⟩ = some (.slice A2 rs.length c2) ∧ w'.cell? ⟨w.heap.size + 1, 0, none⟩ = some (.int .i64 a)) (first | go_keep | ((refine ⟨?_, ?_, ?_, ?_⟩) <;> (repeat (first | (with_reducible assumption) | (with_reducible refine set_far ?_ (by dsimp only; omega)))))) (first | (go_at_call 56; (refine (isArbor_calls A0 A1 A2 ms.length c0 mv.length c1 rs.length c2 a 1 hl0).mono ?_); rintro e w1 ⟨rfl, hb1⟩; have hbx : Below W4.heap.size W4 w1 := (by first | exact bthen (below_drew1 (Below.refl _ _)) hb1 | exact bthen (below_drew1 (below_alloc (Below.refl _ _) _)) hb1 | exact bthen (below_alloc (below_drew1 (Below.refl _ _)) _) hb1); have HBx := Aside0.mk hbx; have HBw := Aside0.mk (HBW.out.trans (hbx.mono HBW.out.size)); have HB1 := Aside0.mk hb1; obtain ⟨hk1, hk2⟩ := bcell hb1; have hz1 := hb1.size; (try (have HZ1 := Aside0.mk (Blk.below (Blk.drew (Blk.new W4 #[.slice none 0 0, .slice none 0 0, .slice none 0 0, .slice none 0 0] 84)) hb1))); have hs0 : w1.cell? ⟨w.heap.size, 0, none⟩ = some (.slice A0 ms.length c0) := (HK0.out.below hbx).cell 0 rfl; have hs1 : w1.cell? ⟨w.heap.size, 1, none⟩ = some (.slice A1 mv.length c1) := (HK0.out.below hbx).cell 1 rfl; have hs2 : w1.cell? ⟨w.heap.size, 2, none⟩ = some (.slice A2 rs.length c2) := (HK0.out.below hbx).cell 2 rfl; have hs3 : w1.cell? ⟨w.heap.size + 1, 0, none⟩ = some (.int .i64 a) := (HK1.out.below hbx).cell 0 rfl; have hs4 := (HK0.out.below hbx).lt; have hs5 := (HK1.out.below hbx).lt; clear hb1 hbx) | (go_at_call 48; (refine (asked_calls (H.out.below ?_) _).mono ?_); (repeat (first | exact HBw.out | apply below_alloc | apply below_drew1)); rintro e w2 ⟨hv, hb2⟩; rcases hv with ⟨_, A3, c3, rfl, hall⟩ | ⟨hne, _⟩; rotate_left 1; exact absurd HA.out hne; have hby : Below W4.heap.size W4 w2 := (by first | exact bthen HBx.out hb2 | exact bthen (below_alloc HBx.out _) hb2); have HBy := Aside0.mk hby; have HB2 := Aside0.mk hb2; have HAll := Aside0.mk hall; obtain ⟨hk3, hk4⟩ := bcell hb2; have hz2 := hb2.size; (try (have HZ2 := Aside0.mk (Blk.below (Blk.new w1 #[.slice none 0 0, .slice none 0 0, .slice none 0 0, .slice none 0 0] 84) hb2); have hzc0 := HZ2.out.cell 0 rfl; have hzc1 := HZ2.out.cell 1 rfl; have hzc2 := HZ2.out.cell 2 rfl; have hzc3 := HZ2.out.cell 3 rfl; have hzf0 := HZ2.out.free 0; have hzf1 := HZ2.out.free 1; have hzf2 := HZ2.out.free 2; have hzf3 := HZ2.out.free 3; have hzl := HZ2.out.lt)); (try (have HZ2 := Aside0.mk (HZ1.out.below hb2); have hzc0 := HZ2.out.cell 0 rfl; have hzc1 := HZ2.out.cell 1 rfl; have hzc2 := HZ2.out.cell 2 rfl; have hzc3 := HZ2.out.cell 3 rfl; have hzf0 := HZ2.out.free 0; have hzf1 := HZ2.out.free 1; have hzf2 := HZ2.out.free 2; have hzf3 := HZ2.out.free 3; have hzl := HZ2.out.lt)); have ht0 : w2.cell? ⟨w.heap.size, 0, none⟩ = some (.slice A0 ms.length c0) := (HK0.out.below hby).cell 0 rfl; have ht1 : w2.cell? ⟨w.heap.size, 1, none⟩ = some (.slice A1 mv.length c1) := (HK0.out.below hby).cell 1 rfl; have ht2 : w2.cell? ⟨w.heap.size, 2, none⟩ = some (.slice A2 rs.length c2) := (HK0.out.below hby).cell 2 rfl; have ht3 : w2.cell? ⟨w.heap.size + 1, 0, none⟩ = some (.int .i64 a) := (HK1.out.below hby).cell 0 rfl; have ht4 := (HK0.out.below hby).lt; have ht5 := (HK1.out.below hby).lt; clear hb2 hall hby))
      all_goals (go_wp2_with fail; go_meet)
      · exact ⟨_, A3, c3, rfl, rfl, ⟨Blk.new w2 _ _⟩, ⟨Kd.R_lower (Kd.R_below HAll.out (below_alloc (Below.refl _ _) _)) HBw.out.size⟩, ⟨below_alloc HBy.out _⟩⟩
      · exact ⟨_, A3, c3, rfl, rfl, ⟨(((HZ2.out.put 0 _ rfl).put 1 _ rfl).put 2 _ rfl).put 3 _ rfl⟩, ⟨Kd.R_lower (R_under_set (R_under_set (R_under_set (R_under_set HAll.out (p := ⟨w1.heap.size, 0, none⟩) (by rw [World.size_alloc]; exact Nat.lt_succ_self _) _) (p := ⟨w1.heap.size, 1, none⟩) (by rw [World.size_alloc]; exact Nat.lt_succ_self _) _) (p := ⟨w1.heap.size, 2, none⟩) (by rw [World.size_alloc]; exact Nat.lt_succ_self _) _) (p := ⟨w1.heap.size, 3, none⟩) (by rw [World.size_alloc]; exact Nat.lt_succ_self _) _) (by rw [World.size_alloc]; exact Nat.le_succ_of_le HBw.out.size)⟩, ⟨below_set (below_set (below_set (below_set HBy.out HBx.out.size) HBx.out.size) HBx.out.size) HBx.out.size⟩⟩
      · exact ⟨_, A3, c3, rfl, rfl, ⟨(((HZ2.out.put 0 _ rfl).put 1 _ rfl).put 2 _ rfl).put 3 _ rfl⟩, ⟨Kd.R_lower (R_under_set (R_under_set (R_under_set (R_under_set HAll.out (p := ⟨W4.heap.size, 0, none⟩) HZ1.out.lt _) (p := ⟨W4.heap.size, 1, none⟩) HZ1.out.lt _) (p := ⟨W4.heap.size, 2, none⟩) HZ1.out.lt _) (p := ⟨W4.heap.size, 3, none⟩) HZ1.out.lt _) HBw.out.size⟩, ⟨below_set (below_set (below_set (below_set HBy.out (Nat.le_refl _)) (Nat.le_refl _)) (Nat.le_refl _)) (Nat.le_refl _)⟩⟩
    case rest =>
      obtain ⟨b, A3, c3, rfl, rfl, HX, HAl, HBx⟩ := hcut
      have hin := (askE_piece HA.out).2
      obtain ⟨n, rfl⟩ : ∃ n : Nat, a = n := ⟨a.toNat, by simp [inB] at hin; omega⟩
      have hn : 1 ≤ n ∧ n ≤ ms.length := by simp [inB] at hin; omega
      have HN := Aside0.mk hn
      have hl6 : (truthsL ms mv rs).length ≤ 625 := truthsL_length (askE_piece HA.out).1
      have hx0 := HX.out.cell 0 rfl
      have hx1 := HX.out.cell 1 rfl
      have hx2 := HX.out.cell 2 rfl
      have hx3 := HX.out.cell 3 rfl
      have hxl := HX.out.lt
      have HRx := Aside0.mk (Kd.R_reads' HAl.out).2.2
      have HKa := Aside0.mk (HK1.out.below HBx.out)
      have HKr := Aside0.mk (HK2.out.below HBx.out)
      have HKs := Aside0.mk (HK3.out.below HBx.out)
      have hmem := Aside0.mk (fun x (hx : x ∈ truthsL ms mv rs) => truthsL_mem hx)
      clear hin hn
      obtain ⟨S0, hS0⟩ : ∃ S0, S0 = overL (lostS n 0) (truthsL ms mv rs) := ⟨_, rfl⟩
      obtain ⟨S1, hS1⟩ : ∃ S1, S1 = overL (lostS n 1) (truthsL ms mv rs) := ⟨_, rfl⟩
      have HS0 := Aside0.mk hS0
      have HS1 := Aside0.mk hS1
      clear hS0 hS1
      have HOn := Aside0.mk (Blk.new wc #[.int .i64 0, .int .i64 0, .int .i64 0, .int .i64 0] 95)
      have HBo := Aside0.mk (below_alloc (Below.refl wc.heap.size wc) (.cells #[.int .i64 0, .int .i64 0, .int .i64 0, .int .i64 0] 95))
      have HOKK : Aside0 (∀ x ∈ truthsL ms mv rs, (n < x.f1.length ∧ n ≤ x.f0.length) ∧ x.f0.length ≤ 1000 ∧ x.f1.length ≤ 1000) := ⟨by
        intro x hx
        have h9 := hmem.out x hx
        have h8 := HN.out
        have h7 := (piece_len (askE_piece HA.out).1).2.1
        omega⟩
      go_wp2
      go_loopg [24] 2 (fun k i' wr => ∃ (j : Nat), j + k = 2 ∧ i' = .int .i64 j ∧ Aside0 (Blk wr wc.heap.size (outC j S0 S1) 95) ∧ Aside0 (Below wc.heap.size wc wr))
      case atStart => exact ⟨0, rfl, rfl, HOn, HBo⟩
      case round =>
        obtain ⟨j, hj, rfl, HO, HBr⟩ := hrel
        have hj3 : j = 0 ∨ j = 1 ∨ j = 2 := by omega
        have hkx := HX.out.below HBr.out
        have hx0' := hkx.cell 0 rfl
        have hx1' := hkx.cell 1 rfl
        have hx2' := hkx.cell 2 rfl
        have hx3' := hkx.cell 3 rfl
        have hxl' := hkx.lt
        have hol := HO.out.lt
        have HKa2 := HKa.out.below HBr.out
        clear hkx
        rcases hj3 with rfl | rfl | rfl
        · have ha := HO.out
          have ha0 := ha.cell 0 rfl
          have ha1 := ha.cell 1 rfl
          have ha2 := ha.cell 2 rfl
          have ha3 := ha.cell 3 rfl
          have hgk : gk = 2 := by omega
          have HBn := Aside0.mk (Blk.new wr #[.int .i64 ((0 : Nat) : Int)] 3)
          have hent := (lost1_of (HKa2.alloc _) HBn.out (.inl rfl)).1
          have HKA := Aside0.mk HKa2
          clear ha hj HKa2
          go_upto_region 8 with fail
          have HT9 := Aside0.mk (over_calls (c := c3) (w := (wr.alloc (.cells #[.int .i64 0] 3)).drew) (lost1_of (Blk.drew (HKA.out.alloc _)) (Blk.drew HBn.out) (.inl rfl)) (.slice A0 ms.length c0) (.slice A1 mv.length c1) (.slice A2 rs.length c2) ⟨_, _, _, _, _, _, _, _, _, rfl, rfl, rfl⟩ (Kd.C_drew (Kd.C_below (Kd.C_below HRx.out HBr.out) (below_alloc (Below.refl _ _) (.cells #[.int .i64 0] 3)))) (by omega) HOKK.out)
          go_region_with (go_at_call 49; (refine HT9.out.mono ?_); rintro e w2 ⟨rfl, hb2⟩; have HO2 := Aside0.mk (Blk.below (Blk.drew (HO.out.alloc _)) hb2); have HB2 := Aside0.mk (bthen (below_drew1 (below_alloc HBr.out _)) hb2); have hq0 := HO2.out.cell 0 rfl; have hq1 := HO2.out.cell 1 rfl; have hq2 := HO2.out.cell 2 rfl; have hq3 := HO2.out.cell 3 rfl; have hf0 := HO2.out.free 0; have hf1 := HO2.out.free 1; have hql := HO2.out.lt; have hib : w2.cell? ⟨wr.heap.size, 0, none⟩ = some (.int .i64 0) := (Blk.below (Blk.drew HBn.out) hb2).cell 0 rfl; clear hb2)
          all_goals (go_wp2_with fail)
          all_goals (go_roundg (gk - 1))
          all_goals first | (case measure => omega) | skip
          all_goals (refine ⟨1, by omega, by go_num, ⟨?_⟩, ⟨below_set (below_set HB2.out (Nat.le_refl _)) (Nat.le_refl _)⟩⟩)
          all_goals (rw [← HS0.out]; exact (HO2.out.put 0 (.int .i64 S0.f0) rfl).put 1 (.int .i64 S0.f1) rfl)
        · have ha := HO.out
          have ha0 := ha.cell 0 rfl
          have ha1 := ha.cell 1 rfl
          have ha2 := ha.cell 2 rfl
          have ha3 := ha.cell 3 rfl
          have hgk : gk = 1 := by omega
          have HBn := Aside0.mk (Blk.new wr #[.int .i64 ((1 : Nat) : Int)] 3)
          have hent := (lost1_of (HKa2.alloc _) HBn.out (.inr rfl)).1
          have HKA := Aside0.mk HKa2
          clear ha hj HKa2
          go_upto_region 8 with fail
          have HT9 := Aside0.mk (over_calls (c := c3) (w := (wr.alloc (.cells #[.int .i64 1] 3)).drew) (lost1_of (Blk.drew (HKA.out.alloc _)) (Blk.drew HBn.out) (.inr rfl)) (.slice A0 ms.length c0) (.slice A1 mv.length c1) (.slice A2 rs.length c2) ⟨_, _, _, _, _, _, _, _, _, rfl, rfl, rfl⟩ (Kd.C_drew (Kd.C_below (Kd.C_below HRx.out HBr.out) (below_alloc (Below.refl _ _) (.cells #[.int .i64 1] 3)))) (by omega) HOKK.out)
          go_region_with (go_at_call 49; (refine HT9.out.mono ?_); rintro e w2 ⟨rfl, hb2⟩; have HO2 := Aside0.mk (Blk.below (Blk.drew (HO.out.alloc _)) hb2); have HB2 := Aside0.mk (bthen (below_drew1 (below_alloc HBr.out _)) hb2); have hq0 := HO2.out.cell 0 rfl; have hq1 := HO2.out.cell 1 rfl; have hq2 := HO2.out.cell 2 rfl; have hq3 := HO2.out.cell 3 rfl; have hf0 := HO2.out.free 2; have hf1 := HO2.out.free 3; have hql := HO2.out.lt; have hib : w2.cell? ⟨wr.heap.size, 0, none⟩ = some (.int .i64 1) := (Blk.below (Blk.drew HBn.out) hb2).cell 0 rfl; clear hb2)
          all_goals (go_wp2_with fail)
          all_goals (go_roundg (gk - 1))
          all_goals first | (case measure => omega) | skip
          all_goals (refine ⟨2, by omega, by go_num, ⟨?_⟩, ⟨below_set (below_set HB2.out (Nat.le_refl _)) (Nat.le_refl _)⟩⟩)
          all_goals (rw [← HS1.out]; exact (HO2.out.put 2 (.int .i64 S1.f0) rfl).put 3 (.int .i64 S1.f1) rfl)
        · have ha := HO.out
          have ha0 : wr.cell? ⟨wc.heap.size, 0, none⟩ = some (.int .i64 S0.f0) := ha.cell 0 rfl
          have ha1 : wr.cell? ⟨wc.heap.size, 1, none⟩ = some (.int .i64 S0.f1) := ha.cell 1 rfl
          have ha2 : wr.cell? ⟨wc.heap.size, 2, none⟩ = some (.int .i64 S1.f0) := ha.cell 2 rfl
          have ha3 : wr.cell? ⟨wc.heap.size, 3, none⟩ = some (.int .i64 S1.f1) := ha.cell 3 rfl
          have hr := HKr.out.below HBr.out
          have hs := HKs.out.below HBr.out
          have hr0 := hr.cell 0 rfl
          have hr1 := hr.cell 1 rfl
          have hs0 := hs.cell 0 rfl
          have hs1 := hs.cell 1 rfl
          have hrf0 := hr.free 0
          have hrf1 := hr.free 1
          have hsf0 := hs.free 0
          have hsf1 := hs.free 1
          have hrl := hr.lt
          have hsl := hs.lt
          have HR9 := Aside0.mk hr
          have HS9 := Aside0.mk hs
          clear ha hj HKa2 hr hs
          go_upto_region 10 with fail
          go_region
          all_goals (go_wp2_with fail)
          all_goals (refine bodyPost_ret (results_cct rfl _ _ (w.heap.size + 1 + 1) (w.heap.size + 1 + 1 + 1) 44 44 #[.int .i64 S0.f0, .int .i64 S0.f1] #[.int .i64 S1.f0, .int .i64 S1.f1] (0, 0) (0, 0) _ _ (by rfl) (Blk.drew ((((HR9.out.put 0 _ rfl).put 1 _ rfl).far (by show w.heap.size + 1 + 1 ≠ w.heap.size + 1 + 1 + 1; omega) _).far (by show w.heap.size + 1 + 1 ≠ w.heap.size + 1 + 1 + 1; omega) _)) Tryz.underlying44 rfl (by kernel_rfl) (by rfl) (Blk.drew ((((HS9.out.far (by show w.heap.size + 1 + 1 + 1 ≠ w.heap.size + 1 + 1; omega) _).far (by show w.heap.size + 1 + 1 + 1 ≠ w.heap.size + 1 + 1; omega) _).put 0 _ rfl).put 1 _ rfl)) Tryz.underlying44 rfl (by kernel_rfl)) rfl ?_)
          all_goals (have q0 : lostOf ms mv rs (n : Int) 0 = S0 := by rw [HS0.out]; simp [lostOf, HA.out])
          all_goals (have q1 : lostOf ms mv rs (n : Int) 1 = S1 := by rw [HS1.out]; simp [lostOf, HA.out])
          all_goals (have hB9 : Below w.heap.size w wr := HBW.out.trans ((HBx.out.trans (HBr.out.mono HBx.out.size)).mono HBW.out.size))
          all_goals exact ⟨by rw [q0, q1, HA.out]; rfl, below_drew1 (below_set (below_set (below_set (below_set hB9 (by omega)) (by omega)) (by omega)) (by omega))⟩
  · have HA := Aside0.mk hask
    have hne : (askE ms mv rs (inB a 1 ms.length) == 0) = false := by simpa using hask
    obtain ⟨er, her⟩ : ∃ er, er = askE ms mv rs (inB a 1 ms.length) := ⟨_, rfl⟩
    rw [← her] at hne
    have HE := Aside0.mk her
    clear hask her
    go_cut [7, 8] (fun s7 s8 wx => ∃ b, s7 = .pointer (some ⟨b, 0, none⟩) ∧ s8 = .int .i64 er ∧ Aside0 (Below W4.heap.size W4 wx))
    case first =>
      go_region_held3 (fun w' => w'.cell? ⟨w.heap.size, 0, none⟩ = some (.slice A0 ms.length c0) ∧ w'.cell? ⟨w.heap.size, 1, none⟩ = some (.slice A1 mv.length c1) ∧ w'.cell? ⟨w.heap.size, 2, none⟩ = some (.slice A2 rs.length c2) ∧ w'.cell? ⟨w.heap.size + 1, 0, none⟩ = some (.int .i64 a)) (first | go_keep | ((refine ⟨?_, ?_, ?_, ?_⟩) <;> (repeat (first | (with_reducible assumption) | (with_reducible refine set_far ?_ (by dsimp only; omega)))))) (first | (go_at_call 56; (refine (isArbor_calls A0 A1 A2 ms.length c0 mv.length c1 rs.length c2 a 1 hl0).mono ?_); rintro e w1 ⟨rfl, hb1⟩; have hbx : Below W4.heap.size W4 w1 := (by first | exact bthen (below_drew1 (Below.refl _ _)) hb1 | exact bthen (below_drew1 (below_alloc (Below.refl _ _) _)) hb1 | exact bthen (below_alloc (below_drew1 (Below.refl _ _)) _) hb1); have HBx := Aside0.mk hbx; have HBw := Aside0.mk (HBW.out.trans (hbx.mono HBW.out.size)); have HB1 := Aside0.mk hb1; obtain ⟨hk1, hk2⟩ := bcell hb1; have hz1 := hb1.size; (try (have HZ1 := Aside0.mk (Blk.below (Blk.drew (Blk.new W4 #[.slice none 0 0, .slice none 0 0, .slice none 0 0, .slice none 0 0] 84)) hb1))); have hs0 : w1.cell? ⟨w.heap.size, 0, none⟩ = some (.slice A0 ms.length c0) := (HK0.out.below hbx).cell 0 rfl; have hs1 : w1.cell? ⟨w.heap.size, 1, none⟩ = some (.slice A1 mv.length c1) := (HK0.out.below hbx).cell 1 rfl; have hs2 : w1.cell? ⟨w.heap.size, 2, none⟩ = some (.slice A2 rs.length c2) := (HK0.out.below hbx).cell 2 rfl; have hs3 : w1.cell? ⟨w.heap.size + 1, 0, none⟩ = some (.int .i64 a) := (HK1.out.below hbx).cell 0 rfl; have hs4 := (HK0.out.below hbx).lt; have hs5 := (HK1.out.below hbx).lt; clear hb1 hbx) | (go_at_call 48; (refine (asked_calls (H.out.below ?_) _).mono ?_); (repeat (first | exact HBw.out | apply below_alloc | apply below_drew1)); rintro e w2 ⟨hv, hb2⟩; rcases hv with ⟨h0, _⟩ | ⟨_, rfl⟩; exact absurd h0 HA.out; rw [← HE.out]; have hby : Below W4.heap.size W4 w2 := (by first | exact bthen HBx.out hb2 | exact bthen (below_alloc HBx.out _) hb2); have HBy := Aside0.mk hby; have HB2 := Aside0.mk hb2; obtain ⟨hk3, hk4⟩ := bcell hb2; have hz2 := hb2.size; (try (have HZ2 := Aside0.mk (Blk.below (Blk.new w1 #[.slice none 0 0, .slice none 0 0, .slice none 0 0, .slice none 0 0] 84) hb2); have hzc0 := HZ2.out.cell 0 rfl; have hzc1 := HZ2.out.cell 1 rfl; have hzc2 := HZ2.out.cell 2 rfl; have hzc3 := HZ2.out.cell 3 rfl; have hzf0 := HZ2.out.free 0; have hzf1 := HZ2.out.free 1; have hzf2 := HZ2.out.free 2; have hzf3 := HZ2.out.free 3; have hzl := HZ2.out.lt)); (try (have HZ2 := Aside0.mk (HZ1.out.below hb2); have hzc0 := HZ2.out.cell 0 rfl; have hzc1 := HZ2.out.cell 1 rfl; have hzc2 := HZ2.out.cell 2 rfl; have hzc3 := HZ2.out.cell 3 rfl; have hzf0 := HZ2.out.free 0; have hzf1 := HZ2.out.free 1; have hzf2 := HZ2.out.free 2; have hzf3 := HZ2.out.free 3; have hzl := HZ2.out.lt)); have ht0 : w2.cell? ⟨w.heap.size, 0, none⟩ = some (.slice A0 ms.length c0) := (HK0.out.below hby).cell 0 rfl; have ht1 : w2.cell? ⟨w.heap.size, 1, none⟩ = some (.slice A1 mv.length c1) := (HK0.out.below hby).cell 1 rfl; have ht2 : w2.cell? ⟨w.heap.size, 2, none⟩ = some (.slice A2 rs.length c2) := (HK0.out.below hby).cell 2 rfl; have ht3 : w2.cell? ⟨w.heap.size + 1, 0, none⟩ = some (.int .i64 a) := (HK1.out.below hby).cell 0 rfl; have ht4 := (HK0.out.below hby).lt; have ht5 := (HK1.out.below hby).lt; clear hb2 hby))
      all_goals (go_wp2_with fail; go_meet)
      · exact ⟨_, rfl, rfl, ⟨below_alloc HBy.out _⟩⟩
      · exact ⟨_, rfl, rfl, ⟨below_set (below_set (below_set (below_set HBy.out HBx.out.size) HBx.out.size) HBx.out.size) HBx.out.size⟩⟩
      · exact ⟨_, rfl, rfl, ⟨below_set (below_set (below_set (below_set HBy.out (Nat.le_refl _)) (Nat.le_refl _)) (Nat.le_refl _)) (Nat.le_refl _)⟩⟩
    case rest =>
      obtain ⟨b, rfl, rfl, HBx⟩ := hcut
      have hr := HK2.out.below HBx.out
      have hs := HK3.out.below HBx.out
      have hr0 := hr.cell 0 rfl
      have hr1 := hr.cell 1 rfl
      have hs0 := hs.cell 0 rfl
      have hs1 := hs.cell 1 rfl
      have hrf0 := hr.free 0
      have hrf1 := hr.free 1
      have hsf0 := hs.free 0
      have hsf1 := hs.free 1
      have hrl := hr.lt
      have hsl := hs.lt
      have HR9 := Aside0.mk hr
      have HS9 := Aside0.mk hs
      clear hr hs
      go_wp2
      refine bodyPost_ret (results_cct rfl _ _ (w.heap.size + 1 + 1) (w.heap.size + 1 + 1 + 1) 44 44 #[.int .i64 0, .int .i64 0] #[.int .i64 0, .int .i64 0] (0, 0) (0, 0) _ _ (by rfl) ((((HR9.out.put 0 _ rfl).put 1 _ rfl).far (by show w.heap.size + 1 + 1 ≠ w.heap.size + 1 + 1 + 1; omega) _).far (by show w.heap.size + 1 + 1 ≠ w.heap.size + 1 + 1 + 1; omega) _) Tryz.underlying44 rfl (by kernel_rfl) (by rfl) ((((HS9.out.far (by show w.heap.size + 1 + 1 + 1 ≠ w.heap.size + 1 + 1; omega) _).far (by show w.heap.size + 1 + 1 + 1 ≠ w.heap.size + 1 + 1; omega) _).put 0 _ rfl).put 1 _ rfl) Tryz.underlying44 rfl (by kernel_rfl)) rfl ?_
      have q0 : lostOf ms mv rs a 0 = ⟨0, 0⟩ := by simp [lostOf, HA.out]
      have q1 : lostOf ms mv rs a 1 = ⟨0, 0⟩ := by simp [lostOf, HA.out]
      have hB9 : Below w.heap.size w wc := HBW.out.trans (HBx.out.mono HBW.out.size)
      exact ⟨by rw [q0, q1, ← HE.out]; rfl, below_set (below_set (below_set (below_set hB9 (by omega)) (by omega)) (by omega)) (by omega)⟩
end
end Go.Proofs.YtaojkmalpihmbaaGreatDoor.M

