import Derived.Test.YtaojkmalpihmbaaGreatDoorB24
namespace Go.Proofs.YtaojkmalpihmbaaGreatDoor.M
open Go.RowKit Go.Proofs.YtaojkmalpihmbaaGreatDoorW.PrintWords Go.Proofs.YtaojkmalpihmbaaGreatDoorW.PrintLast Go.Proofs.YtaojkmalpihmbaaGreatDoorW.PrintMore Go.Proofs.YtaojkmalpihmbaaGreatDoor.Q
set_option linter.unusedVariables false
set_option linter.unusedSimpArgs false

/-! lost. -/
def lostAt (j : Nat) (a b : Int) : Array Value := #[.int .i64 (if 0 < j then a else 0), .int .i64 (if 1 < j then b else 0)]
set_option maxHeartbeats 2000000 in
set_option maxRecDepth 100000 in
theorem lost_calls {w : World} {A : Option Addr} {c : Nat} {A' : Option Addr} {c' : Nat} {x : S89} (h : TR w A c A' c' x) (i : Nat) (hi : i < x.f1.length) (hi0 : i ≤ x.f0.length) :
    Calls Tryz.prog 58 #[.agg #[.slice A x.f0.length c, .slice A' x.f1.length c'], .int .i64 i] w fun e w' => e = .returned (.agg #[.int .i64 (aheadF i x), .int .i64 (behindF i x)]) ∧ Below w.heap.size w w' := by
  have H := Aside0.mk h
  have hl := h.p.l
  have HI := Aside0.mk hi
  have HI0 := Aside0.mk hi0
  have hent1 := ent Tryz.func90 (by kernel_rfl) rfl
  have hent2 := ent Tryz.func91 (by kernel_rfl) rfl
  have hmf : ∀ (fn : Fn) (first cap : Array Value) (w : World), (Instr.makeFunc fn first cap).run Tryz.prog w = .ok (.func fn first cap) w := fun _ _ _ _ => rfl
  have hix0 : ∀ (f g : Value) (W : World), (Instr.index 124 (.agg #[f, g]) (.int .i64 0)).run Tryz.prog W = .ok f W := fun f g W => by kernel_rfl
  have hix1 : ∀ (f g : Value) (W : World), (Instr.index 124 (.agg #[f, g]) (.int .i64 1)).run Tryz.prog W = .ok g W := fun f g W => by kernel_rfl
  have HB0 := Aside0.mk (below_alloc (below_alloc (below_alloc (Below.refl w.heap.size w) (.cells #[.slice A x.f0.length c, .slice A' x.f1.length c'] 89)) (.cells #[.int .i64 0, .int .i64 0] 96)) (.cells #[.int .i64 0, .int .i64 0] 96))
  have hk4 := (Blk.new (w.alloc (.cells #[.slice A x.f0.length c, .slice A' x.f1.length c'] 89)) #[.int .i64 0, .int .i64 0] 96).alloc (.cells #[.int .i64 0, .int .i64 0] 96)
  have hk5 := Blk.new ((w.alloc (.cells #[.slice A x.f0.length c, .slice A' x.f1.length c'] 89)).alloc (.cells #[.int .i64 0, .int .i64 0] 96)) #[.int .i64 0, .int .i64 0] 96
  rw [World.size_alloc] at hk4
  rw [World.size_alloc, World.size_alloc] at hk5
  have HK4 := Aside0.mk hk4
  have HK5 := Aside0.mk hk5
  clear h hi hi0 hk4 hk5
  go_enter Tryz.func58, Tryz.ntmps58
  go_wp2
  go_loopg [13] 2 (fun k i' wr => ∃ (j : Nat), j + k = 2 ∧ i' = .int .i64 j ∧ Aside0 (Blk wr (w.heap.size + 1 + 1) (lostAt j (aheadF i x) (behindF i x)) 96) ∧ Aside0 (Blk wr (w.heap.size + 1) #[.int .i64 0, .int .i64 0] 96) ∧ Below w.heap.size w wr)
  case atStart => exact ⟨0, rfl, rfl, HK5, HK4, HB0.out⟩
  case round =>
    obtain ⟨j, hj, rfl, HA, HBk, hBr⟩ := hrel
    have hj3 : j = 0 ∨ j = 1 ∨ j = 2 := by omega
    rcases hj3 with rfl | rfl | rfl
    · have ha := HA.out
      have ha0 := ha.cell 0 rfl
      have ha1 := ha.cell 1 rfl
      have hgk : gk = 2 := by omega
      clear ha hj
      go_wp2_with (go_at_call 90; (with_reducible refine (ahead_calls (H.out.below hBr) i HI.out HI0.out).mono ?_); rintro e w2 ⟨rfl, hb2⟩; have HA2 := Aside0.mk (HA.out.below hb2); have HC2 := Aside0.mk (HBk.out.below hb2); have HB2 := Aside0.mk (bthen hBr hb2); have hq0 := HA2.out.cell 0 rfl; have hq1 := HA2.out.cell 1 rfl; have hqf0 := HA2.out.free 0; have hqf1 := HA2.out.free 1; have hql := HA2.out.lt; clear hb2)
      go_roundg (gk - 1)
      case measure => omega
      case rel =>
        refine ⟨1, by omega, by go_num, ⟨?_⟩, ⟨HC2.out.far (by show w.heap.size + 1 ≠ w.heap.size + 1 + 1; omega) _⟩, below_set HB2.out (by omega)⟩
        exact HA2.out.put 0 (.int .i64 (aheadF i x)) rfl
    · have ha := HA.out
      have ha0 := ha.cell 0 rfl
      have ha1 := ha.cell 1 rfl
      have hgk : gk = 1 := by omega
      clear ha hj
      go_wp2_with (go_at_call 91; (with_reducible refine (behind_calls (H.out.below hBr) i HI.out).mono ?_); rintro e w2 ⟨rfl, hb2⟩; have HA2 := Aside0.mk (HA.out.below hb2); have HC2 := Aside0.mk (HBk.out.below hb2); have HB2 := Aside0.mk (bthen hBr hb2); have hq0 := HA2.out.cell 0 rfl; have hq1 := HA2.out.cell 1 rfl; have hqf0 := HA2.out.free 0; have hqf1 := HA2.out.free 1; have hql := HA2.out.lt; clear hb2)
      go_roundg (gk - 1)
      case measure => omega
      case rel =>
        refine ⟨2, by omega, by go_num, ⟨?_⟩, ⟨HC2.out.far (by show w.heap.size + 1 ≠ w.heap.size + 1 + 1; omega) _⟩, below_set HB2.out (by omega)⟩
        exact HA2.out.put 1 (.int .i64 (behindF i x)) rfl
    · have ha := HA.out
      have ha0 : wr.cell? ⟨w.heap.size + 1 + 1, 0, none⟩ = some (.int .i64 (aheadF i x)) := ha.cell 0 rfl
      have ha1 : wr.cell? ⟨w.heap.size + 1 + 1, 1, none⟩ = some (.int .i64 (behindF i x)) := ha.cell 1 rfl
      have hb0 := HBk.out.cell 0 rfl
      have hb1 := HBk.out.cell 1 rfl
      have hf0 := HBk.out.free 0
      have hf1 := HBk.out.free 1
      have hbl := HBk.out.lt
      clear ha hj
      go_wp2
      refine bodyPost_ret (results_cell_row rfl _ _ (w.heap.size + 1) 96 #[.int .i64 (aheadF i x), .int .i64 (behindF i x)] (0,0) _ (by rfl) ((HBk.out.put 0 _ rfl).put 1 _ rfl) Tryz.underlying96 rfl (by kernel_rfl)) rfl ?_
      exact ⟨rfl, below_set (below_set hBr (by omega)) (by omega)⟩
end Go.Proofs.YtaojkmalpihmbaaGreatDoor.M

namespace Go.Proofs.YtaojkmalpihmbaaGreatDoor.M
open Go.RowKit Go.Proofs.YtaojkmalpihmbaaGreatDoorW.PrintWords Go.Proofs.YtaojkmalpihmbaaGreatDoorW.PrintLast Go.Proofs.YtaojkmalpihmbaaGreatDoorW.PrintMore Go.Proofs.YtaojkmalpihmbaaGreatDoor.Q
set_option linter.unusedVariables false
set_option linter.unusedSimpArgs false

/-! isArbor, Lost. -/
theorem isArbor_calls {w : World} (A0 A1 A2 : Option Addr) (n0 c0 n1 c1 n2 c2 : Nat) (n least : Int) (h : n0 ≤ 1000) :
    Calls Tryz.prog 56 #[.agg #[.slice A0 n0 c0, .slice A1 n1 c1, .slice A2 n2 c2], .int .i64 n, .int .i64 least] w fun e w' => e = .returned (.bool (inB n least n0)) ∧ Below w.heap.size w w' := by
  have HB0 := Aside0.mk (below_alloc (Below.refl w.heap.size w) (.cells #[.slice A0 n0 c0, .slice A1 n1 c1, .slice A2 n2 c2] 26))
  go_enter Tryz.func56, Tryz.ntmps56
  go_wp2_with (go_at_call 76; (with_reducible refine (in_calls _ _ _ _).mono ?_); rintro e w2 ⟨rfl, rfl⟩)
  go_ret
  exact ⟨rfl, HB0.out⟩
def lostS (a k : Nat) (x : S89) : S44 := one (if k = 0 then aheadF a x else behindF a x)
set_option maxHeartbeats 2000000 in
set_option maxRecDepth 100000 in
theorem lost1_of {w : World} {ba bk a k : Nat} (hba : Blk w ba #[.int .i64 (a : Int)] 3) (hbk : Blk w bk #[.int .i64 (k : Int)] 3) (hk : k = 0 ∨ k = 1) :
    OfFn 57 #[.pointer (some ⟨ba, 0, none⟩), .pointer (some ⟨bk, 0, none⟩)] w (fun x => a < x.f1.length ∧ a ≤ x.f0.length) (lostS a k) := by
  refine ⟨ent Tryz.func57 (by kernel_rfl) rfl, ?_⟩
  intro x W A c A' c' hB hlt ht
  have hca := (hba.below hB).cell 0 rfl
  have hla := (hba.below hB).lt
  have hck := (hbk.below hB).cell 0 rfl
  have hlk := (hbk.below hB).lt
  have HBK := Aside0.mk (hbk.below hB)
  have HT := Aside0.mk ht
  have HL1 := Aside0.mk hlt.1
  have HL2 := Aside0.mk hlt.2
  have hix0 : ∀ (f g : Value) (W : World), (Instr.index 96 (.agg #[f, g]) (.int .i64 0)).run Tryz.prog W = .ok f W := fun f g W => by kernel_rfl
  have hix1 : ∀ (f g : Value) (W : World), (Instr.index 96 (.agg #[f, g]) (.int .i64 1)).run Tryz.prog W = .ok g W := fun f g W => by kernel_rfl
  have hk4 := Blk.new (W.alloc (.cells #[.slice A x.f0.length c, .slice A' x.f1.length c'] 89)) #[.int .i64 0, .int .i64 0] 44
  rw [World.size_alloc] at hk4
  have HK := Aside0.mk hk4
  have HB0 := Aside0.mk (below_alloc (below_alloc (Below.refl W.heap.size W) (.cells #[.slice A x.f0.length c, .slice A' x.f1.length c'] 89)) (.cells #[.int .i64 0, .int .i64 0] 44))
  clear hba hbk hB ht hlt hk4
  simp only [List.push_toArray, List.append_toArray, List.nil_append, List.cons_append]
  rcases hk with rfl | rfl
  · have hck0 : W.cell? ⟨bk, 0, none⟩ = some (.int .i64 0) := hck
    clear hck
    go_enter Tryz.func57, Tryz.ntmps57
    go_upto_region 1 with fail
    go_region_with (first | (go_at_call 58; (refine (lost_calls (HT.out.below ?_) a HL1.out HL2.out).mono ?_); (repeat (first | exact Below.refl _ _ | apply below_alloc | apply below_drew1)); rintro e w1 ⟨rfl, hb1⟩; have HK1 := Aside0.mk (Blk.below (Blk.drew HK.out) hb1); have HB1 := Aside0.mk (bthen (below_drew1 HB0.out) hb1); have hkk : w1.cell? ⟨bk, 0, none⟩ = some (.int .i64 0) := (Blk.below (Blk.drew ((HBK.out.alloc _).alloc _)) hb1).cell 0 rfl; clear hb1) | (go_at_call 51; (with_reducible refine (just_calls _ _).mono ?_); rintro e w2 ⟨rfl, hb2⟩; have HK2 := Aside0.mk (HK1.out.below hb2); have HB2 := Aside0.mk (bthen HB1.out hb2); have hq0 := HK2.out.cell 0 rfl; have hq1 := HK2.out.cell 1 rfl; have hqf0 := HK2.out.free 0; have hqf1 := HK2.out.free 1; have hql := HK2.out.lt; clear hb2))
    all_goals (go_wp2_with fail)
    all_goals (refine bodyPost_ret (results_cell_row rfl _ _ (W.heap.size + 1) 44 (by first | exact #[.int .i64 (aheadF a x), .int .i64 (aheadF a x)]) (0,0) _ (by rfl) ((HK2.out.put 0 _ rfl).put 1 _ rfl) Tryz.underlying44 rfl (by kernel_rfl)) rfl ?_)
    all_goals exact ⟨rfl, below_set (below_set HB2.out (by omega)) (by omega)⟩
  · have hck0 : W.cell? ⟨bk, 0, none⟩ = some (.int .i64 1) := hck
    clear hck
    go_enter Tryz.func57, Tryz.ntmps57
    go_upto_region 1 with fail
    go_region_with (first | (go_at_call 58; (refine (lost_calls (HT.out.below ?_) a HL1.out HL2.out).mono ?_); (repeat (first | exact Below.refl _ _ | apply below_alloc | apply below_drew1)); rintro e w1 ⟨rfl, hb1⟩; have HK1 := Aside0.mk (Blk.below (Blk.drew HK.out) hb1); have HB1 := Aside0.mk (bthen (below_drew1 HB0.out) hb1); have hkk : w1.cell? ⟨bk, 0, none⟩ = some (.int .i64 1) := (Blk.below (Blk.drew ((HBK.out.alloc _).alloc _)) hb1).cell 0 rfl; clear hb1) | (go_at_call 51; (with_reducible refine (just_calls _ _).mono ?_); rintro e w2 ⟨rfl, hb2⟩; have HK2 := Aside0.mk (HK1.out.below hb2); have HB2 := Aside0.mk (bthen HB1.out hb2); have hq0 := HK2.out.cell 0 rfl; have hq1 := HK2.out.cell 1 rfl; have hqf0 := HK2.out.free 0; have hqf1 := HK2.out.free 1; have hql := HK2.out.lt; clear hb2))
    all_goals (go_wp2_with fail)
    all_goals (refine bodyPost_ret (results_cell_row rfl _ _ (W.heap.size + 1) 44 (by first | exact #[.int .i64 (behindF a x), .int .i64 (behindF a x)]) (0,0) _ (by rfl) ((HK2.out.put 0 _ rfl).put 1 _ rfl) Tryz.underlying44 rfl (by kernel_rfl)) rfl ?_)
    all_goals exact ⟨rfl, below_set (below_set HB2.out (by omega)) (by omega)⟩
end Go.Proofs.YtaojkmalpihmbaaGreatDoor.M

