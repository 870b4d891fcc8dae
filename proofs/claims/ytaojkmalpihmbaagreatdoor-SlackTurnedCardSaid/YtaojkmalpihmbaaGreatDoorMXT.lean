import Derived.Test.YtaojkmalpihmbaaGreatDoorMXT0
import Derived.Test.YtaojkmalpihmbaaGreatDoorB42
import Derived.Test.YtaojkmalpihmbaaGreatDoorMRF
import Derived.Test.YtaojkmalpihmbaaGreatDoorB26
import Derived.Deep.QuietTactic
import Derived.BigQuiet
import Derived.Deep.RegionHeld3
import Derived.IntWalk
namespace Go.Proofs.YtaojkmalpihmbaaGreatDoor.M
open Go.RowKit Go.Proofs.YtaojkmalpihmbaaGreatDoorW.PrintWords Go.Proofs.YtaojkmalpihmbaaGreatDoorW.PrintLast Go.Proofs.YtaojkmalpihmbaaGreatDoorW.PrintMore Go.Proofs.YtaojkmalpihmbaaGreatDoor.Q
set_option linter.unusedVariables false
set_option linter.unusedSimpArgs false

/-! SlackTurned. -/
theorem Last_at {w : World} {A0 A1 A2 : Option Addr} {c0 c1 c2 : Nat} {ms : List S64} {mv : List Int} {rs : List S66} (h : PR w A0 c0 ms A1 c1 mv A2 c2 rs) (a : Int) : Calls Tryz.prog 24 #[.agg #[.slice A0 ms.length c0, .slice A1 mv.length c1, .slice A2 rs.length c2], .int .i64 a] w fun e w' => e = .returned (.bool (inB a 1 ms.length)) ∧ Below w.heap.size w w' :=
  tellurionref03_Last.calls A0 c0 ms A1 c1 mv A2 c2 rs a _ w h.r0 h.c0 h.r1 h.c1 h.r2 h.c2 (by simp [tellurionref03_Last.f, in_f])
theorem one_irT {w : World} {x : Int} : IR (w.alloc (.cells #[.int .i64 x] 3)) (some ⟨w.heap.size, 0, none⟩) 1 [x] := ⟨one_int w x, Nat.le_refl _, by simp⟩
theorem one_irT2 (w : World) (o o' : Obj) (x : Int) : IR (((w.alloc o).alloc o').alloc (.cells #[.int .i64 x] 3)) (some ⟨w.heap.size + 1 + 1, 0, none⟩) 1 [x] := by
  have h := one_irT (w := (w.alloc o).alloc o') (x := x)
  rwa [World.size_alloc, World.size_alloc] at h
section
variable {A0 A1 A2 : Option Addr} {c0 c1 c2 : Nat} {ms : List S64} {mv : List Int} {rs : List S66} {pl : List Int} {A : Option Addr} {c : Nat}
set_option maxHeartbeats 60000000 in
set_option maxRecDepth 100000 in
theorem turned_law_calls {w : World} (hw : LibW w) (h : PQ w A0 c0 ms A1 c1 mv A2 c2 rs) (hp : Kd.C (Kd.int .i64) w A pl.length pl) (hpc : pl.length ≤ c) (arb move : Int) :
    Calls Tryz.prog 7 #[.agg #[.slice A0 ms.length c0, .slice A1 mv.length c1, .slice A2 rs.length c2], .slice A pl.length c, .int .i64 arb, .int .i64 move] w fun e w' => e = .returned (.bool true) ∧ Below w.heap.size w w' := by
  have HP := Aside0.mk hp
  have HPC := Aside0.mk hpc
  clear hp hpc
  have HL := Aside0.mk hw
  have H := Aside0.mk h
  have hb0 := below_alloc (Below.refl w.heap.size w) (.cells #[.slice A0 ms.length c0, .slice A1 mv.length c1, .slice A2 rs.length c2] 26)
  have hk0 := Blk.new w #[.slice A0 ms.length c0, .slice A1 mv.length c1, .slice A2 rs.length c2] 26
  have HBz := Aside0.mk hb0
  have HK := Aside0.mk hk0
  have HS0 := Aside0.mk (short_at (h.below hb0))
  clear hw h hb0 hk0
  rcases hs : shortB ms mv rs with _ | _
  · have HSS := Aside0.mk hs
    clear hs
    go_enter Tryz.func7, Tryz.ntmps7
    go_wp2_with (first
      | (go_at_call 10; (with_reducible refine (HS0.out).mono ?_); rintro e w1 ⟨rfl, hb⟩; rw [HSS.out]; replace HBz := Aside0.mk (HBz.out.trans (Below.mono hb HBz.out.size)); replace HK := Aside0.mk (HK.out.below hb); have hk0 : World.cell? _ ⟨w.heap.size, 0, none⟩ = some (.slice A0 ms.length c0) := HK.out.cell 0 rfl; have hk1 : World.cell? _ ⟨w.heap.size, 1, none⟩ = some (.slice A1 mv.length c1) := HK.out.cell 1 rfl; have hk2 : World.cell? _ ⟨w.heap.size, 2, none⟩ = some (.slice A2 rs.length c2) := HK.out.cell 2 rfl; clear hb)
      | (go_at_call 14; (with_reducible refine (known_calls (HL.out.below HBz.out)).mono ?_); rintro e wn ⟨rfl, hb⟩; replace HBz := Aside0.mk (HBz.out.trans (Below.mono hb HBz.out.size)); clear hb))
    go_ret
    exact ⟨rfl, HBz.out⟩
  have HSS := Aside0.mk hs
  obtain ⟨hm6, hv10, hr8⟩ := short_len hs
  clear hs
  have HPR : Aside0 (PR w A0 c0 ms A1 c1 mv A2 c2 rs) := ⟨⟨H.out.r0, H.out.r1, H.out.r2, H.out.c0, H.out.c1, H.out.c2, by omega, by omega, by omega⟩⟩
  by_cases hp6 : ¬ (pl.length : Int) ≤ 6
  · have hp6' : (6 : Int) < (pl.length : Int) := by omega
    clear hp6
    go_enter Tryz.func7, Tryz.ntmps7
    go_wp2_with (first
      | (go_at_call 10; (with_reducible refine (HS0.out).mono ?_); rintro e w1 ⟨rfl, hb⟩; rw [HSS.out]; replace HBz := Aside0.mk (HBz.out.trans (Below.mono hb HBz.out.size)); replace HK := Aside0.mk (HK.out.below hb); have hk0 : World.cell? _ ⟨w.heap.size, 0, none⟩ = some (.slice A0 ms.length c0) := HK.out.cell 0 rfl; have hk1 : World.cell? _ ⟨w.heap.size, 1, none⟩ = some (.slice A1 mv.length c1) := HK.out.cell 1 rfl; have hk2 : World.cell? _ ⟨w.heap.size, 2, none⟩ = some (.slice A2 rs.length c2) := HK.out.cell 2 rfl; clear hb)
      | (go_at_call 14; (with_reducible refine (known_calls (HL.out.below HBz.out)).mono ?_); rintro e wn ⟨rfl, hb⟩; replace HBz := Aside0.mk (HBz.out.trans (Below.mono hb HBz.out.size)); clear hb))
    go_ret
    exact ⟨rfl, HBz.out⟩
  have hp6' : pl.length ≤ 6 := by omega
  have hp6'' : ¬ (6 : Int) < (pl.length : Int) := by omega
  clear hp6
  have HIR : Aside0 (IR w A c pl) := ⟨⟨HP.out, HPC.out, by omega⟩⟩
  rcases hs : pieceB ms mv rs with _ | _
  · have HPB := Aside0.mk hs
    clear hs
    go_enter Tryz.func7, Tryz.ntmps7
    go_wp2_with (first
      | (go_at_call 10; (with_reducible refine (HS0.out).mono ?_); rintro e w1 ⟨rfl, hb⟩; rw [HSS.out]; replace HBz := Aside0.mk (HBz.out.trans (Below.mono hb HBz.out.size)); replace HK := Aside0.mk (HK.out.below hb); have hk0 : World.cell? _ ⟨w.heap.size, 0, none⟩ = some (.slice A0 ms.length c0) := HK.out.cell 0 rfl; have hk1 : World.cell? _ ⟨w.heap.size, 1, none⟩ = some (.slice A1 mv.length c1) := HK.out.cell 1 rfl; have hk2 : World.cell? _ ⟨w.heap.size, 2, none⟩ = some (.slice A2 rs.length c2) := HK.out.cell 2 rfl; clear hb)
      | (go_at_call 11; (with_reducible refine (piece_at (HPR.out.below HBz.out)).mono ?_); rintro e w2 ⟨rfl, hb⟩; rw [HPB.out]; replace HBz := Aside0.mk (HBz.out.trans (Below.mono hb HBz.out.size)); replace HK := Aside0.mk (HK.out.below hb); have hk0 : World.cell? _ ⟨w.heap.size, 0, none⟩ = some (.slice A0 ms.length c0) := HK.out.cell 0 rfl; have hk1 : World.cell? _ ⟨w.heap.size, 1, none⟩ = some (.slice A1 mv.length c1) := HK.out.cell 1 rfl; have hk2 : World.cell? _ ⟨w.heap.size, 2, none⟩ = some (.slice A2 rs.length c2) := HK.out.cell 2 rfl; clear hb)
      | (go_at_call 14; (with_reducible refine (known_calls (HL.out.below HBz.out)).mono ?_); rintro e wn ⟨rfl, hb⟩; replace HBz := Aside0.mk (HBz.out.trans (Below.mono hb HBz.out.size)); clear hb))
    go_ret
    exact ⟨rfl, HBz.out⟩
  have HPB := Aside0.mk hs
  clear hs
  rcases hs : playsB ms pl with _ | _
  · have HYB := Aside0.mk hs
    clear hs
    go_enter Tryz.func7, Tryz.ntmps7
    go_wp2_with (first
      | (go_at_call 10; (with_reducible refine (HS0.out).mono ?_); rintro e w1 ⟨rfl, hb⟩; rw [HSS.out]; replace HBz := Aside0.mk (HBz.out.trans (Below.mono hb HBz.out.size)); replace HK := Aside0.mk (HK.out.below hb); have hk0 : World.cell? _ ⟨w.heap.size, 0, none⟩ = some (.slice A0 ms.length c0) := HK.out.cell 0 rfl; have hk1 : World.cell? _ ⟨w.heap.size, 1, none⟩ = some (.slice A1 mv.length c1) := HK.out.cell 1 rfl; have hk2 : World.cell? _ ⟨w.heap.size, 2, none⟩ = some (.slice A2 rs.length c2) := HK.out.cell 2 rfl; clear hb)
      | (go_at_call 11; (with_reducible refine (piece_at (HPR.out.below HBz.out)).mono ?_); rintro e w2 ⟨rfl, hb⟩; rw [HPB.out]; replace HBz := Aside0.mk (HBz.out.trans (Below.mono hb HBz.out.size)); replace HK := Aside0.mk (HK.out.below hb); have hk0 : World.cell? _ ⟨w.heap.size, 0, none⟩ = some (.slice A0 ms.length c0) := HK.out.cell 0 rfl; have hk1 : World.cell? _ ⟨w.heap.size, 1, none⟩ = some (.slice A1 mv.length c1) := HK.out.cell 1 rfl; have hk2 : World.cell? _ ⟨w.heap.size, 2, none⟩ = some (.slice A2 rs.length c2) := HK.out.cell 2 rfl; clear hb)
      | (go_at_call 12; (with_reducible refine (plays_at (HPR.out.below HBz.out) (HIR.out.below HBz.out)).mono ?_); rintro e w3 ⟨rfl, hb⟩; rw [HYB.out]; replace HBz := Aside0.mk (HBz.out.trans (Below.mono hb HBz.out.size)); replace HK := Aside0.mk (HK.out.below hb); have hk0 : World.cell? _ ⟨w.heap.size, 0, none⟩ = some (.slice A0 ms.length c0) := HK.out.cell 0 rfl; have hk1 : World.cell? _ ⟨w.heap.size, 1, none⟩ = some (.slice A1 mv.length c1) := HK.out.cell 1 rfl; have hk2 : World.cell? _ ⟨w.heap.size, 2, none⟩ = some (.slice A2 rs.length c2) := HK.out.cell 2 rfl; clear hb)
      | (go_at_call 14; (with_reducible refine (known_calls (HL.out.below HBz.out)).mono ?_); rintro e wn ⟨rfl, hb⟩; replace HBz := Aside0.mk (HBz.out.trans (Below.mono hb HBz.out.size)); clear hb))
    go_ret
    exact ⟨rfl, HBz.out⟩
  have HYB := Aside0.mk hs
  have HLM := Aside0.mk (plays_len hs)
  clear hs
  have HOKP := Aside0.mk (plays_ok HYB.out)
  rcases hs : (okB pl ms && fitB rs pl mv) with _ | _
  · have HFB := Aside0.mk hs
    clear hs
    go_enter Tryz.func7, Tryz.ntmps7
    go_wp2_with (first
      | (go_at_call 10; (with_reducible refine (HS0.out).mono ?_); rintro e w1 ⟨rfl, hb⟩; rw [HSS.out]; replace HBz := Aside0.mk (HBz.out.trans (Below.mono hb HBz.out.size)); replace HK := Aside0.mk (HK.out.below hb); have hk0 : World.cell? _ ⟨w.heap.size, 0, none⟩ = some (.slice A0 ms.length c0) := HK.out.cell 0 rfl; have hk1 : World.cell? _ ⟨w.heap.size, 1, none⟩ = some (.slice A1 mv.length c1) := HK.out.cell 1 rfl; have hk2 : World.cell? _ ⟨w.heap.size, 2, none⟩ = some (.slice A2 rs.length c2) := HK.out.cell 2 rfl; clear hb)
      | (go_at_call 11; (with_reducible refine (piece_at (HPR.out.below HBz.out)).mono ?_); rintro e w2 ⟨rfl, hb⟩; rw [HPB.out]; replace HBz := Aside0.mk (HBz.out.trans (Below.mono hb HBz.out.size)); replace HK := Aside0.mk (HK.out.below hb); have hk0 : World.cell? _ ⟨w.heap.size, 0, none⟩ = some (.slice A0 ms.length c0) := HK.out.cell 0 rfl; have hk1 : World.cell? _ ⟨w.heap.size, 1, none⟩ = some (.slice A1 mv.length c1) := HK.out.cell 1 rfl; have hk2 : World.cell? _ ⟨w.heap.size, 2, none⟩ = some (.slice A2 rs.length c2) := HK.out.cell 2 rfl; clear hb)
      | (go_at_call 12; (with_reducible refine (plays_at (HPR.out.below HBz.out) (HIR.out.below HBz.out)).mono ?_); rintro e w3 ⟨rfl, hb⟩; rw [HYB.out]; replace HBz := Aside0.mk (HBz.out.trans (Below.mono hb HBz.out.size)); replace HK := Aside0.mk (HK.out.below hb); have hk0 : World.cell? _ ⟨w.heap.size, 0, none⟩ = some (.slice A0 ms.length c0) := HK.out.cell 0 rfl; have hk1 : World.cell? _ ⟨w.heap.size, 1, none⟩ = some (.slice A1 mv.length c1) := HK.out.cell 1 rfl; have hk2 : World.cell? _ ⟨w.heap.size, 2, none⟩ = some (.slice A2 rs.length c2) := HK.out.cell 2 rfl; clear hb)
      | (go_at_call 26; (with_reducible refine (refFits_calls (HPR.out.below HBz.out) (HIR.out.below HBz.out) HPB.out HOKP.out HLM.out).mono ?_); rintro e w4 ⟨rfl, hb⟩; rw [HFB.out]; replace HBz := Aside0.mk (HBz.out.trans (Below.mono hb HBz.out.size)); replace HK := Aside0.mk (HK.out.below hb); have hk0 : World.cell? _ ⟨w.heap.size, 0, none⟩ = some (.slice A0 ms.length c0) := HK.out.cell 0 rfl; have hk1 : World.cell? _ ⟨w.heap.size, 1, none⟩ = some (.slice A1 mv.length c1) := HK.out.cell 1 rfl; have hk2 : World.cell? _ ⟨w.heap.size, 2, none⟩ = some (.slice A2 rs.length c2) := HK.out.cell 2 rfl; clear hb)
      | (go_at_call 14; (with_reducible refine (known_calls (HL.out.below HBz.out)).mono ?_); rintro e wn ⟨rfl, hb⟩; replace HBz := Aside0.mk (HBz.out.trans (Below.mono hb HBz.out.size)); clear hb))
    go_ret
    exact ⟨rfl, HBz.out⟩
  have HFB := Aside0.mk hs
  clear hs
  rcases hs : inB arb 1 ms.length with _ | _
  · have HAB := Aside0.mk hs
    clear hs
    go_enter Tryz.func7, Tryz.ntmps7
    go_wp2_with (first
      | (go_at_call 10; (with_reducible refine (HS0.out).mono ?_); rintro e w1 ⟨rfl, hb⟩; rw [HSS.out]; replace HBz := Aside0.mk (HBz.out.trans (Below.mono hb HBz.out.size)); replace HK := Aside0.mk (HK.out.below hb); have hk0 : World.cell? _ ⟨w.heap.size, 0, none⟩ = some (.slice A0 ms.length c0) := HK.out.cell 0 rfl; have hk1 : World.cell? _ ⟨w.heap.size, 1, none⟩ = some (.slice A1 mv.length c1) := HK.out.cell 1 rfl; have hk2 : World.cell? _ ⟨w.heap.size, 2, none⟩ = some (.slice A2 rs.length c2) := HK.out.cell 2 rfl; clear hb)
      | (go_at_call 11; (with_reducible refine (piece_at (HPR.out.below HBz.out)).mono ?_); rintro e w2 ⟨rfl, hb⟩; rw [HPB.out]; replace HBz := Aside0.mk (HBz.out.trans (Below.mono hb HBz.out.size)); replace HK := Aside0.mk (HK.out.below hb); have hk0 : World.cell? _ ⟨w.heap.size, 0, none⟩ = some (.slice A0 ms.length c0) := HK.out.cell 0 rfl; have hk1 : World.cell? _ ⟨w.heap.size, 1, none⟩ = some (.slice A1 mv.length c1) := HK.out.cell 1 rfl; have hk2 : World.cell? _ ⟨w.heap.size, 2, none⟩ = some (.slice A2 rs.length c2) := HK.out.cell 2 rfl; clear hb)
      | (go_at_call 12; (with_reducible refine (plays_at (HPR.out.below HBz.out) (HIR.out.below HBz.out)).mono ?_); rintro e w3 ⟨rfl, hb⟩; rw [HYB.out]; replace HBz := Aside0.mk (HBz.out.trans (Below.mono hb HBz.out.size)); replace HK := Aside0.mk (HK.out.below hb); have hk0 : World.cell? _ ⟨w.heap.size, 0, none⟩ = some (.slice A0 ms.length c0) := HK.out.cell 0 rfl; have hk1 : World.cell? _ ⟨w.heap.size, 1, none⟩ = some (.slice A1 mv.length c1) := HK.out.cell 1 rfl; have hk2 : World.cell? _ ⟨w.heap.size, 2, none⟩ = some (.slice A2 rs.length c2) := HK.out.cell 2 rfl; clear hb)
      | (go_at_call 26; (with_reducible refine (refFits_calls (HPR.out.below HBz.out) (HIR.out.below HBz.out) HPB.out HOKP.out HLM.out).mono ?_); rintro e w4 ⟨rfl, hb⟩; rw [HFB.out]; replace HBz := Aside0.mk (HBz.out.trans (Below.mono hb HBz.out.size)); replace HK := Aside0.mk (HK.out.below hb); have hk0 : World.cell? _ ⟨w.heap.size, 0, none⟩ = some (.slice A0 ms.length c0) := HK.out.cell 0 rfl; have hk1 : World.cell? _ ⟨w.heap.size, 1, none⟩ = some (.slice A1 mv.length c1) := HK.out.cell 1 rfl; have hk2 : World.cell? _ ⟨w.heap.size, 2, none⟩ = some (.slice A2 rs.length c2) := HK.out.cell 2 rfl; clear hb)
      | (go_at_call 24; (with_reducible refine (Last_at (HPR.out.below HBz.out) _).mono ?_); rintro e w5 ⟨rfl, hb⟩; rw [HAB.out]; replace HBz := Aside0.mk (HBz.out.trans (Below.mono hb HBz.out.size)); replace HK := Aside0.mk (HK.out.below hb); have hk0 : World.cell? _ ⟨w.heap.size, 0, none⟩ = some (.slice A0 ms.length c0) := HK.out.cell 0 rfl; have hk1 : World.cell? _ ⟨w.heap.size, 1, none⟩ = some (.slice A1 mv.length c1) := HK.out.cell 1 rfl; have hk2 : World.cell? _ ⟨w.heap.size, 2, none⟩ = some (.slice A2 rs.length c2) := HK.out.cell 2 rfl; clear hb)
      | (go_at_call 14; (with_reducible refine (known_calls (HL.out.below HBz.out)).mono ?_); rintro e wn ⟨rfl, hb⟩; replace HBz := Aside0.mk (HBz.out.trans (Below.mono hb HBz.out.size)); clear hb))
    go_ret
    exact ⟨rfl, HBz.out⟩
  have HAB := Aside0.mk hs
  have hab : 1 ≤ arb ∧ arb ≤ ms.length := by simpa [inB] using hs
  clear hs
  by_cases hv8 : ¬ (mv.length : Int) < 8
  · have hv8' : (8 : Int) ≤ (mv.length : Int) := by omega
    clear hv8
    go_enter Tryz.func7, Tryz.ntmps7
    go_wp2_with (first
      | (go_at_call 10; (with_reducible refine (HS0.out).mono ?_); rintro e w1 ⟨rfl, hb⟩; rw [HSS.out]; replace HBz := Aside0.mk (HBz.out.trans (Below.mono hb HBz.out.size)); replace HK := Aside0.mk (HK.out.below hb); have hk0 : World.cell? _ ⟨w.heap.size, 0, none⟩ = some (.slice A0 ms.length c0) := HK.out.cell 0 rfl; have hk1 : World.cell? _ ⟨w.heap.size, 1, none⟩ = some (.slice A1 mv.length c1) := HK.out.cell 1 rfl; have hk2 : World.cell? _ ⟨w.heap.size, 2, none⟩ = some (.slice A2 rs.length c2) := HK.out.cell 2 rfl; clear hb)
      | (go_at_call 11; (with_reducible refine (piece_at (HPR.out.below HBz.out)).mono ?_); rintro e w2 ⟨rfl, hb⟩; rw [HPB.out]; replace HBz := Aside0.mk (HBz.out.trans (Below.mono hb HBz.out.size)); replace HK := Aside0.mk (HK.out.below hb); have hk0 : World.cell? _ ⟨w.heap.size, 0, none⟩ = some (.slice A0 ms.length c0) := HK.out.cell 0 rfl; have hk1 : World.cell? _ ⟨w.heap.size, 1, none⟩ = some (.slice A1 mv.length c1) := HK.out.cell 1 rfl; have hk2 : World.cell? _ ⟨w.heap.size, 2, none⟩ = some (.slice A2 rs.length c2) := HK.out.cell 2 rfl; clear hb)
      | (go_at_call 12; (with_reducible refine (plays_at (HPR.out.below HBz.out) (HIR.out.below HBz.out)).mono ?_); rintro e w3 ⟨rfl, hb⟩; rw [HYB.out]; replace HBz := Aside0.mk (HBz.out.trans (Below.mono hb HBz.out.size)); replace HK := Aside0.mk (HK.out.below hb); have hk0 : World.cell? _ ⟨w.heap.size, 0, none⟩ = some (.slice A0 ms.length c0) := HK.out.cell 0 rfl; have hk1 : World.cell? _ ⟨w.heap.size, 1, none⟩ = some (.slice A1 mv.length c1) := HK.out.cell 1 rfl; have hk2 : World.cell? _ ⟨w.heap.size, 2, none⟩ = some (.slice A2 rs.length c2) := HK.out.cell 2 rfl; clear hb)
      | (go_at_call 26; (with_reducible refine (refFits_calls (HPR.out.below HBz.out) (HIR.out.below HBz.out) HPB.out HOKP.out HLM.out).mono ?_); rintro e w4 ⟨rfl, hb⟩; rw [HFB.out]; replace HBz := Aside0.mk (HBz.out.trans (Below.mono hb HBz.out.size)); replace HK := Aside0.mk (HK.out.below hb); have hk0 : World.cell? _ ⟨w.heap.size, 0, none⟩ = some (.slice A0 ms.length c0) := HK.out.cell 0 rfl; have hk1 : World.cell? _ ⟨w.heap.size, 1, none⟩ = some (.slice A1 mv.length c1) := HK.out.cell 1 rfl; have hk2 : World.cell? _ ⟨w.heap.size, 2, none⟩ = some (.slice A2 rs.length c2) := HK.out.cell 2 rfl; clear hb)
      | (go_at_call 24; (with_reducible refine (Last_at (HPR.out.below HBz.out) _).mono ?_); rintro e w5 ⟨rfl, hb⟩; rw [HAB.out]; replace HBz := Aside0.mk (HBz.out.trans (Below.mono hb HBz.out.size)); replace HK := Aside0.mk (HK.out.below hb); have hk0 : World.cell? _ ⟨w.heap.size, 0, none⟩ = some (.slice A0 ms.length c0) := HK.out.cell 0 rfl; have hk1 : World.cell? _ ⟨w.heap.size, 1, none⟩ = some (.slice A1 mv.length c1) := HK.out.cell 1 rfl; have hk2 : World.cell? _ ⟨w.heap.size, 2, none⟩ = some (.slice A2 rs.length c2) := HK.out.cell 2 rfl; clear hb)
      | (go_at_call 14; (with_reducible refine (known_calls (HL.out.below HBz.out)).mono ?_); rintro e wn ⟨rfl, hb⟩; replace HBz := Aside0.mk (HBz.out.trans (Below.mono hb HBz.out.size)); clear hb))
    go_ret
    exact ⟨rfl, HBz.out⟩
  have hv8' : ¬ (8 : Int) ≤ (mv.length : Int) := by omega
  clear hv8
  by_cases hm0 : move < -300
  · skip
    go_enter Tryz.func7, Tryz.ntmps7
    go_wp2_with (first
      | (go_at_call 10; (with_reducible refine (HS0.out).mono ?_); rintro e w1 ⟨rfl, hb⟩; rw [HSS.out]; replace HBz := Aside0.mk (HBz.out.trans (Below.mono hb HBz.out.size)); replace HK := Aside0.mk (HK.out.below hb); have hk0 : World.cell? _ ⟨w.heap.size, 0, none⟩ = some (.slice A0 ms.length c0) := HK.out.cell 0 rfl; have hk1 : World.cell? _ ⟨w.heap.size, 1, none⟩ = some (.slice A1 mv.length c1) := HK.out.cell 1 rfl; have hk2 : World.cell? _ ⟨w.heap.size, 2, none⟩ = some (.slice A2 rs.length c2) := HK.out.cell 2 rfl; clear hb)
      | (go_at_call 11; (with_reducible refine (piece_at (HPR.out.below HBz.out)).mono ?_); rintro e w2 ⟨rfl, hb⟩; rw [HPB.out]; replace HBz := Aside0.mk (HBz.out.trans (Below.mono hb HBz.out.size)); replace HK := Aside0.mk (HK.out.below hb); have hk0 : World.cell? _ ⟨w.heap.size, 0, none⟩ = some (.slice A0 ms.length c0) := HK.out.cell 0 rfl; have hk1 : World.cell? _ ⟨w.heap.size, 1, none⟩ = some (.slice A1 mv.length c1) := HK.out.cell 1 rfl; have hk2 : World.cell? _ ⟨w.heap.size, 2, none⟩ = some (.slice A2 rs.length c2) := HK.out.cell 2 rfl; clear hb)
      | (go_at_call 12; (with_reducible refine (plays_at (HPR.out.below HBz.out) (HIR.out.below HBz.out)).mono ?_); rintro e w3 ⟨rfl, hb⟩; rw [HYB.out]; replace HBz := Aside0.mk (HBz.out.trans (Below.mono hb HBz.out.size)); replace HK := Aside0.mk (HK.out.below hb); have hk0 : World.cell? _ ⟨w.heap.size, 0, none⟩ = some (.slice A0 ms.length c0) := HK.out.cell 0 rfl; have hk1 : World.cell? _ ⟨w.heap.size, 1, none⟩ = some (.slice A1 mv.length c1) := HK.out.cell 1 rfl; have hk2 : World.cell? _ ⟨w.heap.size, 2, none⟩ = some (.slice A2 rs.length c2) := HK.out.cell 2 rfl; clear hb)
      | (go_at_call 26; (with_reducible refine (refFits_calls (HPR.out.below HBz.out) (HIR.out.below HBz.out) HPB.out HOKP.out HLM.out).mono ?_); rintro e w4 ⟨rfl, hb⟩; rw [HFB.out]; replace HBz := Aside0.mk (HBz.out.trans (Below.mono hb HBz.out.size)); replace HK := Aside0.mk (HK.out.below hb); have hk0 : World.cell? _ ⟨w.heap.size, 0, none⟩ = some (.slice A0 ms.length c0) := HK.out.cell 0 rfl; have hk1 : World.cell? _ ⟨w.heap.size, 1, none⟩ = some (.slice A1 mv.length c1) := HK.out.cell 1 rfl; have hk2 : World.cell? _ ⟨w.heap.size, 2, none⟩ = some (.slice A2 rs.length c2) := HK.out.cell 2 rfl; clear hb)
      | (go_at_call 24; (with_reducible refine (Last_at (HPR.out.below HBz.out) _).mono ?_); rintro e w5 ⟨rfl, hb⟩; rw [HAB.out]; replace HBz := Aside0.mk (HBz.out.trans (Below.mono hb HBz.out.size)); replace HK := Aside0.mk (HK.out.below hb); have hk0 : World.cell? _ ⟨w.heap.size, 0, none⟩ = some (.slice A0 ms.length c0) := HK.out.cell 0 rfl; have hk1 : World.cell? _ ⟨w.heap.size, 1, none⟩ = some (.slice A1 mv.length c1) := HK.out.cell 1 rfl; have hk2 : World.cell? _ ⟨w.heap.size, 2, none⟩ = some (.slice A2 rs.length c2) := HK.out.cell 2 rfl; clear hb)
      | (go_at_call 14; (with_reducible refine (known_calls (HL.out.below HBz.out)).mono ?_); rintro e wn ⟨rfl, hb⟩; replace HBz := Aside0.mk (HBz.out.trans (Below.mono hb HBz.out.size)); clear hb))
    go_ret
    exact ⟨rfl, HBz.out⟩
  by_cases hm1 : 300 < move
  · skip
    go_enter Tryz.func7, Tryz.ntmps7
    go_wp2_with (first
      | (go_at_call 10; (with_reducible refine (HS0.out).mono ?_); rintro e w1 ⟨rfl, hb⟩; rw [HSS.out]; replace HBz := Aside0.mk (HBz.out.trans (Below.mono hb HBz.out.size)); replace HK := Aside0.mk (HK.out.below hb); have hk0 : World.cell? _ ⟨w.heap.size, 0, none⟩ = some (.slice A0 ms.length c0) := HK.out.cell 0 rfl; have hk1 : World.cell? _ ⟨w.heap.size, 1, none⟩ = some (.slice A1 mv.length c1) := HK.out.cell 1 rfl; have hk2 : World.cell? _ ⟨w.heap.size, 2, none⟩ = some (.slice A2 rs.length c2) := HK.out.cell 2 rfl; clear hb)
      | (go_at_call 11; (with_reducible refine (piece_at (HPR.out.below HBz.out)).mono ?_); rintro e w2 ⟨rfl, hb⟩; rw [HPB.out]; replace HBz := Aside0.mk (HBz.out.trans (Below.mono hb HBz.out.size)); replace HK := Aside0.mk (HK.out.below hb); have hk0 : World.cell? _ ⟨w.heap.size, 0, none⟩ = some (.slice A0 ms.length c0) := HK.out.cell 0 rfl; have hk1 : World.cell? _ ⟨w.heap.size, 1, none⟩ = some (.slice A1 mv.length c1) := HK.out.cell 1 rfl; have hk2 : World.cell? _ ⟨w.heap.size, 2, none⟩ = some (.slice A2 rs.length c2) := HK.out.cell 2 rfl; clear hb)
      | (go_at_call 12; (with_reducible refine (plays_at (HPR.out.below HBz.out) (HIR.out.below HBz.out)).mono ?_); rintro e w3 ⟨rfl, hb⟩; rw [HYB.out]; replace HBz := Aside0.mk (HBz.out.trans (Below.mono hb HBz.out.size)); replace HK := Aside0.mk (HK.out.below hb); have hk0 : World.cell? _ ⟨w.heap.size, 0, none⟩ = some (.slice A0 ms.length c0) := HK.out.cell 0 rfl; have hk1 : World.cell? _ ⟨w.heap.size, 1, none⟩ = some (.slice A1 mv.length c1) := HK.out.cell 1 rfl; have hk2 : World.cell? _ ⟨w.heap.size, 2, none⟩ = some (.slice A2 rs.length c2) := HK.out.cell 2 rfl; clear hb)
      | (go_at_call 26; (with_reducible refine (refFits_calls (HPR.out.below HBz.out) (HIR.out.below HBz.out) HPB.out HOKP.out HLM.out).mono ?_); rintro e w4 ⟨rfl, hb⟩; rw [HFB.out]; replace HBz := Aside0.mk (HBz.out.trans (Below.mono hb HBz.out.size)); replace HK := Aside0.mk (HK.out.below hb); have hk0 : World.cell? _ ⟨w.heap.size, 0, none⟩ = some (.slice A0 ms.length c0) := HK.out.cell 0 rfl; have hk1 : World.cell? _ ⟨w.heap.size, 1, none⟩ = some (.slice A1 mv.length c1) := HK.out.cell 1 rfl; have hk2 : World.cell? _ ⟨w.heap.size, 2, none⟩ = some (.slice A2 rs.length c2) := HK.out.cell 2 rfl; clear hb)
      | (go_at_call 24; (with_reducible refine (Last_at (HPR.out.below HBz.out) _).mono ?_); rintro e w5 ⟨rfl, hb⟩; rw [HAB.out]; replace HBz := Aside0.mk (HBz.out.trans (Below.mono hb HBz.out.size)); replace HK := Aside0.mk (HK.out.below hb); have hk0 : World.cell? _ ⟨w.heap.size, 0, none⟩ = some (.slice A0 ms.length c0) := HK.out.cell 0 rfl; have hk1 : World.cell? _ ⟨w.heap.size, 1, none⟩ = some (.slice A1 mv.length c1) := HK.out.cell 1 rfl; have hk2 : World.cell? _ ⟨w.heap.size, 2, none⟩ = some (.slice A2 rs.length c2) := HK.out.cell 2 rfl; clear hb)
      | (go_at_call 14; (with_reducible refine (known_calls (HL.out.below HBz.out)).mono ?_); rintro e wn ⟨rfl, hb⟩; replace HBz := Aside0.mk (HBz.out.trans (Below.mono hb HBz.out.size)); clear hb))
    go_ret
    exact ⟨rfl, HBz.out⟩
  obtain ⟨a, rfl⟩ : ∃ a : Nat, arb = (a : Int) := ⟨arb.toNat, by omega⟩
  obtain ⟨hok, hfit⟩ : okB pl ms = true ∧ fitB rs pl mv = true := by simpa using HFB.out
  obtain ⟨p, q, hp9, hq9, hTL⟩ := turn_law HPB.out HOKP.out hok HLM.out hfit (show 1 ≤ a by omega) (show a ≤ ms.length by omega) (show -300 ≤ move by omega) (show move ≤ 300 by omega)
  have hmem := truth_mem HPB.out HOKP.out hok HLM.out hfit
  have hask : askE ms mv rs (inB (a : Int) 1 ms.length) = 0 := by
    unfold askE
    rw [HPB.out, HAB.out]
    simp only [Bool.and_self, if_true]
    exact if_neg (fun e => by rw [e] at hmem; simp at hmem)
  obtain ⟨M2, hM2⟩ : ∃ M2, M2 = mv ++ [move] := ⟨_, rfl⟩
  have hm2l : M2.length = mv.length + 1 := by rw [hM2]; simp
  have HOK : Aside0 (ranB ms M2 rs pl = true) := ⟨by rw [hM2]; simp [ranB, piece_on HPB.out (show mv.length < 8 by omega) (show -300 ≤ move by omega) (show move ≤ 300 by omega), show playsB ms pl = true from HYB.out, hok]⟩
  obtain ⟨-, -, -, -, hpl4, -, hrun⟩ := ran_form HOK.out
  obtain ⟨hr1, hr2⟩ := runC_on pl mv move
  obtain ⟨on, hon⟩ : ∃ on, overL (lostS a 0) (truthsL ms mv rs) = on := ⟨_, rfl⟩
  obtain ⟨bk, hbk⟩ : ∃ bk, overL (lostS a 1) (truthsL ms mv rs) = bk := ⟨_, rfl⟩
  have e0 : lostOf ms mv rs a 0 = on := by rw [lostOf, if_pos hask, Int.toNat_natCast]; exact hon
  have e1 : lostOf ms mv rs a 1 = bk := by rw [lostOf, if_pos hask, Int.toNat_natCast]; exact hbk
  rw [hon, hbk] at hTL
  have HLS : Aside0 (∀ {u : World}, Below w.heap.size w u → Calls Tryz.prog 23 #[.agg #[.slice A0 ms.length c0, .slice A1 mv.length c1, .slice A2 rs.length c2], .int .i64 (a : Int)] u fun e w' => e = .returned (.tuple #[.agg #[.int .i64 on.f0, .int .i64 on.f1], .agg #[.int .i64 bk.f0, .int .i64 bk.f1], .int .i64 0]) ∧ Below u.heap.size u w') := ⟨fun {u} hu => by
    refine (Lost_calls (HPR.out.below hu) a).mono ?_
    rintro e w' ⟨rfl, hb⟩
    rw [e0, e1, hask]
    exact ⟨rfl, hb⟩⟩
  obtain ⟨ho0, hb0', ho1, hb1', ⟨hp1, hp2, hq1, hq2⟩, hts, htf, htb⟩ := hTL
  rw [← hM2] at hr1 hr2
  rw [← hrun] at hr1 hr2
  have HR1 := Aside0.mk hr1
  have HR2 := Aside0.mk hr2
  have HP9 := Aside0.mk hp9
  have HQ9 := Aside0.mk hq9
  have HTS := Aside0.mk hts
  have HTF := Aside0.mk htf
  have HTB := Aside0.mk htb
  have HON : Aside0 (∀ {u : World} {B : Option Addr} {d : Nat}, Below w.heap.size w u → IR u B d [move] → Calls Tryz.prog 27 #[.agg #[.slice A0 ms.length c0, .slice A1 mv.length c1, .slice A2 rs.length c2], .slice B 1 d] u fun e w' =>
      (∃ Ax cx, e = .returned (.agg #[.slice A0 ms.length c0, .slice Ax M2.length cx, .slice A2 rs.length c2]) ∧ OwnR w' u.heap.size M2 (.slice Ax M2.length cx)) ∧ Below u.heap.size u w') := ⟨fun {u} {B} {d} hu hq => by
    rw [hM2]
    exact refOn_calls (mv2 := [move]) (HPR.out.below hu) hq⟩
  have hz0 : (((M2.length : Int) + 1) == 0) = false := by simp; omega
  have HM2 := Aside0.mk hM2
  have HM2L := Aside0.mk hm2l
  have hg1 : ¬ on.f0 < 0 := by omega
  have hg2 : ¬ bk.f0 < 0 := by omega
  have hg3 : ¬ on.f1 < on.f0 := by omega
  have hg4 : ¬ bk.f1 < bk.f0 := by omega
  clear hM2 hm2l hok hfit hp9 hq9 hmem hask hrun hr1 hr2 hon hbk e0 e1 hts htf htb
  go_enter Tryz.func7, Tryz.ntmps7
  go_wp2_with (first
    | (go_at_call 10; (with_reducible refine (HS0.out).mono ?_); rintro e w1 ⟨rfl, hb⟩; rw [HSS.out]; replace HBz := Aside0.mk (HBz.out.trans (Below.mono hb HBz.out.size)); replace HK := Aside0.mk (HK.out.below hb); have hk0 : World.cell? _ ⟨w.heap.size, 0, none⟩ = some (.slice A0 ms.length c0) := HK.out.cell 0 rfl; have hk1 : World.cell? _ ⟨w.heap.size, 1, none⟩ = some (.slice A1 mv.length c1) := HK.out.cell 1 rfl; have hk2 : World.cell? _ ⟨w.heap.size, 2, none⟩ = some (.slice A2 rs.length c2) := HK.out.cell 2 rfl; clear hb)
    | (go_at_call 11; (with_reducible refine (piece_at (HPR.out.below HBz.out)).mono ?_); rintro e w2 ⟨rfl, hb⟩; rw [HPB.out]; replace HBz := Aside0.mk (HBz.out.trans (Below.mono hb HBz.out.size)); replace HK := Aside0.mk (HK.out.below hb); have hk0 : World.cell? _ ⟨w.heap.size, 0, none⟩ = some (.slice A0 ms.length c0) := HK.out.cell 0 rfl; have hk1 : World.cell? _ ⟨w.heap.size, 1, none⟩ = some (.slice A1 mv.length c1) := HK.out.cell 1 rfl; have hk2 : World.cell? _ ⟨w.heap.size, 2, none⟩ = some (.slice A2 rs.length c2) := HK.out.cell 2 rfl; clear hb)
    | (go_at_call 12; (with_reducible refine (plays_at (HPR.out.below HBz.out) (HIR.out.below HBz.out)).mono ?_); rintro e w3 ⟨rfl, hb⟩; rw [HYB.out]; replace HBz := Aside0.mk (HBz.out.trans (Below.mono hb HBz.out.size)); replace HK := Aside0.mk (HK.out.below hb); have hk0 : World.cell? _ ⟨w.heap.size, 0, none⟩ = some (.slice A0 ms.length c0) := HK.out.cell 0 rfl; have hk1 : World.cell? _ ⟨w.heap.size, 1, none⟩ = some (.slice A1 mv.length c1) := HK.out.cell 1 rfl; have hk2 : World.cell? _ ⟨w.heap.size, 2, none⟩ = some (.slice A2 rs.length c2) := HK.out.cell 2 rfl; clear hb)
    | (go_at_call 26; (with_reducible refine (refFits_calls (HPR.out.below HBz.out) (HIR.out.below HBz.out) HPB.out HOKP.out HLM.out).mono ?_); rintro e w4 ⟨rfl, hb⟩; rw [HFB.out]; replace HBz := Aside0.mk (HBz.out.trans (Below.mono hb HBz.out.size)); replace HK := Aside0.mk (HK.out.below hb); have hk0 : World.cell? _ ⟨w.heap.size, 0, none⟩ = some (.slice A0 ms.length c0) := HK.out.cell 0 rfl; have hk1 : World.cell? _ ⟨w.heap.size, 1, none⟩ = some (.slice A1 mv.length c1) := HK.out.cell 1 rfl; have hk2 : World.cell? _ ⟨w.heap.size, 2, none⟩ = some (.slice A2 rs.length c2) := HK.out.cell 2 rfl; clear hb)
    | (go_at_call 24; (with_reducible refine (Last_at (HPR.out.below HBz.out) _).mono ?_); rintro e w5 ⟨rfl, hb⟩; rw [HAB.out]; replace HBz := Aside0.mk (HBz.out.trans (Below.mono hb HBz.out.size)); replace HK := Aside0.mk (HK.out.below hb); have hk0 : World.cell? _ ⟨w.heap.size, 0, none⟩ = some (.slice A0 ms.length c0) := HK.out.cell 0 rfl; have hk1 : World.cell? _ ⟨w.heap.size, 1, none⟩ = some (.slice A1 mv.length c1) := HK.out.cell 1 rfl; have hk2 : World.cell? _ ⟨w.heap.size, 2, none⟩ = some (.slice A2 rs.length c2) := HK.out.cell 2 rfl; clear hb)
    | (go_at_call 23; (with_reducible refine (HLS.out HBz.out).mono ?_); rintro e w6 ⟨rfl, hb⟩; replace HBz := Aside0.mk (HBz.out.trans (Below.mono hb HBz.out.size)); replace HK := Aside0.mk (HK.out.below hb); have hk0 : World.cell? _ ⟨w.heap.size, 0, none⟩ = some (.slice A0 ms.length c0) := HK.out.cell 0 rfl; have hk1 : World.cell? _ ⟨w.heap.size, 1, none⟩ = some (.slice A1 mv.length c1) := HK.out.cell 1 rfl; have hk2 : World.cell? _ ⟨w.heap.size, 2, none⟩ = some (.slice A2 rs.length c2) := HK.out.cell 2 rfl; have hkA0 : ∀ o o' : Obj, ((w6.alloc o).alloc o').cell? ⟨w.heap.size, 0, none⟩ = some (.slice A0 ms.length c0) := (fun o o' => pw_cell_below (below_alloc (below_alloc (Below.refl _ _) o) o') hk0); have hkA1 : ∀ o o' : Obj, ((w6.alloc o).alloc o').cell? ⟨w.heap.size, 1, none⟩ = some (.slice A1 mv.length c1) := (fun o o' => pw_cell_below (below_alloc (below_alloc (Below.refl _ _) o) o') hk1); have hkA2 : ∀ o o' : Obj, ((w6.alloc o).alloc o').cell? ⟨w.heap.size, 2, none⟩ = some (.slice A2 rs.length c2) := (fun o o' => pw_cell_below (below_alloc (below_alloc (Below.refl _ _) o) o') hk2); clear hb)
    | (go_at_call 27; (with_reducible refine (HON.out (HBz.out.trans (Below.mono (below_alloc (below_alloc (below_alloc (Below.refl _ _) _) _) _) HBz.out.size)) (one_irT2 w6 _ _ _)).mono ?_); rintro e w7 ⟨⟨Ax, cx, rfl, hown⟩, hb⟩; have HK7 := Aside0.mk ((((HK.out.alloc _).alloc _).alloc _).below hb); have HN7 := Aside0.mk ((((Blk.new w6 #[.int .i64 on.f0, .int .i64 on.f1] 44).alloc _).alloc _).below hb); have hb7 := (((Blk.new (w6.alloc (.cells #[.int .i64 on.f0, .int .i64 on.f1] 44)) #[.int .i64 bk.f0, .int .i64 bk.f1] 44).alloc _).below hb); rw [World.size_alloc] at hb7; have HN8 := Aside0.mk hb7; have HB7 := Aside0.mk (HBz.out.trans (Below.mono ((below_alloc (below_alloc (below_alloc (Below.refl _ _) _) _) _).trans (Below.mono hb (below_alloc (below_alloc (below_alloc (Below.refl _ _) _) _) _).size)) HBz.out.size)); have HO7 := Aside0.mk hown; have HP7 : Aside0 (PR w7 A0 c0 ms Ax cx M2 A2 c2 rs) := ⟨⟨Kd.C_below H.out.r0 HB7.out, (Kd.R_reads' HO7.out).2.2, Kd.C_below H.out.r2 HB7.out, H.out.c0, (Kd.R_reads' HO7.out).2.1, H.out.c2, HPR.out.l0, by rw [HM2L.out]; have := HPR.out.l1; omega, HPR.out.l2⟩⟩; clear hown hb hb7)
    | (go_at_call 15; (with_reducible refine (lawrun_calls HP7.out (HIR.out.below HB7.out) HOK.out).mono ?_); rintro e w8 ⟨⟨Ar, cr, rfl, hr, hc⟩, hb⟩; have HRr := Aside0.mk hr; have HB8 := Aside0.mk (HB7.out.trans (Below.mono hb HB7.out.size)); have HK8 := Aside0.mk (HK7.out.below hb); have HN9 := Aside0.mk (HN7.out.below hb); have HN10 := Aside0.mk (HN8.out.below hb); have hk81 := HK8.out.cell 1 rfl; have hn90 := HN9.out.cell 0 rfl; have hn91 := HN9.out.cell 1 rfl; have hn100 := HN10.out.cell 0 rfl; have hn101 := HN10.out.cell 1 rfl; clear hr hc hb))
  obtain ⟨l1, hl1⟩ : ∃ l1, movedC move pl (lastC pl mv) = l1 := ⟨_, rfl⟩
  obtain ⟨l2, hl2⟩ : ∃ l2, lastC pl mv = l2 := ⟨_, rfl⟩
  have hx1 := HR1.out
  have hx2 := HR2.out
  have hy1 := HP9.out
  have hy2 := HQ9.out
  rw [hl1] at hx1 hy1
  rw [hl2] at hx2 hy2
  have hm2l := HM2L.out
  have hal1 : a < l1.length := (List.getElem?_eq_some_iff.1 hy1).1
  have hal2 : a < l2.length := (List.getElem?_eq_some_iff.1 hy2).1
  obtain ⟨ad, Q1, d1, rfl, hcell1, hcl1, hcr1⟩ := at_row HRr.out hx1 (by omega)
  obtain ⟨ad', Q2, d2, had', hcell2, hcl2, hcr2⟩ := at_row HRr.out hx2 (by omega)
  cases had'
  obtain ⟨b1, rfl, hcp⟩ := at_int hcr1 hy1 hal1
  obtain ⟨b2, rfl, hcq⟩ := at_int hcr2 hy2 hal2
  obtain ⟨n1, hn1⟩ : ∃ n1, l1.length = n1 := ⟨_, rfl⟩
  obtain ⟨n2, hn2⟩ : ∃ n2, l2.length = n2 := ⟨_, rfl⟩
  rw [hn1] at hcell1 hal1
  rw [hn2] at hcell2 hal2
  have hcell1' : w8.cell? ⟨ad.block, ad.off + (mv.length + 1), none⟩ = some (.slice (some b1) n1 d1) := hcell1
  have hi1 : (mv.length : Int) + 1 < (M2.length : Int) + 1 := by omega
  have hi2 : (mv.length : Int) < (M2.length : Int) + 1 := by omega
  have hi3 : (mv.length : Int) + 1 < ((M2.length + 1 : Nat) : Int) := by omega
  have hi4 : (mv.length : Int) < ((M2.length + 1 : Nat) : Int) := by omega
  have hi5 : 0 ≤ (mv.length : Int) + 1 := by omega
  have hi6 : ((mv.length : Int) + 1).toNat = mv.length + 1 := by omega
  have hi7 : ¬ ((mv.length : Int) + 1 < 0) := by omega
  have hi8 : (a : Int) < (n1 : Int) := by omega
  have hi9 : (a : Int) < (n2 : Int) := by omega
  have hq0 : -9223372036854775808 ≤ (mv.length : Int) + 1 ∧ (mv.length : Int) + 1 ≤ 9223372036854775807 := by omega
  obtain ⟨d, hd⟩ : ∃ d, p - q = d := ⟨_, rfl⟩
  have hdq : -9223372036854775808 ≤ p - q ∧ p - q ≤ 9223372036854775807 := by omega
  have hTS := HTS.out
  have hTF := HTF.out
  have hTB := HTB.out
  rw [hd] at hTS hTF hTB
  have hT1 : move ≤ on.f0 → ¬ on.f1 < move := by omega
  have hT2 : move ≤ on.f0 → -move ≤ bk.f0 → ¬ bk.f1 < -move := by omega
  have hT3 : on.f1 < move → ¬ bk.f1 < -move := by omega
  have hT4 : ¬ move ≤ on.f0 → ¬ bk.f1 < -move := by omega
  have HT4' := Aside0.mk hT4
  have hnm : -9223372036854775808 ≤ -move ∧ -move ≤ 9223372036854775807 := by omega
  have HTS' := Aside0.mk hTS
  have HTF' := Aside0.mk hTF
  have HTB' := Aside0.mk hTB
  have HT1' := Aside0.mk hT1
  have HT2' := Aside0.mk hT2
  have HT3' := Aside0.mk hT3
  have HD := Aside0.mk hd
  have HNM := Aside0.mk hnm
  clear hT4 hl1 hl2 hx1 hx2 hy1 hy2 hcl1 hcr1 hcl2 hcr2 hn1 hn2 hm2l hTS hTF hTB hT1 hT2 hT3 hd hnm
  have hw1 : IntKind.i64.wrap ((mv.length : Int) + 1) = (mv.length : Int) + 1 := IntWalk.i64_in _ hq0
  have hw2 : IntKind.i64.wrap (p - q) = d := (IntWalk.i64_in _ hdq).trans HD.out
  clear hq0 hdq
  replace HBz := HB8
  go_quiet (fail)
  clear hw1 hw2
  replace HBz : Aside0 (Below w.heap.size w (w8.drewN nq)) := ⟨by repeat (first | exact HB8.out | apply pw_below_drewN)⟩
  by_cases h1 : move ≤ on.f0
  · have h3 := HT1'.out h1
    by_cases h2 : -move ≤ bk.f0
    · have h4 := HT2'.out h1 h2
      have h5 := HTS'.out h1 h2
      have h6 : (d != 0) = false := by simp [h5]
      have h7 : (d == 0) = true := by simp [h5]
      clear h5
      have hwn : IntKind.i64.wrap (-move) = -move := IntWalk.i64_in _ HNM.out
      have hwm : wrap64 (-move) = -move := (i64_w _).symm.trans hwn
      go_wp2_with (go_at_call 14; (with_reducible refine (known_calls (HL.out.below HBz.out)).mono ?_); rintro e wn ⟨rfl, hb⟩; replace HBz := Aside0.mk (HBz.out.trans (Below.mono hb HBz.out.size)); clear hb)
      go_ret
      exact ⟨rfl, HBz.out⟩
    · by_cases h4 : bk.f1 < -move
      · have h5 := HTB'.out h4
        have h6 : ¬ 0 ≤ d := by omega
        have hwn : IntKind.i64.wrap (-move) = -move := IntWalk.i64_in _ HNM.out
        have hwm : wrap64 (-move) = -move := (i64_w _).symm.trans hwn
        go_wp2_with (go_at_call 14; (with_reducible refine (known_calls (HL.out.below HBz.out)).mono ?_); rintro e wn ⟨rfl, hb⟩; replace HBz := Aside0.mk (HBz.out.trans (Below.mono hb HBz.out.size)); clear hb)
        go_ret
        exact ⟨rfl, HBz.out⟩
      · skip
        have hwn : IntKind.i64.wrap (-move) = -move := IntWalk.i64_in _ HNM.out
        have hwm : wrap64 (-move) = -move := (i64_w _).symm.trans hwn
        go_wp2_with (go_at_call 14; (with_reducible refine (known_calls (HL.out.below HBz.out)).mono ?_); rintro e wn ⟨rfl, hb⟩; replace HBz := Aside0.mk (HBz.out.trans (Below.mono hb HBz.out.size)); clear hb)
        go_ret
        exact ⟨rfl, HBz.out⟩
  · by_cases h3 : on.f1 < move
    · have h4 := HT3'.out h3
      have h5 := HTF'.out h3
      have h6 : ¬ d ≤ 0 := by omega
      have hwn : IntKind.i64.wrap (-move) = -move := IntWalk.i64_in _ HNM.out
      have hwm : wrap64 (-move) = -move := (i64_w _).symm.trans hwn
      go_wp2_with (go_at_call 14; (with_reducible refine (known_calls (HL.out.below HBz.out)).mono ?_); rintro e wn ⟨rfl, hb⟩; replace HBz := Aside0.mk (HBz.out.trans (Below.mono hb HBz.out.size)); clear hb)
      go_ret
      exact ⟨rfl, HBz.out⟩
    · have h4 : ¬ bk.f1 < -move := HT4'.out h1
      have hwn : IntKind.i64.wrap (-move) = -move := IntWalk.i64_in _ HNM.out
      have hwm : wrap64 (-move) = -move := (i64_w _).symm.trans hwn
      go_wp2_with (go_at_call 14; (with_reducible refine (known_calls (HL.out.below HBz.out)).mono ?_); rintro e wn ⟨rfl, hb⟩; replace HBz := Aside0.mk (HBz.out.trans (Below.mono hb HBz.out.size)); clear hb)
      go_ret
      exact ⟨rfl, HBz.out⟩
end
end Go.Proofs.YtaojkmalpihmbaaGreatDoor.M
