import Derived.Test.YtaojkmalpihmbaaGreatDoorB42
import Derived.Test.YtaojkmalpihmbaaGreatDoorMXH0
import Derived.Deep.QuietTactic
import Derived.BigQuiet
import Derived.Deep.RegionHeld3
import Derived.IntWalk
namespace Go.Proofs.YtaojkmalpihmbaaGreatDoor.M
open Go.RowKit Go.Proofs.YtaojkmalpihmbaaGreatDoorW.PrintWords Go.Proofs.YtaojkmalpihmbaaGreatDoorW.PrintLast Go.Proofs.YtaojkmalpihmbaaGreatDoorW.PrintMore Go.Proofs.YtaojkmalpihmbaaGreatDoor.Q
set_option linter.unusedVariables false
set_option linter.unusedSimpArgs false

/-! SlackParts. -/
attribute [local go_sem] max2_int min2_int
theorem piece_parts {ms : List S64} {mv mv' : List Int} {rs : List S66} (h : pieceB ms mv rs = true) (hl : mv'.length ≤ 8) (hm : okMv mv') : pieceB ms mv' [] = true := by
  simp only [pieceB, Bool.and_eq_true, decide_eq_true_eq, Bool.not_eq_true', anyB, List.any_eq_false] at h ⊢
  refine ⟨h.1, by omega, by simp, h.2.2.2.1, fun x hx => ?_, fun r hr => by simp at hr⟩
  have := hm x hx
  simp [moveBad, inB]
  omega
theorem two_int (w : World) (x y : Int) : Kd.C (Kd.int .i64) (w.alloc (.cells #[.int .i64 x, .int .i64 y] 3)) (some ⟨w.heap.size, 0, none⟩) 2 [x, y] := by
  have h : OwnR (w.alloc (.cells #[.int .i64 x, .int .i64 y] 3)) w.heap.size [x, y] (.slice (some ⟨w.heap.size, 0, none⟩) 2 2) :=
    Kd.R_of_own ⟨by simp [encs], .inr ⟨w.heap.size, 2, #[.int .i64 x, .int .i64 y], rfl, Nat.le_refl _, heap_alloc_new w _, by simp, by simp [maxLen], by simp, by simp [encs]⟩⟩ (fun _ _ => trivial)
  obtain ⟨A', c', he, _, hr⟩ := Kd.R_reads h
  injection he with e1 _ e3
  subst e1 e3
  exact hr
theorem grown_none {W w1 : World} (h : W.grownBy w1 (Value.slice none 0 0).ownBlock) : Below W.heap.size W w1 :=
  ⟨h.os, h.tape, h.output, h.size, fun k hk => h.block k hk (by simp [Value.ownBlock])⟩
theorem ints_drop {w : World} {a : Addr} {n k : Nat} {l : List Int} (h : Kd.C (Kd.int .i64) w (some a) n l) (hn : l.length = n) (hk : k ≤ n) {B : Option Addr} {q : Nat} (hB : k < n → B = some (a.add k)) (hq : q = n - k) : Kd.C (Kd.int .i64) w B q (l.drop k) := by
  subst hq
  refine ⟨by rw [List.length_drop, hn], by have := h.2.1; omega, fun h0 => ⟨a.add k, hB (by omega), fun j p hp => ?_⟩⟩
  obtain ⟨ad, e, hc⟩ := h.2.2 (by omega)
  cases e
  obtain ⟨c, h1, h2, h3⟩ := hc (k + j) p (by rw [List.getElem?_drop] at hp; exact hp)
  refine ⟨c, h1, h2, fun i u hu => ?_⟩
  have := h3 i u hu
  rw [Addr.add_add]
  have e1 : k + (j * (Kd.int .i64).sz + i) = (k + j) * (Kd.int .i64).sz + i := by
    show k + (j * 1 + i) = (k + j) * 1 + i
    omega
  rw [e1]
  exact this
section
variable {A0 A1 A2 : Option Addr} {c0 c1 c2 : Nat} {ms : List S64} {mv : List Int} {rs : List S66} {pl : List Int} {A : Option Addr} {c : Nat}
set_option maxHeartbeats 8000000 in
set_option maxRecDepth 100000 in
theorem parts_calls {w : World} (hw : LibW w) (h : PQ w A0 c0 ms A1 c1 mv A2 c2 rs) (hp : Kd.C (Kd.int .i64) w A pl.length pl) (hpc : pl.length ≤ c) (move part : Int) :
    Calls Tryz.prog 4 #[.agg #[.slice A0 ms.length c0, .slice A1 mv.length c1, .slice A2 rs.length c2], .slice A pl.length c, .int .i64 move, .int .i64 part] w fun e w' => e = .returned (.bool true) ∧ Below w.heap.size w w' := by
  have HP := Aside0.mk hp
  have HPC := Aside0.mk hpc
  clear hp hpc
  have HL := Aside0.mk hw
  have H := Aside0.mk h
  have hb0 := below_alloc (Below.refl w.heap.size w) (.cells #[.slice A0 ms.length c0, .slice A1 mv.length c1, .slice A2 rs.length c2] 26)
  have hk0 := Blk.new w #[.slice A0 ms.length c0, .slice A1 mv.length c1, .slice A2 rs.length c2] 26
  have HBz := Aside0.mk hb0
  have HK := Aside0.mk hk0
  have HS0 := Aside0.mk (short_at (h.below hb0))
  clear hw h hb0 hk0
  rcases hs : shortB ms mv rs with _ | _
  · have HSS := Aside0.mk hs
    clear hs
    go_enter Tryz.func4, Tryz.ntmps4
    go_wp2_with (first
      | (go_at_call 10; (with_reducible refine (HS0.out).mono ?_); rintro e w1 ⟨rfl, hb⟩; rw [HSS.out]; replace HBz := Aside0.mk (HBz.out.trans (Below.mono hb HBz.out.size)); replace HK := Aside0.mk (HK.out.below hb); have hk0 : World.cell? _ ⟨w.heap.size, 0, none⟩ = some (.slice A0 ms.length c0) := HK.out.cell 0 rfl; have hk1 : World.cell? _ ⟨w.heap.size, 1, none⟩ = some (.slice A1 mv.length c1) := HK.out.cell 1 rfl; have hk2 : World.cell? _ ⟨w.heap.size, 2, none⟩ = some (.slice A2 rs.length c2) := HK.out.cell 2 rfl; clear hb)
      | (go_at_call 14; (with_reducible refine (known_calls (HL.out.below HBz.out)).mono ?_); rintro e wn ⟨rfl, hb⟩; replace HBz := Aside0.mk (HBz.out.trans (Below.mono hb HBz.out.size)); clear hb))
    go_ret
    exact ⟨rfl, HBz.out⟩
  have HSS := Aside0.mk hs
  obtain ⟨hm6, hv10, hr8⟩ := short_len hs
  clear hs
  have HPR : Aside0 (PR w A0 c0 ms A1 c1 mv A2 c2 rs) := ⟨⟨H.out.r0, H.out.r1, H.out.r2, H.out.c0, H.out.c1, H.out.c2, by omega, by omega, by omega⟩⟩
  by_cases hp6 : ¬ (pl.length : Int) ≤ 6
  · have hp6' : (6 : Int) < (pl.length : Int) := by omega
    clear hp6
    go_enter Tryz.func4, Tryz.ntmps4
    go_wp2_with (first
      | (go_at_call 10; (with_reducible refine (HS0.out).mono ?_); rintro e w1 ⟨rfl, hb⟩; rw [HSS.out]; replace HBz := Aside0.mk (HBz.out.trans (Below.mono hb HBz.out.size)); replace HK := Aside0.mk (HK.out.below hb); have hk0 : World.cell? _ ⟨w.heap.size, 0, none⟩ = some (.slice A0 ms.length c0) := HK.out.cell 0 rfl; have hk1 : World.cell? _ ⟨w.heap.size, 1, none⟩ = some (.slice A1 mv.length c1) := HK.out.cell 1 rfl; have hk2 : World.cell? _ ⟨w.heap.size, 2, none⟩ = some (.slice A2 rs.length c2) := HK.out.cell 2 rfl; clear hb)
      | (go_at_call 14; (with_reducible refine (known_calls (HL.out.below HBz.out)).mono ?_); rintro e wn ⟨rfl, hb⟩; replace HBz := Aside0.mk (HBz.out.trans (Below.mono hb HBz.out.size)); clear hb))
    go_ret
    exact ⟨rfl, HBz.out⟩
  have hp6' : pl.length ≤ 6 := by omega
  have hp6'' : ¬ (6 : Int) < (pl.length : Int) := by omega
  clear hp6
  have HIR : Aside0 (IR w A c pl) := ⟨⟨HP.out, HPC.out, by omega⟩⟩
  rcases hs : pieceB ms mv rs with _ | _
  · have HPB := Aside0.mk hs
    clear hs
    go_enter Tryz.func4, Tryz.ntmps4
    go_wp2_with (first
      | (go_at_call 10; (with_reducible refine (HS0.out).mono ?_); rintro e w1 ⟨rfl, hb⟩; rw [HSS.out]; replace HBz := Aside0.mk (HBz.out.trans (Below.mono hb HBz.out.size)); replace HK := Aside0.mk (HK.out.below hb); have hk0 : World.cell? _ ⟨w.heap.size, 0, none⟩ = some (.slice A0 ms.length c0) := HK.out.cell 0 rfl; have hk1 : World.cell? _ ⟨w.heap.size, 1, none⟩ = some (.slice A1 mv.length c1) := HK.out.cell 1 rfl; have hk2 : World.cell? _ ⟨w.heap.size, 2, none⟩ = some (.slice A2 rs.length c2) := HK.out.cell 2 rfl; clear hb)
      | (go_at_call 11; (with_reducible refine (piece_at (HPR.out.below HBz.out)).mono ?_); rintro e w2 ⟨rfl, hb⟩; rw [HPB.out]; replace HBz := Aside0.mk (HBz.out.trans (Below.mono hb HBz.out.size)); replace HK := Aside0.mk (HK.out.below hb); have hk0 : World.cell? _ ⟨w.heap.size, 0, none⟩ = some (.slice A0 ms.length c0) := HK.out.cell 0 rfl; have hk1 : World.cell? _ ⟨w.heap.size, 1, none⟩ = some (.slice A1 mv.length c1) := HK.out.cell 1 rfl; have hk2 : World.cell? _ ⟨w.heap.size, 2, none⟩ = some (.slice A2 rs.length c2) := HK.out.cell 2 rfl; clear hb)
      | (go_at_call 14; (with_reducible refine (known_calls (HL.out.below HBz.out)).mono ?_); rintro e wn ⟨rfl, hb⟩; replace HBz := Aside0.mk (HBz.out.trans (Below.mono hb HBz.out.size)); clear hb))
    go_ret
    exact ⟨rfl, HBz.out⟩
  have HPB := Aside0.mk hs
  clear hs
  rcases hs : playsB ms pl with _ | _
  · have HYB := Aside0.mk hs
    clear hs
    go_enter Tryz.func4, Tryz.ntmps4
    go_wp2_with (first
      | (go_at_call 10; (with_reducible refine (HS0.out).mono ?_); rintro e w1 ⟨rfl, hb⟩; rw [HSS.out]; replace HBz := Aside0.mk (HBz.out.trans (Below.mono hb HBz.out.size)); replace HK := Aside0.mk (HK.out.below hb); have hk0 : World.cell? _ ⟨w.heap.size, 0, none⟩ = some (.slice A0 ms.length c0) := HK.out.cell 0 rfl; have hk1 : World.cell? _ ⟨w.heap.size, 1, none⟩ = some (.slice A1 mv.length c1) := HK.out.cell 1 rfl; have hk2 : World.cell? _ ⟨w.heap.size, 2, none⟩ = some (.slice A2 rs.length c2) := HK.out.cell 2 rfl; clear hb)
      | (go_at_call 11; (with_reducible refine (piece_at (HPR.out.below HBz.out)).mono ?_); rintro e w2 ⟨rfl, hb⟩; rw [HPB.out]; replace HBz := Aside0.mk (HBz.out.trans (Below.mono hb HBz.out.size)); replace HK := Aside0.mk (HK.out.below hb); have hk0 : World.cell? _ ⟨w.heap.size, 0, none⟩ = some (.slice A0 ms.length c0) := HK.out.cell 0 rfl; have hk1 : World.cell? _ ⟨w.heap.size, 1, none⟩ = some (.slice A1 mv.length c1) := HK.out.cell 1 rfl; have hk2 : World.cell? _ ⟨w.heap.size, 2, none⟩ = some (.slice A2 rs.length c2) := HK.out.cell 2 rfl; clear hb)
      | (go_at_call 12; (with_reducible refine (plays_at (HPR.out.below HBz.out) (HIR.out.below HBz.out)).mono ?_); rintro e w3 ⟨rfl, hb⟩; rw [HYB.out]; replace HBz := Aside0.mk (HBz.out.trans (Below.mono hb HBz.out.size)); replace HK := Aside0.mk (HK.out.below hb); have hk0 : World.cell? _ ⟨w.heap.size, 0, none⟩ = some (.slice A0 ms.length c0) := HK.out.cell 0 rfl; have hk1 : World.cell? _ ⟨w.heap.size, 1, none⟩ = some (.slice A1 mv.length c1) := HK.out.cell 1 rfl; have hk2 : World.cell? _ ⟨w.heap.size, 2, none⟩ = some (.slice A2 rs.length c2) := HK.out.cell 2 rfl; clear hb)
      | (go_at_call 14; (with_reducible refine (known_calls (HL.out.below HBz.out)).mono ?_); rintro e wn ⟨rfl, hb⟩; replace HBz := Aside0.mk (HBz.out.trans (Below.mono hb HBz.out.size)); clear hb))
    go_ret
    exact ⟨rfl, HBz.out⟩
  have HYB := Aside0.mk hs
  have HLM := Aside0.mk (plays_len hs)
  clear hs
  rcases hs : okB pl ms with _ | _
  · have HVB := Aside0.mk hs
    clear hs
    go_enter Tryz.func4, Tryz.ntmps4
    go_wp2_with (first
      | (go_at_call 10; (with_reducible refine (HS0.out).mono ?_); rintro e w1 ⟨rfl, hb⟩; rw [HSS.out]; replace HBz := Aside0.mk (HBz.out.trans (Below.mono hb HBz.out.size)); replace HK := Aside0.mk (HK.out.below hb); have hk0 : World.cell? _ ⟨w.heap.size, 0, none⟩ = some (.slice A0 ms.length c0) := HK.out.cell 0 rfl; have hk1 : World.cell? _ ⟨w.heap.size, 1, none⟩ = some (.slice A1 mv.length c1) := HK.out.cell 1 rfl; have hk2 : World.cell? _ ⟨w.heap.size, 2, none⟩ = some (.slice A2 rs.length c2) := HK.out.cell 2 rfl; clear hb)
      | (go_at_call 11; (with_reducible refine (piece_at (HPR.out.below HBz.out)).mono ?_); rintro e w2 ⟨rfl, hb⟩; rw [HPB.out]; replace HBz := Aside0.mk (HBz.out.trans (Below.mono hb HBz.out.size)); replace HK := Aside0.mk (HK.out.below hb); have hk0 : World.cell? _ ⟨w.heap.size, 0, none⟩ = some (.slice A0 ms.length c0) := HK.out.cell 0 rfl; have hk1 : World.cell? _ ⟨w.heap.size, 1, none⟩ = some (.slice A1 mv.length c1) := HK.out.cell 1 rfl; have hk2 : World.cell? _ ⟨w.heap.size, 2, none⟩ = some (.slice A2 rs.length c2) := HK.out.cell 2 rfl; clear hb)
      | (go_at_call 12; (with_reducible refine (plays_at (HPR.out.below HBz.out) (HIR.out.below HBz.out)).mono ?_); rintro e w3 ⟨rfl, hb⟩; rw [HYB.out]; replace HBz := Aside0.mk (HBz.out.trans (Below.mono hb HBz.out.size)); replace HK := Aside0.mk (HK.out.below hb); have hk0 : World.cell? _ ⟨w.heap.size, 0, none⟩ = some (.slice A0 ms.length c0) := HK.out.cell 0 rfl; have hk1 : World.cell? _ ⟨w.heap.size, 1, none⟩ = some (.slice A1 mv.length c1) := HK.out.cell 1 rfl; have hk2 : World.cell? _ ⟨w.heap.size, 2, none⟩ = some (.slice A2 rs.length c2) := HK.out.cell 2 rfl; clear hb)
      | (go_at_call 13; (with_reducible refine (within_at (HPR.out.below HBz.out) (HIR.out.below HBz.out) HLM.out).mono ?_); rintro e w4 ⟨rfl, hb⟩; rw [HVB.out]; replace HBz := Aside0.mk (HBz.out.trans (Below.mono hb HBz.out.size)); replace HK := Aside0.mk (HK.out.below hb); have hk0 : World.cell? _ ⟨w.heap.size, 0, none⟩ = some (.slice A0 ms.length c0) := HK.out.cell 0 rfl; have hk1 : World.cell? _ ⟨w.heap.size, 1, none⟩ = some (.slice A1 mv.length c1) := HK.out.cell 1 rfl; have hk2 : World.cell? _ ⟨w.heap.size, 2, none⟩ = some (.slice A2 rs.length c2) := HK.out.cell 2 rfl; clear hb)
      | (go_at_call 14; (with_reducible refine (known_calls (HL.out.below HBz.out)).mono ?_); rintro e wn ⟨rfl, hb⟩; replace HBz := Aside0.mk (HBz.out.trans (Below.mono hb HBz.out.size)); clear hb))
    go_ret
    exact ⟨rfl, HBz.out⟩
  have HVB := Aside0.mk hs
  clear hs
  have HOK : Aside0 (ranB ms mv rs pl = true) := ⟨by simp [ranB, HPB.out, HYB.out, HVB.out]⟩
  obtain ⟨hokp, -, -, hp1, hp4, hmv8, hrun⟩ := ran_form HOK.out
  have HOKP := Aside0.mk hokp
  have HRUN := Aside0.mk hrun
  clear hokp hrun
  by_cases hv8 : ¬ (mv.length : Int) < 8
  · have hv8' : (8 : Int) ≤ (mv.length : Int) := by omega
    clear hv8
    go_enter Tryz.func4, Tryz.ntmps4
    go_wp2_with (first
      | (go_at_call 10; (with_reducible refine (HS0.out).mono ?_); rintro e w1 ⟨rfl, hb⟩; rw [HSS.out]; replace HBz := Aside0.mk (HBz.out.trans (Below.mono hb HBz.out.size)); replace HK := Aside0.mk (HK.out.below hb); have hk0 : World.cell? _ ⟨w.heap.size, 0, none⟩ = some (.slice A0 ms.length c0) := HK.out.cell 0 rfl; have hk1 : World.cell? _ ⟨w.heap.size, 1, none⟩ = some (.slice A1 mv.length c1) := HK.out.cell 1 rfl; have hk2 : World.cell? _ ⟨w.heap.size, 2, none⟩ = some (.slice A2 rs.length c2) := HK.out.cell 2 rfl; clear hb)
      | (go_at_call 11; (with_reducible refine (piece_at (HPR.out.below HBz.out)).mono ?_); rintro e w2 ⟨rfl, hb⟩; rw [HPB.out]; replace HBz := Aside0.mk (HBz.out.trans (Below.mono hb HBz.out.size)); replace HK := Aside0.mk (HK.out.below hb); have hk0 : World.cell? _ ⟨w.heap.size, 0, none⟩ = some (.slice A0 ms.length c0) := HK.out.cell 0 rfl; have hk1 : World.cell? _ ⟨w.heap.size, 1, none⟩ = some (.slice A1 mv.length c1) := HK.out.cell 1 rfl; have hk2 : World.cell? _ ⟨w.heap.size, 2, none⟩ = some (.slice A2 rs.length c2) := HK.out.cell 2 rfl; clear hb)
      | (go_at_call 12; (with_reducible refine (plays_at (HPR.out.below HBz.out) (HIR.out.below HBz.out)).mono ?_); rintro e w3 ⟨rfl, hb⟩; rw [HYB.out]; replace HBz := Aside0.mk (HBz.out.trans (Below.mono hb HBz.out.size)); replace HK := Aside0.mk (HK.out.below hb); have hk0 : World.cell? _ ⟨w.heap.size, 0, none⟩ = some (.slice A0 ms.length c0) := HK.out.cell 0 rfl; have hk1 : World.cell? _ ⟨w.heap.size, 1, none⟩ = some (.slice A1 mv.length c1) := HK.out.cell 1 rfl; have hk2 : World.cell? _ ⟨w.heap.size, 2, none⟩ = some (.slice A2 rs.length c2) := HK.out.cell 2 rfl; clear hb)
      | (go_at_call 13; (with_reducible refine (within_at (HPR.out.below HBz.out) (HIR.out.below HBz.out) HLM.out).mono ?_); rintro e w4 ⟨rfl, hb⟩; rw [HVB.out]; replace HBz := Aside0.mk (HBz.out.trans (Below.mono hb HBz.out.size)); replace HK := Aside0.mk (HK.out.below hb); have hk0 : World.cell? _ ⟨w.heap.size, 0, none⟩ = some (.slice A0 ms.length c0) := HK.out.cell 0 rfl; have hk1 : World.cell? _ ⟨w.heap.size, 1, none⟩ = some (.slice A1 mv.length c1) := HK.out.cell 1 rfl; have hk2 : World.cell? _ ⟨w.heap.size, 2, none⟩ = some (.slice A2 rs.length c2) := HK.out.cell 2 rfl; clear hb)
      | (go_at_call 14; (with_reducible refine (known_calls (HL.out.below HBz.out)).mono ?_); rintro e wn ⟨rfl, hb⟩; replace HBz := Aside0.mk (HBz.out.trans (Below.mono hb HBz.out.size)); clear hb))
    go_ret
    exact ⟨rfl, HBz.out⟩
  have hv8' : ¬ (8 : Int) ≤ (mv.length : Int) := by omega
  clear hv8
  by_cases hm0 : move < 0
  · skip
    go_enter Tryz.func4, Tryz.ntmps4
    go_wp2_with (first
      | (go_at_call 10; (with_reducible refine (HS0.out).mono ?_); rintro e w1 ⟨rfl, hb⟩; rw [HSS.out]; replace HBz := Aside0.mk (HBz.out.trans (Below.mono hb HBz.out.size)); replace HK := Aside0.mk (HK.out.below hb); have hk0 : World.cell? _ ⟨w.heap.size, 0, none⟩ = some (.slice A0 ms.length c0) := HK.out.cell 0 rfl; have hk1 : World.cell? _ ⟨w.heap.size, 1, none⟩ = some (.slice A1 mv.length c1) := HK.out.cell 1 rfl; have hk2 : World.cell? _ ⟨w.heap.size, 2, none⟩ = some (.slice A2 rs.length c2) := HK.out.cell 2 rfl; clear hb)
      | (go_at_call 11; (with_reducible refine (piece_at (HPR.out.below HBz.out)).mono ?_); rintro e w2 ⟨rfl, hb⟩; rw [HPB.out]; replace HBz := Aside0.mk (HBz.out.trans (Below.mono hb HBz.out.size)); replace HK := Aside0.mk (HK.out.below hb); have hk0 : World.cell? _ ⟨w.heap.size, 0, none⟩ = some (.slice A0 ms.length c0) := HK.out.cell 0 rfl; have hk1 : World.cell? _ ⟨w.heap.size, 1, none⟩ = some (.slice A1 mv.length c1) := HK.out.cell 1 rfl; have hk2 : World.cell? _ ⟨w.heap.size, 2, none⟩ = some (.slice A2 rs.length c2) := HK.out.cell 2 rfl; clear hb)
      | (go_at_call 12; (with_reducible refine (plays_at (HPR.out.below HBz.out) (HIR.out.below HBz.out)).mono ?_); rintro e w3 ⟨rfl, hb⟩; rw [HYB.out]; replace HBz := Aside0.mk (HBz.out.trans (Below.mono hb HBz.out.size)); replace HK := Aside0.mk (HK.out.below hb); have hk0 : World.cell? _ ⟨w.heap.size, 0, none⟩ = some (.slice A0 ms.length c0) := HK.out.cell 0 rfl; have hk1 : World.cell? _ ⟨w.heap.size, 1, none⟩ = some (.slice A1 mv.length c1) := HK.out.cell 1 rfl; have hk2 : World.cell? _ ⟨w.heap.size, 2, none⟩ = some (.slice A2 rs.length c2) := HK.out.cell 2 rfl; clear hb)
      | (go_at_call 13; (with_reducible refine (within_at (HPR.out.below HBz.out) (HIR.out.below HBz.out) HLM.out).mono ?_); rintro e w4 ⟨rfl, hb⟩; rw [HVB.out]; replace HBz := Aside0.mk (HBz.out.trans (Below.mono hb HBz.out.size)); replace HK := Aside0.mk (HK.out.below hb); have hk0 : World.cell? _ ⟨w.heap.size, 0, none⟩ = some (.slice A0 ms.length c0) := HK.out.cell 0 rfl; have hk1 : World.cell? _ ⟨w.heap.size, 1, none⟩ = some (.slice A1 mv.length c1) := HK.out.cell 1 rfl; have hk2 : World.cell? _ ⟨w.heap.size, 2, none⟩ = some (.slice A2 rs.length c2) := HK.out.cell 2 rfl; clear hb)
      | (go_at_call 14; (with_reducible refine (known_calls (HL.out.below HBz.out)).mono ?_); rintro e wn ⟨rfl, hb⟩; replace HBz := Aside0.mk (HBz.out.trans (Below.mono hb HBz.out.size)); clear hb))
    go_ret
    exact ⟨rfl, HBz.out⟩
  by_cases hml : (mv.length : Int) ≤ move
  · skip
    go_enter Tryz.func4, Tryz.ntmps4
    go_wp2_with (first
      | (go_at_call 10; (with_reducible refine (HS0.out).mono ?_); rintro e w1 ⟨rfl, hb⟩; rw [HSS.out]; replace HBz := Aside0.mk (HBz.out.trans (Below.mono hb HBz.out.size)); replace HK := Aside0.mk (HK.out.below hb); have hk0 : World.cell? _ ⟨w.heap.size, 0, none⟩ = some (.slice A0 ms.length c0) := HK.out.cell 0 rfl; have hk1 : World.cell? _ ⟨w.heap.size, 1, none⟩ = some (.slice A1 mv.length c1) := HK.out.cell 1 rfl; have hk2 : World.cell? _ ⟨w.heap.size, 2, none⟩ = some (.slice A2 rs.length c2) := HK.out.cell 2 rfl; clear hb)
      | (go_at_call 11; (with_reducible refine (piece_at (HPR.out.below HBz.out)).mono ?_); rintro e w2 ⟨rfl, hb⟩; rw [HPB.out]; replace HBz := Aside0.mk (HBz.out.trans (Below.mono hb HBz.out.size)); replace HK := Aside0.mk (HK.out.below hb); have hk0 : World.cell? _ ⟨w.heap.size, 0, none⟩ = some (.slice A0 ms.length c0) := HK.out.cell 0 rfl; have hk1 : World.cell? _ ⟨w.heap.size, 1, none⟩ = some (.slice A1 mv.length c1) := HK.out.cell 1 rfl; have hk2 : World.cell? _ ⟨w.heap.size, 2, none⟩ = some (.slice A2 rs.length c2) := HK.out.cell 2 rfl; clear hb)
      | (go_at_call 12; (with_reducible refine (plays_at (HPR.out.below HBz.out) (HIR.out.below HBz.out)).mono ?_); rintro e w3 ⟨rfl, hb⟩; rw [HYB.out]; replace HBz := Aside0.mk (HBz.out.trans (Below.mono hb HBz.out.size)); replace HK := Aside0.mk (HK.out.below hb); have hk0 : World.cell? _ ⟨w.heap.size, 0, none⟩ = some (.slice A0 ms.length c0) := HK.out.cell 0 rfl; have hk1 : World.cell? _ ⟨w.heap.size, 1, none⟩ = some (.slice A1 mv.length c1) := HK.out.cell 1 rfl; have hk2 : World.cell? _ ⟨w.heap.size, 2, none⟩ = some (.slice A2 rs.length c2) := HK.out.cell 2 rfl; clear hb)
      | (go_at_call 13; (with_reducible refine (within_at (HPR.out.below HBz.out) (HIR.out.below HBz.out) HLM.out).mono ?_); rintro e w4 ⟨rfl, hb⟩; rw [HVB.out]; replace HBz := Aside0.mk (HBz.out.trans (Below.mono hb HBz.out.size)); replace HK := Aside0.mk (HK.out.below hb); have hk0 : World.cell? _ ⟨w.heap.size, 0, none⟩ = some (.slice A0 ms.length c0) := HK.out.cell 0 rfl; have hk1 : World.cell? _ ⟨w.heap.size, 1, none⟩ = some (.slice A1 mv.length c1) := HK.out.cell 1 rfl; have hk2 : World.cell? _ ⟨w.heap.size, 2, none⟩ = some (.slice A2 rs.length c2) := HK.out.cell 2 rfl; clear hb)
      | (go_at_call 14; (with_reducible refine (known_calls (HL.out.below HBz.out)).mono ?_); rintro e wn ⟨rfl, hb⟩; replace HBz := Aside0.mk (HBz.out.trans (Below.mono hb HBz.out.size)); clear hb))
    go_ret
    exact ⟨rfl, HBz.out⟩
  obtain ⟨i, rfl⟩ : ∃ i : Nat, move = (i : Int) := ⟨move.toNat, by omega⟩
  have hi : i < mv.length := by omega
  obtain ⟨m, hmi⟩ : ∃ m, mv[i]? = some m := ⟨_, List.getElem?_eq_getElem hi⟩
  have HMI := Aside0.mk hmi
  have hmb := piece_okMv HPB.out m (List.mem_of_getElem? hmi)
  obtain ⟨a1, ha1, hc1⟩ := at_int H.out.r1 hmi hi
  subst ha1
  clear hmi
  have HC1 := Aside0.mk hc1
  clear hc1
  obtain ⟨lo, hlo⟩ : ∃ lo, (if m < 0 then m else 0) = lo := ⟨_, rfl⟩
  obtain ⟨hi', hhi⟩ : ∃ hi', (if 0 < m then m else 0) = hi' := ⟨_, rfl⟩
  have hlo' : min 0 m = lo := by rw [← hlo]; split <;> omega
  have hhi' : max 0 m = hi' := by rw [← hhi]; split <;> omega
  have HLO := Aside0.mk hlo'
  have HHI := Aside0.mk hhi'
  clear hlo' hhi'
  by_cases hpa : part < lo
  · skip
    go_enter Tryz.func4, Tryz.ntmps4
    go_wp2_with (first
      | (go_at_call 10; (with_reducible refine (HS0.out).mono ?_); rintro e w1 ⟨rfl, hb⟩; rw [HSS.out]; replace HBz := Aside0.mk (HBz.out.trans (Below.mono hb HBz.out.size)); replace HK := Aside0.mk (HK.out.below hb); have hk0 : World.cell? _ ⟨w.heap.size, 0, none⟩ = some (.slice A0 ms.length c0) := HK.out.cell 0 rfl; have hk1 : World.cell? _ ⟨w.heap.size, 1, none⟩ = some (.slice (some a1) mv.length c1) := HK.out.cell 1 rfl; have hk2 : World.cell? _ ⟨w.heap.size, 2, none⟩ = some (.slice A2 rs.length c2) := HK.out.cell 2 rfl; clear hb)
      | (go_at_call 11; (with_reducible refine (piece_at (HPR.out.below HBz.out)).mono ?_); rintro e w2 ⟨rfl, hb⟩; rw [HPB.out]; replace HBz := Aside0.mk (HBz.out.trans (Below.mono hb HBz.out.size)); replace HK := Aside0.mk (HK.out.below hb); have hk0 : World.cell? _ ⟨w.heap.size, 0, none⟩ = some (.slice A0 ms.length c0) := HK.out.cell 0 rfl; have hk1 : World.cell? _ ⟨w.heap.size, 1, none⟩ = some (.slice (some a1) mv.length c1) := HK.out.cell 1 rfl; have hk2 : World.cell? _ ⟨w.heap.size, 2, none⟩ = some (.slice A2 rs.length c2) := HK.out.cell 2 rfl; clear hb)
      | (go_at_call 12; (with_reducible refine (plays_at (HPR.out.below HBz.out) (HIR.out.below HBz.out)).mono ?_); rintro e w3 ⟨rfl, hb⟩; rw [HYB.out]; replace HBz := Aside0.mk (HBz.out.trans (Below.mono hb HBz.out.size)); replace HK := Aside0.mk (HK.out.below hb); have hk0 : World.cell? _ ⟨w.heap.size, 0, none⟩ = some (.slice A0 ms.length c0) := HK.out.cell 0 rfl; have hk1 : World.cell? _ ⟨w.heap.size, 1, none⟩ = some (.slice (some a1) mv.length c1) := HK.out.cell 1 rfl; have hk2 : World.cell? _ ⟨w.heap.size, 2, none⟩ = some (.slice A2 rs.length c2) := HK.out.cell 2 rfl; clear hb)
      | (go_at_call 13; (with_reducible refine (within_at (HPR.out.below HBz.out) (HIR.out.below HBz.out) HLM.out).mono ?_); rintro e w4 ⟨rfl, hb⟩; rw [HVB.out]; replace HBz := Aside0.mk (HBz.out.trans (Below.mono hb HBz.out.size)); replace HK := Aside0.mk (HK.out.below hb); have hk0 : World.cell? _ ⟨w.heap.size, 0, none⟩ = some (.slice A0 ms.length c0) := HK.out.cell 0 rfl; have hk1 : World.cell? _ ⟨w.heap.size, 1, none⟩ = some (.slice (some a1) mv.length c1) := HK.out.cell 1 rfl; have hk2 : World.cell? _ ⟨w.heap.size, 2, none⟩ = some (.slice A2 rs.length c2) := HK.out.cell 2 rfl; have hci : World.cell? _ (a1.add i) = some (.int .i64 m) := pw_cell_below HBz.out HC1.out; clear hb)
      | (go_at_call 14; (with_reducible refine (known_calls (HL.out.below HBz.out)).mono ?_); rintro e wn ⟨rfl, hb⟩; replace HBz := Aside0.mk (HBz.out.trans (Below.mono hb HBz.out.size)); clear hb))
    go_ret
    exact ⟨rfl, HBz.out⟩
  by_cases hpb : hi' < part
  · skip
    go_enter Tryz.func4, Tryz.ntmps4
    go_wp2_with (first
      | (go_at_call 10; (with_reducible refine (HS0.out).mono ?_); rintro e w1 ⟨rfl, hb⟩; rw [HSS.out]; replace HBz := Aside0.mk (HBz.out.trans (Below.mono hb HBz.out.size)); replace HK := Aside0.mk (HK.out.below hb); have hk0 : World.cell? _ ⟨w.heap.size, 0, none⟩ = some (.slice A0 ms.length c0) := HK.out.cell 0 rfl; have hk1 : World.cell? _ ⟨w.heap.size, 1, none⟩ = some (.slice (some a1) mv.length c1) := HK.out.cell 1 rfl; have hk2 : World.cell? _ ⟨w.heap.size, 2, none⟩ = some (.slice A2 rs.length c2) := HK.out.cell 2 rfl; clear hb)
      | (go_at_call 11; (with_reducible refine (piece_at (HPR.out.below HBz.out)).mono ?_); rintro e w2 ⟨rfl, hb⟩; rw [HPB.out]; replace HBz := Aside0.mk (HBz.out.trans (Below.mono hb HBz.out.size)); replace HK := Aside0.mk (HK.out.below hb); have hk0 : World.cell? _ ⟨w.heap.size, 0, none⟩ = some (.slice A0 ms.length c0) := HK.out.cell 0 rfl; have hk1 : World.cell? _ ⟨w.heap.size, 1, none⟩ = some (.slice (some a1) mv.length c1) := HK.out.cell 1 rfl; have hk2 : World.cell? _ ⟨w.heap.size, 2, none⟩ = some (.slice A2 rs.length c2) := HK.out.cell 2 rfl; clear hb)
      | (go_at_call 12; (with_reducible refine (plays_at (HPR.out.below HBz.out) (HIR.out.below HBz.out)).mono ?_); rintro e w3 ⟨rfl, hb⟩; rw [HYB.out]; replace HBz := Aside0.mk (HBz.out.trans (Below.mono hb HBz.out.size)); replace HK := Aside0.mk (HK.out.below hb); have hk0 : World.cell? _ ⟨w.heap.size, 0, none⟩ = some (.slice A0 ms.length c0) := HK.out.cell 0 rfl; have hk1 : World.cell? _ ⟨w.heap.size, 1, none⟩ = some (.slice (some a1) mv.length c1) := HK.out.cell 1 rfl; have hk2 : World.cell? _ ⟨w.heap.size, 2, none⟩ = some (.slice A2 rs.length c2) := HK.out.cell 2 rfl; clear hb)
      | (go_at_call 13; (with_reducible refine (within_at (HPR.out.below HBz.out) (HIR.out.below HBz.out) HLM.out).mono ?_); rintro e w4 ⟨rfl, hb⟩; rw [HVB.out]; replace HBz := Aside0.mk (HBz.out.trans (Below.mono hb HBz.out.size)); replace HK := Aside0.mk (HK.out.below hb); have hk0 : World.cell? _ ⟨w.heap.size, 0, none⟩ = some (.slice A0 ms.length c0) := HK.out.cell 0 rfl; have hk1 : World.cell? _ ⟨w.heap.size, 1, none⟩ = some (.slice (some a1) mv.length c1) := HK.out.cell 1 rfl; have hk2 : World.cell? _ ⟨w.heap.size, 2, none⟩ = some (.slice A2 rs.length c2) := HK.out.cell 2 rfl; have hci : World.cell? _ (a1.add i) = some (.int .i64 m) := pw_cell_below HBz.out HC1.out; clear hb)
      | (go_at_call 14; (with_reducible refine (known_calls (HL.out.below HBz.out)).mono ?_); rintro e wn ⟨rfl, hb⟩; replace HBz := Aside0.mk (HBz.out.trans (Below.mono hb HBz.out.size)); clear hb))
    go_ret
    exact ⟨rfl, HBz.out⟩
  go_enter Tryz.func4, Tryz.ntmps4
  go_wp2_with (first
    | (go_at_call 10; (with_reducible refine (HS0.out).mono ?_); rintro e w1 ⟨rfl, hb⟩; rw [HSS.out]; replace HBz := Aside0.mk (HBz.out.trans (Below.mono hb HBz.out.size)); replace HK := Aside0.mk (HK.out.below hb); have hk0 : World.cell? _ ⟨w.heap.size, 0, none⟩ = some (.slice A0 ms.length c0) := HK.out.cell 0 rfl; have hk1 : World.cell? _ ⟨w.heap.size, 1, none⟩ = some (.slice (some a1) mv.length c1) := HK.out.cell 1 rfl; have hk2 : World.cell? _ ⟨w.heap.size, 2, none⟩ = some (.slice A2 rs.length c2) := HK.out.cell 2 rfl; clear hb)
    | (go_at_call 11; (with_reducible refine (piece_at (HPR.out.below HBz.out)).mono ?_); rintro e w2 ⟨rfl, hb⟩; rw [HPB.out]; replace HBz := Aside0.mk (HBz.out.trans (Below.mono hb HBz.out.size)); replace HK := Aside0.mk (HK.out.below hb); have hk0 : World.cell? _ ⟨w.heap.size, 0, none⟩ = some (.slice A0 ms.length c0) := HK.out.cell 0 rfl; have hk1 : World.cell? _ ⟨w.heap.size, 1, none⟩ = some (.slice (some a1) mv.length c1) := HK.out.cell 1 rfl; have hk2 : World.cell? _ ⟨w.heap.size, 2, none⟩ = some (.slice A2 rs.length c2) := HK.out.cell 2 rfl; clear hb)
    | (go_at_call 12; (with_reducible refine (plays_at (HPR.out.below HBz.out) (HIR.out.below HBz.out)).mono ?_); rintro e w3 ⟨rfl, hb⟩; rw [HYB.out]; replace HBz := Aside0.mk (HBz.out.trans (Below.mono hb HBz.out.size)); replace HK := Aside0.mk (HK.out.below hb); have hk0 : World.cell? _ ⟨w.heap.size, 0, none⟩ = some (.slice A0 ms.length c0) := HK.out.cell 0 rfl; have hk1 : World.cell? _ ⟨w.heap.size, 1, none⟩ = some (.slice (some a1) mv.length c1) := HK.out.cell 1 rfl; have hk2 : World.cell? _ ⟨w.heap.size, 2, none⟩ = some (.slice A2 rs.length c2) := HK.out.cell 2 rfl; clear hb)
    | (go_at_call 13; (with_reducible refine (within_at (HPR.out.below HBz.out) (HIR.out.below HBz.out) HLM.out).mono ?_); rintro e w4 ⟨rfl, hb⟩; rw [HVB.out]; replace HBz := Aside0.mk (HBz.out.trans (Below.mono hb HBz.out.size)); replace HK := Aside0.mk (HK.out.below hb); have hk0 : World.cell? _ ⟨w.heap.size, 0, none⟩ = some (.slice A0 ms.length c0) := HK.out.cell 0 rfl; have hk1 : World.cell? _ ⟨w.heap.size, 1, none⟩ = some (.slice (some a1) mv.length c1) := HK.out.cell 1 rfl; have hk2 : World.cell? _ ⟨w.heap.size, 2, none⟩ = some (.slice A2 rs.length c2) := HK.out.cell 2 rfl; have hci : World.cell? _ (a1.add i) = some (.int .i64 m) := pw_cell_below HBz.out HC1.out; clear hb))
  have HBw := Aside0.mk (below_alloc HBz.out (.cells #[.slice A0 ms.length c0, .slice (some a1) mv.length c1, .slice none 0 0] 26))
  have HKw := Aside0.mk (HK.out.alloc (.cells #[.slice A0 ms.length c0, .slice (some a1) mv.length c1, .slice none 0 0] 26))
  have HXw := Aside0.mk (Blk.new w4 #[.slice A0 ms.length c0, .slice (some a1) mv.length c1, .slice none 0 0] 26)
  have hxsz := World.size_alloc w4 (.cells #[.slice A0 ms.length c0, .slice (some a1) mv.length c1, .slice none 0 0] 26)
  obtain ⟨xb, hxb⟩ : ∃ xb, w4.heap.size = xb := ⟨_, rfl⟩
  obtain ⟨W0, hW0⟩ : ∃ W0, w4.alloc (.cells #[.slice A0 ms.length c0, .slice (some a1) mv.length c1, .slice none 0 0] 26) = W0 := ⟨_, rfl⟩
  rw [hW0] at HBw HKw HXw hxsz ⊢
  rw [hxb] at HXw hxsz ⊢
  have hxw : w.heap.size < xb := by rw [← hxb]; exact HK.out.lt
  have HXS := Aside0.mk hxsz
  clear hW0 hxb hk0 hk1 hk2 hci hxsz
  have hq1 := HKw.out.cell 1 rfl
  have HQ1 := Aside0.mk hq1
  have HM0 := Aside0.mk (Kd.C_below H.out.r1 HBw.out)
  have hd1 : IntKind.i64.wrap (m - part) = m - part := IntWalk.i64_in _ (by have := HLO.out; have := HHI.out; omega)
  have hd2 : IntKind.i64.wrap ((i : Int) + 1) = (i : Int) + 1 := IntWalk.i64_in _ (by omega)
  have hs1 : (i : Int) ≤ (mv.length : Int) := by omega
  have hs2 : (i : Int) + 1 ≤ (mv.length : Int) := by omega
  have hs3 : 0 ≤ (i : Int) + 1 := by omega
  have hs4 : ((i : Int) + 1).toNat = i + 1 := by omega
  have hc1' := H.out.c1
  have hs5 : (i : Int) ≤ (c1 : Int) := by omega
  have hs6 : (mv.length : Int) ≤ (c1 : Int) := by omega
  have hs7 : ¬ ((i : Int) + 1 < 0) := by omega
  have htl : (mv.take i).length = i := by rw [List.length_take]; omega
  have hta := Kd.C_take HM0.out (show i ≤ mv.length by omega)
  rw [htl] at hta
  obtain ⟨A9, hA9⟩ : ∃ A9, (if c1 = i + 1 then some a1 else some (⟨a1.block, a1.off + (i + 1), none⟩ : Addr)) = A9 := ⟨_, rfl⟩
  have HA9 : Aside0 (i + 1 < mv.length → A9 = some (a1.add (i + 1))) := ⟨fun h => by rw [← hA9, if_neg (by omega)]; rfl⟩
  obtain ⟨P1, hP1⟩ : ∃ P1, P1 = mv.take i := ⟨_, rfl⟩
  obtain ⟨P2, hP2⟩ : ∃ P2, P2 = P1 ++ [part, m - part] := ⟨_, rfl⟩
  obtain ⟨P3, hP3⟩ : ∃ P3, P3 = P2 ++ mv.drop (i + 1) := ⟨_, rfl⟩
  have hgm : mv.getD i 0 = m := by rw [List.getD_eq_getElem?_getD, HMI.out]; rfl
  have hPL : P3 = partedL mv i part := by rw [hP3, hP2, hP1, partedL, hgm]; simp
  rw [← hP1] at hta htl
  have HTA := Aside0.mk hta
  have HTL := Aside0.mk htl
  have HT2 : Aside0 (P2.length = i + 2) := ⟨by rw [hP2, List.length_append, htl]; rfl⟩
  have HP1 := Aside0.mk hP1
  have HP2 := Aside0.mk hP2
  have HP3 := Aside0.mk hP3
  have HPL := Aside0.mk hPL
  clear hta htl hgm hPL hP1 hP2 hP3
  go_cut [92] (fun s wx => ∃ (Ax : Option Addr) (cx : Nat), Aside0 (Blk wx xb #[.slice A0 ms.length c0, .slice Ax P3.length cx, .slice none 0 0] 26) ∧ Aside0 (OwnR wx (xb + 1) P3 (.slice Ax P3.length cx)) ∧ Aside0 (Below w.heap.size w wx) ∧ Aside0 (Blk wx w.heap.size #[.slice A0 ms.length c0, .slice (some a1) mv.length c1, .slice A2 rs.length c2] 26))
  case first =>
    go_region_held3 (fun w' => w'.cell? ⟨w.heap.size, 1, none⟩ = some (.slice (some a1) mv.length c1)) (first | go_keep | (exact set_far (pw_cell_below HB3.out HQ1.out) (by show w.heap.size ≠ xb; omega)) | (exact pw_cell_below HB3.out HQ1.out) | (exact pw_cell_below HB2.out HQ1.out) | (exact pw_cell_below HB1.out HQ1.out)) (first | (refine Kd.R_append_rows_step (Kd.int .i64) (Rr := fun x cs => cs = [Value.int .i64 x]) (w0 := W0) W0.heap.size (by rfl) (.const (.slice none 0 0)) (.tmp 79) 23 3 (.int .i64 0) 8 (by rfl) Tryz.underlying23 info3 rfl (by decide) (by decide) (.slice none 0 0) [] P1 _ i c1 (fun _ => True) (fun _ => False) (by rfl) (by rfl) ?HO ?HR (fun _ _ h => h) (fun _ h => h.elim) (fun _ _ => trivial) ?HB ?hb ?hl ?_; (case HO => exact Kd.R_nil _ _ _ _ _); (case HR => refine Kd.C_below HTA.out ?_; (repeat (first | exact Below.refl _ _ | apply below_alloc | apply below_drew1))); (case HB => (repeat (first | exact Below.refl _ _ | apply below_alloc | apply below_drew1))); (case hb => (simp; done)); (case hl => (simp; omega)); intro v1 w1 hr1 hb1 hg1 _; rw [List.nil_append] at hr1; obtain ⟨B1, d1, rfl⟩ := Kd.R_slice hr1; have HR1 : Aside0 (OwnR w1 W0.heap.size P1 (.slice B1 P1.length d1)) := ⟨hr1⟩; have HB1 := Aside0.mk hb1; have HG1 := Aside0.mk (grown_none hg1); clear hr1 hb1 hg1) | (refine Kd.R_append_rows_step (Kd.int .i64) (Rr := fun x cs => cs = [Value.int .i64 x]) (w0 := W0) W0.heap.size (by rfl) (.tmp 80) (.tmp 85) 23 3 (.int .i64 0) 8 (by rfl) Tryz.underlying23 info3 rfl (by decide) (by decide) (.slice B1 P1.length d1) P1 [part, m - part] _ 2 2 (fun _ => True) (fun _ => False) (by rfl) (by rfl) ?HO ?HR (fun _ _ h => h) (fun _ h => h.elim) (fun _ _ => trivial) ?HB ?hb ?hl ?_; (case HO => first | exact HR1.out | exact Kd.R_below HR1.out (below_alloc (Below.refl _ _) _)); (case HR => first | exact two_int _ _ _ | exact Kd.C_drew (two_int _ _ _) | exact Kd.C_below (two_int _ _ _) HG1.out | exact Kd.C_below (Kd.C_drew (two_int _ _ _)) HG1.out); (case HB => first | exact HB1.out | exact below_alloc HB1.out _); (case hb => first | exact below_size HB1.out | exact below_size (below_alloc HB1.out _)); (case hl => rw [HTL.out]; omega); intro v2 w2 hr2 hb2 hg2 _; rw [← HP2.out] at hr2; obtain ⟨B2, d2, rfl⟩ := Kd.R_slice hr2; have HR2 : Aside0 (OwnR w2 W0.heap.size P2 (.slice B2 P2.length d2)) := ⟨hr2⟩; have HB2 := Aside0.mk hb2; clear hr2 hb2 hg2) | (refine Kd.R_append_rows_step (Kd.int .i64) (Rr := fun x cs => cs = [Value.int .i64 x]) (w0 := W0) W0.heap.size (by rfl) (.tmp 86) (.tmp 91) 23 3 (.int .i64 0) 8 (by rfl) Tryz.underlying23 info3 rfl (by decide) (by decide) (.slice B2 P2.length d2) P2 (mv.drop (i + 1)) _ _ _ (fun _ => True) (fun _ => False) (by rfl) (by rfl) ?HO ?HR (fun _ _ h => h) (fun _ h => h.elim) (fun _ _ => trivial) ?HB ?hb ?hl ?_; (case HO => first | exact HR2.out | exact Kd.R_below HR2.out (below_alloc (Below.refl _ _) _)); (case HR => exact ints_drop (Kd.C_below HM0.out (by first | exact HB2.out | exact below_alloc HB2.out _)) rfl (by omega) HA9.out rfl); (case HB => first | exact HB2.out | exact below_alloc HB2.out _); (case hb => first | exact below_size HB2.out | exact below_size (below_alloc HB2.out _)); (case hl => rw [HT2.out]; omega); intro v3 w3 hr3 hb3 hg3 _; rw [← HP3.out] at hr3; obtain ⟨B3, d3, rfl⟩ := Kd.R_slice hr3; have HR3 := Aside0.mk hr3; have HB3 := Aside0.mk hb3; have hxk := (HXw.out.below hb3).cell 1 rfl; have hxf := (HXw.out.below hb3).free 1; clear hr3 hb3 hg3) | fail)
    all_goals (go_wp2_with fail; go_meet)
    all_goals exact ⟨B3, d3, ⟨(HXw.out.below HB3.out).put 1 _ rfl⟩, ⟨OwnR.under (Kd.R_lower HR3.out (by rw [HXS.out]; omega)) (by show xb < xb + 1; omega) _⟩, ⟨below_set (HBw.out.trans (Below.mono HB3.out HBw.out.size)) (Nat.le_of_lt hxw)⟩, ⟨(Below.heap_setCell w3 ⟨xb, 1, none⟩ _ w.heap.size (Nat.ne_of_lt hxw)).trans (HKw.out.below HB3.out)⟩⟩
  case rest =>
    obtain ⟨Ax, cx, HX, HO, HBy, HKy⟩ := hcut
    obtain ⟨wx, rfl⟩ : ∃ wx : World, wx = wc := ⟨_, rfl⟩
    have hby := HBy.out
    have hmb := piece_okMv HPB.out
    have hpo := parted_ok hmb HMI.out (by have := HLO.out; omega) (by have := HHI.out; omega)
    have hpn := parted_length (mv := mv) part hi
    rw [← HPL.out] at hpo hpn
    have HPO := Aside0.mk hpo
    have HPN := Aside0.mk hpn
    have hp8 : P3.length ≤ 8 := by omega
    have HOKx : Aside0 (ranB ms P3 [] pl = true) := ⟨by simp [ranB, piece_parts HPB.out hp8 hpo, HVB.out, show playsB ms pl = true from HYB.out]⟩
    obtain ⟨Hg1, Hg2, Hg3⟩ := Kd.R_reads' HO.out
    have HPRx : Aside0 (PR wx A0 c0 ms Ax cx P3 none 0 []) := ⟨⟨Kd.C_below H.out.r0 hby, Hg3, Kd.C_nil _ _, H.out.c0, Hg2, Nat.le_refl _, by omega, by omega, by simp⟩⟩
    have HRA : Aside0 (∀ {u : World}, Below wx.heap.size wx u → Calls Tryz.prog 15 #[.agg #[.slice A0 ms.length c0, .slice (some a1) mv.length c1, .slice A2 rs.length c2], .slice A pl.length c] u fun e w' => (∃ A' c', e = .returned (.slice A' (mv.length + 1) c') ∧ Kd.C kLists w' A' (mv.length + 1) (runL pl mv) ∧ mv.length + 1 ≤ c') ∧ Below u.heap.size u w') :=
      ⟨fun {u} hu => lawrun_calls ((HPR.out.below hby).below hu) ((HIR.out.below hby).below hu) HOK.out⟩
    have HRB : Aside0 (∀ {u : World}, Below wx.heap.size wx u → Calls Tryz.prog 15 #[.agg #[.slice A0 ms.length c0, .slice Ax P3.length cx, .slice none 0 0], .slice A pl.length c] u fun e w' => (∃ A' c', e = .returned (.slice A' (P3.length + 1) c') ∧ Kd.C kLists w' A' (P3.length + 1) (runL pl P3) ∧ P3.length + 1 ≤ c') ∧ Below u.heap.size u w') :=
      ⟨fun {u} hu => lawrun_calls (HPRx.out.below hu) ((HIR.out.below hby).below hu) HOKx.out⟩
    have ha0 := HKy.out.cell 0 rfl
    have ha1 := HKy.out.cell 1 rfl
    have ha2 := HKy.out.cell 2 rfl
    have hb0 := HX.out.cell 0 rfl
    have hb1 := HX.out.cell 1 rfl
    have hb2 := HX.out.cell 2 rfl
    have QA0 := Aside0.mk ha0
    have QA1 := Aside0.mk ha1
    have QA2 := Aside0.mk ha2
    have QB0 := Aside0.mk hb0
    have QB1 := Aside0.mk hb1
    have QB2 := Aside0.mk hb2
    clear hmb hpo hpn hby Hg1 Hg2 Hg3
    go_upto_region 9 with fail
    go_cut [11, 12] (fun s11 s12 wy => ∃ (Ar : Option Addr) (cr : Nat) (Br : Option Addr) (dr : Nat), s11 = .slice Ar (mv.length + 1) cr ∧ s12 = .slice Br (P3.length + 1) dr ∧ Aside0 (Kd.C kLists wy Ar (mv.length + 1) (runL pl mv)) ∧ Aside0 (Kd.C kLists wy Br (P3.length + 1) (runL pl P3)) ∧ Aside0 (Below wx.heap.size wx wy))
    case first =>
      go_region_held3 (fun w' => w'.cell? ⟨w.heap.size, 0, none⟩ = some (.slice A0 ms.length c0) ∧ w'.cell? ⟨w.heap.size, 1, none⟩ = some (.slice (some a1) mv.length c1) ∧ w'.cell? ⟨w.heap.size, 2, none⟩ = some (.slice A2 rs.length c2) ∧ w'.cell? ⟨xb, 0, none⟩ = some (.slice A0 ms.length c0) ∧ w'.cell? ⟨xb, 1, none⟩ = some (.slice Ax P3.length cx) ∧ w'.cell? ⟨xb, 2, none⟩ = some (.slice none 0 0)) (first | go_keep | (exact ⟨pw_cell_below HBb.out QA0.out, pw_cell_below HBb.out QA1.out, pw_cell_below HBb.out QA2.out, pw_cell_below HBb.out QB0.out, pw_cell_below HBb.out QB1.out, pw_cell_below HBb.out QB2.out⟩) | (exact ⟨pw_cell_below HBa.out QA0.out, pw_cell_below HBa.out QA1.out, pw_cell_below HBa.out QA2.out, pw_cell_below HBa.out QB0.out, pw_cell_below HBa.out QB1.out, pw_cell_below HBa.out QB2.out⟩)) (first | (go_at_call 15; (with_reducible refine (HRA.out ?_).mono ?_); (first | exact below_drew1 (Below.refl _ _) | exact HBb.out | exact below_drew1 HBb.out); rintro e wa ⟨⟨Ar, cr, rfl, hra, hca⟩, hba⟩; have HRa := Aside0.mk hra; have HSa := Aside0.mk hba; have HBa : Aside0 (Below wx.heap.size wx wa) := ⟨by first | exact HBb.out.trans (Below.mono hba HBb.out.size) | exact (below_drew1 (Below.refl _ _)).trans hba⟩; clear hra hca hba) | (go_at_call 15; (with_reducible refine (HRB.out ?_).mono ?_); (first | exact below_drew1 (Below.refl _ _) | exact HBa.out | exact below_drew1 HBa.out); rintro e wb ⟨⟨Br, dr, rfl, hrb, hcb⟩, hbb⟩; have HRb := Aside0.mk hrb; have HSb := Aside0.mk hbb; have HBb : Aside0 (Below wx.heap.size wx wb) := ⟨by first | exact HBa.out.trans (Below.mono hbb HBa.out.size) | exact (below_drew1 (Below.refl _ _)).trans hbb⟩; clear hrb hcb hbb) | fail)
      all_goals (go_wp2_with fail; go_meet)
      all_goals first
        | exact ⟨Ar, cr, Br, dr, rfl, rfl, HRa, ⟨Kd.C_below HRb.out HSa.out⟩, HBa⟩
        | exact ⟨Ar, cr, Br, dr, rfl, rfl, ⟨Kd.C_below HRa.out HSb.out⟩, HRb, HBb⟩
    case rest =>
      obtain ⟨Ar, cr, Br, dr, rfl, rfl, HRa, HRb, HBa⟩ := hcut
      obtain ⟨wy, rfl⟩ : ∃ wy : World, wy = wc := ⟨_, rfl⟩
      have hz0 : (((mv.length : Int) + 1) == 0) = false := by simp; omega
      have hz1 : (((P3.length : Int) + 1) == 0) = false := by simp; omega
      have HBf : Aside0 (Below w.heap.size w wy) := ⟨HBy.out.trans (Below.mono HBa.out HBy.out.size)⟩
      have HEQ : Aside0 (∀ j : Nat, (runL pl P3)[if i < j then j + 1 else j]? = (runL pl mv)[j]?) := ⟨fun j => by
        obtain ⟨-, -, -, -, -, -, e1⟩ := ran_form HOKx.out
        rw [HRUN.out, e1, HPL.out]
        exact parts_at HOKP.out (piece_okMv HPB.out) HMI.out (by have := HLO.out; omega) (by have := HHI.out; omega) j⟩
      have hpn := HPN.out
      have hd6 : decide ((6 : Int) < (pl.length : Int)) = false := decide_eq_false (by omega)
      have hd8 : decide ((8 : Int) ≤ (mv.length : Int)) = false := decide_eq_false (by omega)
      have hdm : decide ((i : Int) < 0) = false := decide_eq_false (by omega)
      have hdl : decide ((mv.length : Int) ≤ (i : Int)) = false := decide_eq_false (by omega)
      have hda : decide (part < lo) = false := decide_eq_false (by omega)
      have hdb : decide (hi' < part) = false := decide_eq_false (by omega)
      go_wp2
      try simp only [hd6, hd8, hdm, hdl, hda, hdb, Bool.or_false, Bool.false_or]
      clear hd6 hd8 hdm hdl hda hdb
      go_loopg [13, 14] (mv.length + 1) (fun k ii kk wr => ∃ (j : Nat), j + k = mv.length + 1 ∧ ii = .int .i64 j ∧ Below w.heap.size w wr ∧ Below wy.heap.size wy wr)
      case atStart => exact ⟨0, by omega, rfl, HBf.out, Below.refl _ _⟩
      case round =>
        obtain ⟨j, hj, rfl, hBr, hBq⟩ := hrel
        have HJ := Aside0.mk hj
        have hj' : j ≤ mv.length + 1 := by omega
        clear hj
        by_cases hlt : j < mv.length + 1
        · obtain ⟨l, hl⟩ : ∃ l, (runL pl mv)[j]? = some l := ⟨_, List.getElem?_eq_getElem (by rw [runL_length]; exact hlt)⟩
          have hl2 := HEQ.out j
          rw [hl] at hl2
          obtain ⟨ad, Al, cl, rfl, hcell, hcl, hcr⟩ := at_row (Kd.C_below HRa.out hBq) hl hlt
          obtain ⟨hll, -⟩ := ran_row HOK.out (List.mem_of_getElem? hl)
          by_cases hij : i < j
          · rw [if_pos hij] at hl2
            obtain ⟨ad2, Al2, cl2, rfl, hcell2, hcl2, hcr2⟩ := at_row (Kd.C_below HRb.out hBq) hl2 (by omega)
            have HI1 : Aside0 (IR wr Al cl l) := ⟨⟨hcr, hcl, by omega⟩⟩
            have HI2 : Aside0 (IR wr Al2 cl2 l) := ⟨⟨hcr2, hcl2, by omega⟩⟩
            have HC1 := Aside0.mk hcell
            have HC2 := Aside0.mk hcell2
            have hq1 : (j : Int) < ((mv.length + 1 : Nat) : Int) := by omega
            have hq3 : (j : Int) < (mv.length : Int) + 1 := by omega
            have hq7 : (j : Int) < ((mv.length + 1 + 1 : Nat) : Int) := by omega
            have hq8 : (j : Int) < (mv.length : Int) + 1 + 1 := by omega
            have hij' : (i : Int) < (j : Int) := by omega
            have hq2 : (j : Int) + 1 < ((mv.length + 1 + 1 : Nat) : Int) := by omega
            have hq4 : (j : Int) + 1 < (mv.length : Int) + 1 + 1 := by omega
            have hq5 : ((j : Int) + 1).toNat = j + 1 := by omega
            have hq6 : 0 ≤ (j : Int) + 1 := by omega
            have hq9 : ¬ ((j : Int) + 1 < 0) := by omega
            have hcell3 : wr.cell? ⟨ad2.block, ad2.off + (j + 1), none⟩ = some (.slice Al2 l.length cl2) := hcell2
            have HC2 := Aside0.mk hcell3
            clear hl hl2 hcr hcl hll hcr2 hcl2 hpn
            go_upto_region 18 with fail
            go_region_held3 (fun w' => w'.cell? (ad.add j) = some (.slice Al l.length cl) ∧ w'.cell? ⟨ad2.block, ad2.off + (j + 1), none⟩ = some (.slice Al2 l.length cl2)) (first | go_keep | (exact ⟨pw_cell_below HBs.out HC1.out, pw_cell_below HBs.out HC2.out⟩)) (first | (go_at_call 16; (with_reducible refine (Same_eq (HI1.out.below ?_) (HI2.out.below ?_)).mono ?_); (exact below_drew1 (Below.refl _ _)); (exact below_drew1 (Below.refl _ _)); rintro e ws ⟨rfl, hbs⟩; have HBs : Aside0 (Below wr.heap.size wr ws) := ⟨(below_drew1 (Below.refl _ _)).trans hbs⟩; clear hbs) | fail)
            go_wp2
            go_roundg (gk - 1)
            case measure => have := HJ.out; omega
            case rel => exact ⟨j + 1, by have := HJ.out; omega, by go_num, hBr.trans (Below.mono HBs.out hBr.size), hBq.trans (Below.mono HBs.out hBq.size)⟩
          · rw [if_neg hij] at hl2
            obtain ⟨ad2, Al2, cl2, rfl, hcell2, hcl2, hcr2⟩ := at_row (Kd.C_below HRb.out hBq) hl2 (by omega)
            have HI1 : Aside0 (IR wr Al cl l) := ⟨⟨hcr, hcl, by omega⟩⟩
            have HI2 : Aside0 (IR wr Al2 cl2 l) := ⟨⟨hcr2, hcl2, by omega⟩⟩
            have HC1 := Aside0.mk hcell
            have HC2 := Aside0.mk hcell2
            have hq1 : (j : Int) < ((mv.length + 1 : Nat) : Int) := by omega
            have hq3 : (j : Int) < (mv.length : Int) + 1 := by omega
            have hq7 : (j : Int) < ((mv.length + 1 + 1 : Nat) : Int) := by omega
            have hq8 : (j : Int) < (mv.length : Int) + 1 + 1 := by omega
            have hij' : ¬ (i : Int) < (j : Int) := by omega
            clear hl hl2 hcr hcl hll hcr2 hcl2 hpn
            go_upto_region 18 with fail
            go_region_held3 (fun w' => w'.cell? (ad.add j) = some (.slice Al l.length cl) ∧ w'.cell? (ad2.add (j)) = some (.slice Al2 l.length cl2)) (first | go_keep | (exact ⟨pw_cell_below HBs.out HC1.out, pw_cell_below HBs.out HC2.out⟩)) (first | (go_at_call 16; (with_reducible refine (Same_eq (HI1.out.below ?_) (HI2.out.below ?_)).mono ?_); (exact below_drew1 (Below.refl _ _)); (exact below_drew1 (Below.refl _ _)); rintro e ws ⟨rfl, hbs⟩; have HBs : Aside0 (Below wr.heap.size wr ws) := ⟨(below_drew1 (Below.refl _ _)).trans hbs⟩; clear hbs) | fail)
            go_wp2
            go_roundg (gk - 1)
            case measure => have := HJ.out; omega
            case rel => exact ⟨j + 1, by have := HJ.out; omega, by go_num, hBr.trans (Below.mono HBs.out hBr.size), hBq.trans (Below.mono HBs.out hBq.size)⟩
        · obtain rfl : j = mv.length + 1 := by omega
          replace HBz := Aside0.mk hBr
          go_wp2_with (go_at_call 14; (with_reducible refine (known_calls (HL.out.below HBz.out)).mono ?_); rintro e wn ⟨rfl, hb⟩; replace HBz := Aside0.mk (HBz.out.trans (Below.mono hb HBz.out.size)); clear hb)
          go_ret
          exact ⟨rfl, HBz.out⟩
end
end Go.Proofs.YtaojkmalpihmbaaGreatDoor.M
