import Derived.Test.YtaojkmalpihmbaaGreatDoorB29
import Derived.Test.YtaojkmalpihmbaaGreatDoorB30
import Derived.Test.YtaojkmalpihmbaaGreatDoorB28
namespace Go.Proofs.YtaojkmalpihmbaaGreatDoor.M
open Go.RowKit Go.Proofs.YtaojkmalpihmbaaGreatDoorW.PrintWords Go.Proofs.YtaojkmalpihmbaaGreatDoorW.PrintLast Go.Proofs.YtaojkmalpihmbaaGreatDoorW.PrintMore Go.Proofs.YtaojkmalpihmbaaGreatDoor.Q
set_option linter.unusedVariables false
set_option linter.unusedSimpArgs false

/-! best of looks. -/
def betterK (x y : S116) : Bool := decide (x.f1 < y.f1)
def zK : S116 := ⟨0, 0⟩
theorem look1_calls (x y : S116) (w : World) : Calls Tryz.prog 86 #[.agg #[.int .i64 x.f0, .int .i64 x.f1], .agg #[.int .i64 y.f0, .int .i64 y.f1]] w fun e w' => e = .returned (.bool (betterK x y)) ∧ Below w.heap.size w w' := by
  have HB0 := Aside0.mk (below_alloc (below_alloc (Below.refl w.heap.size w) (.cells #[.int .i64 x.f0, .int .i64 x.f1] 116)) (.cells #[.int .i64 y.f0, .int .i64 y.f1] 116))
  go_enter Tryz.func86, Tryz.ntmps86
  go_wp2
  go_ret
  exact ⟨rfl, HB0.out⟩
theorem at_look {w : World} {A : Option Addr} {n : Nat} {l : List S116} (h : Kd.C k116 w A n l) {j : Nat} {x : S116} (hx : l[j]? = some x) (hj : j < n) :
    ∃ ad, A = some ad ∧ w.cell? (ad.add (j * 2)) = some (.int .i64 x.f0) ∧ w.cell? ⟨(ad.add (j * 2)).block, (ad.add (j * 2)).off + 1, none⟩ = some (.int .i64 x.f1) := by
  obtain ⟨ad, e, h0, h1⟩ := at_T116 h (j : Int) (by omega) (by omega)
  have hd : rd_T116 l (j : Int) = x := by unfold rd_T116; rw [Int.toNat_natCast, List.getD_eq_getElem?_getD, hx]; rfl
  rw [hd, Int.toNat_natCast] at h0 h1
  exact ⟨ad, e, h0, h1⟩
set_option maxHeartbeats 2000000 in
set_option maxRecDepth 100000 in
theorem bestK_calls {w : World} {A : Option Addr} {c : Nat} {l : List S116} (hr : Kd.C k116 w A l.length l) (hl : l.length ≤ 1000) :
    Calls Tryz.prog 85 #[.slice A l.length c, .func (.func 86) #[] #[]] w fun e w' => e = .returned (.agg #[.int .i64 (bestOf betterK zK l).f0, .int .i64 (bestOf betterK zK l).f1]) ∧ Below w.heap.size w w' := by
  have HR := Aside0.mk hr
  have hent := ent Tryz.func86 (by kernel_rfl) rfl
  have HB0 := Aside0.mk (below_alloc (below_alloc (Below.refl w.heap.size w) (.cells #[.int .i64 0, .int .i64 0] 116)) (.cells #[.int .i64 0, .int .i64 0] 116))
  have hk0 := (Blk.new w #[.int .i64 0, .int .i64 0] 116).alloc (.cells #[.int .i64 0, .int .i64 0] 116)
  have hk1 := Blk.new (w.alloc (.cells #[.int .i64 0, .int .i64 0] 116)) #[.int .i64 0, .int .i64 0] 116
  rw [World.size_alloc] at hk1
  have HK0 := Aside0.mk hk0
  have HK1 := Aside0.mk hk1
  clear hr hk0 hk1
  go_enter Tryz.func85, Tryz.ntmps85
  go_wp2
  go_loopg [10] (l.length) (fun k i wr => ∃ (j : Nat) (out : S116), j + k = l.length ∧ i = .int .i64 j ∧ Aside0 (out = bestOf betterK zK (l.take j)) ∧ Aside0 (Blk wr (w.heap.size + 1) #[.int .i64 out.f0, .int .i64 out.f1] 116) ∧ Aside0 (Blk wr w.heap.size #[.int .i64 0, .int .i64 0] 116) ∧ Below w.heap.size w wr)
  case atStart => exact ⟨0, zK, by omega, rfl, ⟨rfl⟩, HK1, HK0, HB0.out⟩
  case round =>
    obtain ⟨j, out, hj, rfl, HO, HK, HZ, hBr⟩ := hrel
    have hj' : j ≤ l.length := by omega
    have HJ := Aside0.mk hj
    clear hj
    have hk := HK.out
    have hk0 := hk.cell 0 rfl
    have hk1 := hk.cell 1 rfl
    have hf0 := hk.free 0
    have hf1 := hk.free 1
    have hkl := hk.lt
    have hsz := hBr.size
    clear hk
    by_cases hlt : j < l.length
    · obtain ⟨x, hx⟩ : ∃ x, l[j]? = some x := ⟨_, List.getElem?_eq_getElem hlt⟩
      obtain ⟨ad, rfl, hca, hcb⟩ := at_look (Kd.C_below HR.out hBr) hx hlt
      have HX := Aside0.mk (bestOf_take betterK zK x l j hx)
      have HXl := Aside0.mk (Blk.new wr #[.int .i64 x.f0, .int .i64 x.f1] 116)
      have HBl := Aside0.mk (below_alloc hBr (.cells #[.int .i64 x.f0, .int .i64 x.f1] 116))
      clear hx
      by_cases hz : j = 0
      · have hb : ((j : Int) == 0) = true := by simp [hz]
        have HZ0 := Aside0.mk hz
        clear hz
        go_wp2
        go_roundg (gk - 1)
        case measure => have := HJ.out; omega
        case rel => exact ⟨j + 1, x, by have := HJ.out; omega, by go_num, ⟨by rw [HX.out, if_pos HZ0.out]⟩, ⟨((HK.out.put 0 _ rfl).put 1 _ rfl).alloc _⟩, ⟨((HZ.out.far (by show w.heap.size ≠ w.heap.size + 1; omega) _).far (by show w.heap.size ≠ w.heap.size + 1; omega) _).alloc _⟩, below_alloc (below_set (below_set hBr (by omega)) (by omega)) _⟩
      · have hb : ((j : Int) == 0) = false := by simpa using hz
        have HZ0 := Aside0.mk hz
        clear hz
        rcases hbt : betterK x out with _ | _
        · have HBT := Aside0.mk hbt
          clear hbt
          go_wp2_with (go_at_call 86; (with_reducible refine (look1_calls x out _).mono ?_); rintro e w5 ⟨rfl, hb5⟩; rw [HBT.out]; have HB5 := Aside0.mk hb5; clear hb5)
          go_roundg (gk - 1)
          case measure => have := HJ.out; omega
          case rel => exact ⟨j + 1, out, by have := HJ.out; omega, by go_num, ⟨by rw [HX.out, if_neg HZ0.out, ← HO.out, HBT.out]; rfl⟩, ⟨(HK.out.alloc _).below HB5.out⟩, ⟨(HZ.out.alloc _).below HB5.out⟩, bthen HBl.out HB5.out⟩
        · have HBT := Aside0.mk hbt
          clear hbt
          go_wp2_with (go_at_call 86; (with_reducible refine (look1_calls x out _).mono ?_); rintro e w5 ⟨rfl, hb5⟩; rw [HBT.out]; have HB5 := Aside0.mk hb5; have hy := (HK.out.alloc (.cells #[.int .i64 x.f0, .int .i64 x.f1] 116)).below hb5; have hy0 := hy.cell 0 rfl; have hy1 := hy.cell 1 rfl; have hyf0 := hy.free 0; have hyf1 := hy.free 1; have hyl := hy.lt; have HY := Aside0.mk hy; have hq := HXl.out.below hb5; have hq0 := hq.cell 0 rfl; have hq1 := hq.cell 1 rfl; have hql := hq.lt; clear hb5 hy hq)
          go_roundg (gk - 1)
          case measure => have := HJ.out; omega
          case rel => exact ⟨j + 1, x, by have := HJ.out; omega, by go_num, ⟨by rw [HX.out, if_neg HZ0.out, ← HO.out, HBT.out]; rfl⟩, ⟨(HY.out.put 0 _ rfl).put 1 _ rfl⟩, ⟨(((HZ.out.alloc _).below HB5.out).far (by show w.heap.size ≠ w.heap.size + 1; omega) _).far (by show w.heap.size ≠ w.heap.size + 1; omega) _⟩, below_set (below_set (bthen HBl.out HB5.out) (by omega)) (by omega)⟩
    · obtain rfl : j = l.length := by omega
      have hz := HZ.out
      have hz0 := hz.cell 0 rfl
      have hz1 := hz.cell 1 rfl
      have hzf0 := hz.free 0
      have hzf1 := hz.free 1
      have hzl := hz.lt
      clear hz
      go_wp2
      refine bodyPost_ret (results_cell_row rfl _ _ w.heap.size 116 #[.int .i64 out.f0, .int .i64 out.f1] (0,0) _ (by rfl) ((HZ.out.put 0 _ rfl).put 1 _ rfl) Tryz.underlying116 rfl (by kernel_rfl)) rfl ?_
      refine ⟨?_, below_set (below_set hBr (by omega)) (by omega)⟩
      have ho := HO.out
      rw [List.take_length] at ho
      rw [← ho]
end Go.Proofs.YtaojkmalpihmbaaGreatDoor.M

namespace Go.Proofs.YtaojkmalpihmbaaGreatDoor.M
open Go.RowKit Go.Proofs.YtaojkmalpihmbaaGreatDoorW.PrintWords Go.Proofs.YtaojkmalpihmbaaGreatDoorW.PrintLast Go.Proofs.YtaojkmalpihmbaaGreatDoorW.PrintMore Go.Proofs.YtaojkmalpihmbaaGreatDoor.Q
set_option linter.unusedVariables false
set_option linter.unusedSimpArgs false

/-! Look. -/
def lookAt (mv : List Int) (l : List S89) (off : Int) (i : Nat) : S116 := ⟨(i : Int) + 1, leftN (placeV (i + 1) l) off⟩
def lookL (n : Nat) (mv : List Int) (l : List S89) (off : Int) : List S116 := (List.range n).map (lookAt mv l off)
section
variable {A0 A1 A2 : Option Addr} {c0 c1 c2 : Nat} {ms : List S64} {mv : List Int} {rs : List S66}
def lookOf (ms : List S64) (mv : List Int) (rs : List S66) (off : Int) : S116 × Int :=
  if askE ms mv rs (inB off 0 50) = 0 then (if (truthsL ms mv rs).length = 1 then (zK, 5) else (bestOf betterK zK (lookL ms.length mv (truthsL ms mv rs) off), 0)) else (zK, askE ms mv rs (inB off 0 50))
set_option maxHeartbeats 8000000 in
set_option maxRecDepth 100000 in
theorem Look_calls {w : World} (h : PR w A0 c0 ms A1 c1 mv A2 c2 rs) (off : Int) :
    Calls Tryz.prog 43 #[.agg #[.slice A0 ms.length c0, .slice A1 mv.length c1, .slice A2 rs.length c2], .int .i64 off] w fun e w' =>
      e = .returned (.tuple #[.int .i64 (lookOf ms mv rs off).1.f0, .int .i64 (lookOf ms mv rs off).1.f1, .int .i64 (lookOf ms mv rs off).2]) ∧ Below w.heap.size w w' := by
  have H := Aside0.mk h
  have hl0 := h.l0
  have HBW := Aside0.mk (below_alloc (Below.refl w.heap.size w) (.cells #[.slice A0 ms.length c0, .slice A1 mv.length c1, .slice A2 rs.length c2] 26))
  have hk0 := Blk.new w #[.slice A0 ms.length c0, .slice A1 mv.length c1, .slice A2 rs.length c2] 26
  go_enter Tryz.func43, Tryz.ntmps43
  go_upto_region 1 with fail
  obtain ⟨W4, hW4⟩ : ∃ W4, w.alloc (.cells #[.slice A0 ms.length c0, .slice A1 mv.length c1, .slice A2 rs.length c2] 26) = W4 := ⟨_, rfl⟩
  have hsz : W4.heap.size = w.heap.size + 1 := by rw [← hW4]; simp only [World.size_alloc]
  rw [hW4] at HBW hk0 ⊢
  clear hW4
  have HK0 := Aside0.mk hk0
  have hp0 := hk0.cell 0 rfl
  have hp1 := hk0.cell 1 rfl
  have hp2 := hk0.cell 2 rfl
  have hlt0 := hk0.lt
  have HSZ := Aside0.mk hsz
  clear h hk0 hsz
  by_cases hask : askE ms mv rs (inB off 0 50) = 0
  · have HA := Aside0.mk hask
    clear hask
    go_cut [7, 8] (fun s7 s8 wx => AskOk A0 c0 ms A1 c1 mv A2 c2 rs w.heap.size W4 s7 s8 wx)
    case first =>
      go_region_held3 (fun w' => w'.cell? ⟨w.heap.size, 0, none⟩ = some (.slice A0 ms.length c0) ∧ w'.cell? ⟨w.heap.size, 1, none⟩ = some (.slice A1 mv.length c1) ∧ w'.cell? ⟨w.heap.size, 2, none⟩ = some (.slice A2 rs.length c2)) (first | go_keep | ((refine ⟨?_, ?_, ?_⟩) <;> (repeat (first | (with_reducible assumption) | (with_reducible refine set_far ?_ (by dsimp only; omega)))))) (first | (go_at_call 76; (with_reducible refine (in_calls _ _ _ _).mono ?_); rintro e wq ⟨rfl, rfl⟩) | (go_at_call 48; (with_reducible refine (asked_calls (H.out.below ?_) _).mono ?_); (repeat (first | exact HBW.out | apply below_alloc | apply below_drew1)); rintro e w1 ⟨hv, hb1⟩; rcases hv with ⟨_, A3, c3, rfl, hall⟩ | ⟨hne, _⟩; rotate_left 1; exact absurd HA.out hne; have HAll := Aside0.mk hall; have hby : Below W4.heap.size W4 w1 := bthen (by repeat (first | exact Below.refl _ _ | exact Below.refl _ _ | apply below_alloc | apply below_drew1)) hb1; have HBy := Aside0.mk hby; obtain ⟨hk1a, hk1b⟩ := bcell hb1; have hz1 := hb1.size; (try (have HZ9 := Aside0.mk (Blk.below (Blk.drew (Blk.new W4 #[.slice none 0 0, .slice none 0 0, .slice none 0 0, .slice none 0 0] 84)) hb1); have HZL := Aside0.mk ((Blk.new W4 #[.slice none 0 0, .slice none 0 0, .slice none 0 0, .slice none 0 0] 84).lt); have hzc0 := HZ9.out.cell 0 rfl; have hzf0 := HZ9.out.free 0; have hzc1 := HZ9.out.cell 1 rfl; have hzf1 := HZ9.out.free 1; have hzc2 := HZ9.out.cell 2 rfl; have hzf2 := HZ9.out.free 2; have hzc3 := HZ9.out.cell 3 rfl; have hzf3 := HZ9.out.free 3; have hzl := HZ9.out.lt)); have ht0 : w1.cell? ⟨w.heap.size, 0, none⟩ = some (.slice A0 ms.length c0) := (HK0.out.below hby).cell 0 rfl; have ht1 : w1.cell? ⟨w.heap.size, 1, none⟩ = some (.slice A1 mv.length c1) := (HK0.out.below hby).cell 1 rfl; have ht2 : w1.cell? ⟨w.heap.size, 2, none⟩ = some (.slice A2 rs.length c2) := (HK0.out.below hby).cell 2 rfl; have htl0 := (HK0.out.below hby).lt; clear hb1 hall hby))
      all_goals (go_wp2_with fail; go_meet)
      all_goals first | exact askOk_new HAll.out (by first | exact HBW.out.size | exact Nat.le_trans HBW.out.size HBx1.out.size | exact Nat.le_trans HBW.out.size HBx2.out.size) HBy.out | exact askOk_set HZ9.out (by first | exact HZL.out | exact Nat.lt_of_lt_of_le HZL.out (Nat.le_refl _)) HAll.out (by first | exact HBW.out.size | exact Nat.le_trans HBW.out.size (below_drew1 (below_alloc (Below.refl _ _) _)).size | exact Nat.le_trans HBW.out.size HBx1.out.size | exact Nat.le_trans HBW.out.size HBx2.out.size | (rw [World.size_alloc]; exact Nat.le_succ_of_le HBW.out.size) | (rw [World.size_alloc]; exact Nat.le_succ_of_le (Nat.le_trans HBW.out.size HBx1.out.size)) | (rw [World.size_alloc]; exact Nat.le_succ_of_le (Nat.le_trans HBW.out.size HBx2.out.size))) HBy.out (by first | exact Nat.le_refl _ | exact HBx1.out.size | exact HBx2.out.size)
    case rest =>
      obtain ⟨b, A3, c3, rfl, rfl, HX, HAl, HBx⟩ := hcut
      have hpc := (askE_piece HA.out).1
      have hin := (askE_piece HA.out).2
      simp only [inB, Bool.and_eq_true, decide_eq_true_eq] at hin
      obtain ⟨ho1, ho2⟩ := hin
      have hl6 : (truthsL ms mv rs).length ≤ 625 := truthsL_length hpc
      have hl4 : ms.length ≤ 4 := (piece_len hpc).2.1
      have HW9 := Aside0.mk (HBW.out.trans (HBx.out.mono HBW.out.size))
      have HRx := Aside0.mk (Kd.R_reads' HAl.out).2.2
      have hx0 := HX.out.cell 0 rfl
      have hx1 := HX.out.cell 1 rfl
      have hx2 := HX.out.cell 2 rfl
      have hx3 := HX.out.cell 3 rfl
      have hxl := HX.out.lt
      obtain ⟨l, hl⟩ : ∃ l, l = truthsL ms mv rs := ⟨_, rfl⟩
      have HPC := Aside0.mk hpc
      have HQ : Aside0 (lookOf ms mv rs off = if l.length = 1 then (zK, 5) else (bestOf betterK zK (lookL ms.length mv l off), 0)) := ⟨by rw [hl]; simp only [lookOf, if_pos HA.out]⟩
      have HNR : Aside0 (∀ n, n ≤ ms.length → ∀ x ∈ l, nearT n x ∧ x.f0.length ≤ 1000 ∧ x.f1.length ≤ 1000) := ⟨by intro n hn; rw [hl]; exact truths_near hpc hn⟩
      rw [← hl] at HRx hl6 HX hx3
      clear hl hpc
      by_cases hone : l.length = 1
      · have hb1 : ((l.length : Int) == 1) = true := by rw [hone]; rfl
        have hb2 : (l.length == 1) = true := by rw [hone]; rfl
        have HO := Aside0.mk hone
        clear hone
        go_wp2
        go_ret3
        exact ⟨by rw [HQ.out, if_pos HO.out]; rfl, HW9.out⟩
      · have hb1 : ((l.length : Int) == 1) = false := by simp; omega
        have hb2 : (l.length == 1) = false := by simpa using hone
        have HO := Aside0.mk hone
        clear hone
        go_wp2
        go_loopg [9, 30] (ms.length) (fun k v i wr => ∃ (j : Nat) (Os : List S116), j + k = ms.length ∧ i = .int .i64 j ∧ Os.length = j ∧ Aside0 (Os = lookL j mv l off) ∧ Aside0 (Kd.R k116 116 wr wc.heap.size (fun _ => True) v Os) ∧ Below wc.heap.size wc wr)
        case atStart => exact ⟨0, [], by omega, rfl, rfl, ⟨rfl⟩, ⟨none_row _ _ _ _ _⟩, Below.refl _ _⟩
        case round =>
          obtain ⟨j, Os, hj, rfl, hos, HO2, HV, hBr⟩ := hrel
          have hj' : j ≤ ms.length := by omega
          have HJ := Aside0.mk hj
          have hsz := hBr.size
          have hosl : Os.length ≤ 4 := by omega
          have HOS := Aside0.mk hos
          clear hj hos
          obtain ⟨Av, cv, rfl⟩ := Kd.R_slice HV.out
          have hkx := HX.out.below hBr
          have hy0 := hkx.cell 0 rfl
          have hy1 := hkx.cell 1 rfl
          have hy2 := hkx.cell 2 rfl
          have hy3 := hkx.cell 3 rfl
          have hyl := hkx.lt
          clear hkx
          by_cases hlt : j < ms.length
          · have HCL : Aside0 (∀ W, Below wr.heap.size wr W → Calls Tryz.prog 84 #[.agg #[.slice A0 ms.length c0, .slice A1 mv.length c1, .slice A2 rs.length c2, .slice A3 l.length c3], .int .i64 ((j : Int) + 1), .int .i64 off] W fun e w' => e = .returned (.int .i64 (leftN (placeV (j + 1) l) off)) ∧ Below W.heap.size W w') := ⟨by
              intro W hW
              have := left_calls (c := c3) (.slice A0 ms.length c0) (.slice A1 mv.length c1) (.slice A2 rs.length c2) ⟨_, _, _, _, _, _, _, _, _, rfl, rfl, rfl⟩ (Kd.C_below HRx.out (hBr.trans (hW.mono hBr.size))) (by omega) (j + 1) (HNR.out (j + 1) (by omega)) off ho1 ho2
              rw [show ((j : Int) + 1) = ((j + 1 : Nat) : Int) by omega]
              exact this⟩
            obtain ⟨m, hm⟩ : ∃ m, m = leftN (placeV (j + 1) l) off := ⟨_, rfl⟩
            rw [← hm] at HCL
            have HM := Aside0.mk hm
            clear hm
            go_wp2_with (first | (go_at_call 84; (with_reducible refine (HCL.out _ (Below.refl _ _)).mono ?_); rintro e w5 ⟨rfl, hb5⟩; have HB5 := Aside0.mk (bthen hBr hb5); have HV5 := Aside0.mk (Kd.R_below HV.out hb5); clear hb5) | (at_builtin; go_must (refine Kd.R_append k116 (w0 := wc) wc.heap.size rfl (.tmp 33) (.tmp 42) 114 116 (.agg #[.int .i64 0, .int .i64 0]) 16 rfl Tryz.underlying114 info116 rfl (by decide) (by decide) _ Os ⟨(j : Int) + 1, m⟩ _ (fun _ => True) (fun _ => False) rfl rfl (k116_mkM _ _ _ _) (fun _ h => h.elim) (fun _ _ => trivial) HV5.out HB5.out ?_ ?_ ?_); exact HB5.out.size; omega; intro v1 w6 hr1 hb1 hg1 ha1; have HR5 := Aside0.mk hr1; clear hr1 hg1 ha1))
            go_roundg (gk - 1)
            case measure => have := HJ.out; omega
            case rel =>
              refine ⟨j + 1, Os ++ [⟨(j : Int) + 1, m⟩], by have := HJ.out; omega, by go_num, by rw [List.length_append, HOS.out]; rfl, ⟨?_⟩, HR5, hb1⟩
              rw [HO2.out, HM.out]
              simp only [lookL, List.range_succ, List.map_append]
              rfl
          · obtain rfl : j = ms.length := by omega
            have HRD := Aside0.mk (Kd.R_reads' HV.out).2.2
            have HQ2 : Aside0 (lookOf ms mv rs off = (bestOf betterK zK Os, 0)) := ⟨by rw [HQ.out, if_neg HO.out, HO2.out]⟩
            go_wp2_with (go_at_call 85; (with_reducible refine (bestK_calls HRD.out (by omega)).mono ?_); rintro e w5 ⟨rfl, hb5⟩; have HB5 := Aside0.mk hb5; clear hb5)
            go_quiet (fail)
            go_wp2
            go_ret3
            exact ⟨by rw [HQ2.out]; rfl, HW9.out.trans ((below_drewN (below_alloc (bthen hBr HB5.out) _) _).mono HW9.out.size)⟩
  · have HA := Aside0.mk hask
    have hne : (askE ms mv rs (inB off 0 50) == 0) = false := by simpa using hask
    obtain ⟨er, her⟩ : ∃ er, er = askE ms mv rs (inB off 0 50) := ⟨_, rfl⟩
    rw [← her] at hne
    have HE := Aside0.mk her
    clear hask her
    go_cut [7, 8] (fun s7 s8 wx => AskNo er W4 s7 s8 wx)
    case first =>
      go_region_held3 (fun w' => w'.cell? ⟨w.heap.size, 0, none⟩ = some (.slice A0 ms.length c0) ∧ w'.cell? ⟨w.heap.size, 1, none⟩ = some (.slice A1 mv.length c1) ∧ w'.cell? ⟨w.heap.size, 2, none⟩ = some (.slice A2 rs.length c2)) (first | go_keep | ((refine ⟨?_, ?_, ?_⟩) <;> (repeat (first | (with_reducible assumption) | (with_reducible refine set_far ?_ (by dsimp only; omega)))))) (first | (go_at_call 76; (with_reducible refine (in_calls _ _ _ _).mono ?_); rintro e wq ⟨rfl, rfl⟩) | (go_at_call 48; (with_reducible refine (asked_calls (H.out.below ?_) _).mono ?_); (repeat (first | exact HBW.out | apply below_alloc | apply below_drew1)); rintro e w1 ⟨hv, hb1⟩; rcases hv with ⟨h0, _⟩ | ⟨_, rfl⟩; exact absurd h0 HA.out; rw [← HE.out]; have hby : Below W4.heap.size W4 w1 := bthen (by repeat (first | exact Below.refl _ _ | exact Below.refl _ _ | apply below_alloc | apply below_drew1)) hb1; have HBy := Aside0.mk hby; obtain ⟨hk1a, hk1b⟩ := bcell hb1; have hz1 := hb1.size; (try (have HZ9 := Aside0.mk (Blk.below (Blk.drew (Blk.new W4 #[.slice none 0 0, .slice none 0 0, .slice none 0 0, .slice none 0 0] 84)) hb1); have HZL := Aside0.mk ((Blk.new W4 #[.slice none 0 0, .slice none 0 0, .slice none 0 0, .slice none 0 0] 84).lt); have hzc0 := HZ9.out.cell 0 rfl; have hzf0 := HZ9.out.free 0; have hzc1 := HZ9.out.cell 1 rfl; have hzf1 := HZ9.out.free 1; have hzc2 := HZ9.out.cell 2 rfl; have hzf2 := HZ9.out.free 2; have hzc3 := HZ9.out.cell 3 rfl; have hzf3 := HZ9.out.free 3; have hzl := HZ9.out.lt)); have ht0 : w1.cell? ⟨w.heap.size, 0, none⟩ = some (.slice A0 ms.length c0) := (HK0.out.below hby).cell 0 rfl; have ht1 : w1.cell? ⟨w.heap.size, 1, none⟩ = some (.slice A1 mv.length c1) := (HK0.out.below hby).cell 1 rfl; have ht2 : w1.cell? ⟨w.heap.size, 2, none⟩ = some (.slice A2 rs.length c2) := (HK0.out.below hby).cell 2 rfl; have htl0 := (HK0.out.below hby).lt; clear hb1 hby))
      all_goals (go_wp2_with fail; go_meet)
      all_goals first | exact ⟨_, rfl, rfl, ⟨below_alloc HBy.out _⟩⟩ | exact ⟨_, rfl, rfl, ⟨below_set (below_set (below_set (below_set HBy.out (by first | exact Nat.le_refl _ | exact HBx1.out.size | exact HBx2.out.size)) (by first | exact Nat.le_refl _ | exact HBx1.out.size | exact HBx2.out.size)) (by first | exact Nat.le_refl _ | exact HBx1.out.size | exact HBx2.out.size)) (by first | exact Nat.le_refl _ | exact HBx1.out.size | exact HBx2.out.size)⟩⟩
    case rest =>
      obtain ⟨b, rfl, rfl, HBx⟩ := hcut
      go_wp2
      go_ret3
      have q0 : lookOf ms mv rs off = (zK, er) := by simp only [lookOf, if_neg HA.out, HE.out]
      exact ⟨by rw [q0]; rfl, HBW.out.trans (HBx.out.mono HBW.out.size)⟩
end
end Go.Proofs.YtaojkmalpihmbaaGreatDoor.M

