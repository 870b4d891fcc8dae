import Derived.Test.YtaojkmalpihmbaaGreatDoorB18
namespace Go.Proofs.YtaojkmalpihmbaaGreatDoor.M
open Go.RowKit Go.Proofs.YtaojkmalpihmbaaGreatDoorW.PrintWords Go.Proofs.YtaojkmalpihmbaaGreatDoorW.PrintLast Go.Proofs.YtaojkmalpihmbaaGreatDoorW.PrintMore Go.Proofs.YtaojkmalpihmbaaGreatDoor.Q
set_option linter.unusedVariables false
set_option linter.unusedSimpArgs false

/-! text. -/
def joinB (l : List ByteArray) : ByteArray := ⟨(Lib.join (l.map (·.data.toList)) [10]).toArray⟩
def tailB (dig : Int → List UInt8) (c : Int) (s : ByteArray) : ByteArray := ((((s ++ ⟨#[10, 101, 110, 100, 32]⟩) ++ ⟨(dig (c / 100)).toArray⟩) ++ ⟨(dig (c / 10 % 10)).toArray⟩) ++ ⟨(dig (c % 10)).toArray⟩) ++ ⟨#[10]⟩
def textB (dig : Int → List UInt8) (ms : List S64) (mv : List Int) (rs : List S66) : ByteArray := tailB dig (sumL (linesB dig ms mv rs) (linesB dig ms mv rs).length % 113) (joinB (linesB dig ms mv rs))
/-- All numbers of a piece are ones that are met. -/
structure OkP (ok : Int → Prop) (ms : List S64) (mv : List Int) (rs : List S66) : Prop where
  n : ok (ms.length : Int)
  m : ∀ m ∈ ms, ok m.f0.f0 ∧ ok m.f0.f1
  v : ∀ v ∈ mv, ok v
  r : ∀ r ∈ rs, ok r.f0 ∧ ok r.f1 ∧ ok r.f2 ∧ ok r.f3
section
variable {A0 A1 A2 : Option Addr} {c0 c1 c2 : Nat} {ms : List S64} {mv : List Int} {rs : List S66} {dig : Int → List UInt8} {ok : Int → Prop}
theorem linesB_size {w : World} (D : Digs dig ok w) (P : OkP ok ms mv rs) (hm : mv.length ≤ 1000) : ∀ x ∈ linesB dig ms mv rs, x.size ≤ 20005 := by
  intro x hx
  rw [linesB] at hx
  simp only [List.mem_append, List.mem_cons, List.mem_map, List.not_mem_nil, or_false] at hx
  rcases hx with (((rfl | ⟨m, hm', rfl⟩) | rfl) | ⟨r, hr, rfl⟩)
  · refine Nat.le_trans (lineB_size _ _ (fun v hv => D.len v ?_)) ?_
    · simp only [List.mem_singleton] at hv; subst hv; exact P.n
    · show 5 + 20 * 1 ≤ 20005; omega
  · refine Nat.le_trans (lineB_size _ _ (fun v hv => D.len v ?_)) ?_
    · simp only [List.mem_cons, List.not_mem_nil, or_false] at hv
      rcases hv with rfl | rfl
      · exact (P.m _ hm').1
      · exact (P.m _ hm').2
    · show 4 + 20 * 2 ≤ 20005; omega
  · refine Nat.le_trans (lineB_size _ _ (fun v hv => D.len v (P.v v hv))) ?_
    show 5 + 20 * mv.length ≤ 20005
    omega
  · refine Nat.le_trans (lineB_size _ _ (fun v hv => D.len v ?_)) ?_
    · simp only [List.mem_cons, List.not_mem_nil, or_false] at hv
      obtain ⟨h1, h2, h3, h4⟩ := P.r _ hr
      rcases hv with rfl | rfl | rfl | rfl <;> assumption
    · show 7 + 20 * 4 ≤ 20005; omega
theorem getD_byte {x : ByteArray} {i : Nat} (h : i < x.size) : (x.data.toList.getD i 0) = x[i] := by
  rw [List.getD_eq_getElem?_getD, List.getElem?_eq_getElem (by rw [Array.length_toList]; exact h)]
  simp
  rfl
theorem w64in (n : Int) (h : -9223372036854775808 ≤ n ∧ n ≤ 9223372036854775807) : wrap64 n = n := by unfold wrap64; omega
theorem step_eq {S K b k i : Int} (hb : 0 ≤ b ∧ b < 256) (h : 0 ≤ b * (k + 1) ∧ b * (k + 1) ≤ 5101275 ∧ 0 ≤ b * (k + 1) * (i + 1) ∧ b * (k + 1) * (i + 1) ≤ 10217853825) (hs : 0 ≤ S ∧ S ≤ 4611686018427387904) (hk : 0 ≤ K ∧ K ≤ 2305843009213693952) :
    wrap64 (S + K + wrap64 (wrap64 (wrap64 b * (k + 1)) * (i + 1))) = S + (K + b * (k + 1) * (i + 1)) := by
  rw [w64in b (by omega), w64in (b * (k + 1)) (by omega), w64in (b * (k + 1) * (i + 1)) (by omega), w64in _ (by omega)]
  omega
theorem join_len : ∀ (l : List ByteArray), (∀ x ∈ l, x.size ≤ 20005) → (Lib.join (l.map (·.data.toList)) [10]).length ≤ l.length * 20006
  | [], _ => by simp [Lib.join]
  | [x], h => by
    have h1 := h x (by simp)
    have e : x.data.toList.length = x.size := Array.length_toList
    simp only [Lib.join, List.map_cons, List.map_nil, List.intercalate, List.intersperse, List.flatten_cons, List.flatten_nil, List.append_nil, List.length_cons, List.length_nil]
    omega
  | x :: y :: l, h => by
    have h1 := h x (by simp)
    have e : x.data.toList.length = x.size := Array.length_toList
    have h2 := join_len (y :: l) (fun z hz => h z (List.mem_cons_of_mem _ hz))
    simp only [Lib.join, List.map_cons, List.intercalate, List.intersperse, List.flatten_cons, List.length_append, List.length_cons, List.length_nil] at h2 ⊢
    omega
set_option maxHeartbeats 4000000 in
set_option maxRecDepth 100000 in
theorem text_gen {w : World} (h : PR w A0 c0 ms A1 c1 mv A2 c2 rs) (D : Digs dig ok w) (P : OkP ok ms mv rs) :
    Calls Tryz.prog 119 #[.agg #[.slice A0 ms.length c0, .slice A1 mv.length c1, .slice A2 rs.length c2]] w fun e w' => e = .returned (.string (textB dig ms mv rs)) ∧ Below w.heap.size w w' := by
  have H := Aside0.mk h
  have hl0 := h.l0
  have hl1 := h.l1
  have hl2 := h.l2
  have DD := Aside0.mk D
  have PP := Aside0.mk P
  have HB0 := Aside0.mk (below_alloc (Below.refl w.heap.size w) (.cells #[.slice A0 ms.length c0, .slice A1 mv.length c1, .slice A2 rs.length c2] 26))
  have HK0 := Aside0.mk (Blk.new w #[.slice A0 ms.length c0, .slice A1 mv.length c1, .slice A2 rs.length c2] 26)
  have HL1 : Aside0 (∀ (W : World) (b : Nat), Below w.heap.size w W → W.heap.size = b → Calls Tryz.prog 127 #[.string ⟨#[112, 105, 101, 99, 101]⟩, .slice (some ⟨b, 0, none⟩) 1 1] (W.alloc (.cells #[.int .i64 ms.length] 3)) fun e w' => e = .returned (.string (lineB dig nmPiece [(ms.length : Int)])) ∧ Below (W.alloc (.cells #[.int .i64 ms.length] 3)).heap.size (W.alloc (.cells #[.int .i64 ms.length] 3)) w') :=
    ⟨fun W b hW hb => line1 DD.out nmPiece (by decide) PP.out.n hW hb⟩
  clear h D P
  go_enter Tryz.func119, Tryz.ntmps119
  go_wp2_with (go_at_call 127; (with_reducible refine (HL1.out _ _ ?_ ?_).mono ?_); (exact HB0.out); (simp only [World.size_alloc]); rintro e w1 ⟨rfl, hb1⟩; have HB1 := Aside0.mk (bthen (below_alloc HB0.out _) hb1); have hk := (HK0.out.alloc (.cells #[.int .i64 ms.length] 3)).below hb1; have hk0 := hk.cell 0 rfl; have hkl := hk.lt; have HK1 := Aside0.mk hk; clear hb1 hk)
  have HS1 := Aside0.mk (str_own w1 (lineB dig nmPiece [(ms.length : Int)]))
  have HBs := Aside0.mk (below_alloc HB1.out (.cells #[.string (lineB dig nmPiece [(ms.length : Int)])] 9))
  go_loopg [3, 21] (ms.length) (fun k v i wr => ∃ (j : Nat) (Os : List ByteArray), j + k = ms.length ∧ i = .int .i64 j ∧ Os.length = j + 1 ∧ Aside0 (Os = (lineB dig nmPiece [(ms.length : Int)] :: (ms.take j).map (meshLine dig))) ∧ Aside0 (OwnS wr w.heap.size Os v) ∧ Below w.heap.size w wr ∧ Aside0 (Blk wr w.heap.size #[.slice A0 ms.length c0, .slice A1 mv.length c1, .slice A2 rs.length c2] 26))
  case atStart => exact ⟨0, _, by omega, rfl, rfl, ⟨rfl⟩, ⟨Kd.R_lower HS1.out HB1.out.size⟩, HBs.out, ⟨HK1.out.alloc _⟩⟩
  case round =>
    obtain ⟨j, Os, hj, rfl, hos, HO, HV, hBr, HKr⟩ := hrel
    have hj' : j ≤ ms.length := by omega
    have HJ := Aside0.mk hj
    clear hj
    obtain ⟨g, cap, rfl, hg1, hg2, hg3⟩ := HV.out.form (by omega)
    have hosl : Os.length ≤ 1001 := by omega
    have HOS := Aside0.mk hos
    clear hos
    by_cases hlt : j < ms.length
    · obtain ⟨x, hx⟩ : ∃ x, ms[j]? = some x := ⟨_, List.getElem?_eq_getElem hlt⟩
      obtain ⟨ad, rfl, hc0, hc1⟩ := at_mesh (Kd.C_below H.out.r0 hBr) hx hlt
      have hpx := PP.out.m x (List.mem_of_getElem? hx)
      have HL2 : Aside0 (∀ (W : World) (b : Nat), Below w.heap.size w W → W.heap.size = b → Calls Tryz.prog 127 #[.string ⟨#[109, 101, 115, 104]⟩, .slice (some ⟨b, 0, none⟩) 2 2] (W.alloc (.cells #[.int .i64 x.f0.f0, .int .i64 x.f0.f1] 3)) fun e w' => e = .returned (.string (meshLine dig x)) ∧ Below (W.alloc (.cells #[.int .i64 x.f0.f0, .int .i64 x.f0.f1] 3)).heap.size (W.alloc (.cells #[.int .i64 x.f0.f0, .int .i64 x.f0.f1] 3)) w') :=
        ⟨fun W b hW hb => line2 DD.out nmMesh (by decide) hpx.1 hpx.2 hW hb⟩
      have HX := Aside0.mk hx
      have HAl := Aside0.mk (below_alloc (below_alloc (Below.refl wr.heap.size wr) (.cells #[.int .i64 x.f0.f0, .int .i64 x.f0.f1] 64)) (.cells #[.int .i64 x.f0.f0, .int .i64 x.f0.f1] 3))
      clear hx hpx
      go_wp2_with (first
        | (go_at_call 127; (with_reducible refine (HL2.out _ _ ?_ ?_).mono ?_); (exact below_alloc hBr _); (simp only [World.size_alloc]); rintro e w5 ⟨rfl, hb5⟩; have hb6 := bthen HAl.out hb5; have HV5 := Aside0.mk (OwnS.below HV.out hb6); have HB5 := Aside0.mk (bthen hBr hb6); have HK5 := Aside0.mk (HKr.out.below hb6); clear hb5 hb6)
        | (at_builtin; go_must (refine Kd.R_append kStr (w0 := w) w.heap.size rfl (.tmp 25) (.tmp 34) 150 9 (.string ⟨#[]⟩) 16 rfl Tryz.underlying150 infoS rfl (by decide) (by decide) _ Os (meshLine dig x) [.string (meshLine dig x)] (fun _ => True) (fun _ => False) rfl rfl rfl (fun _ h => h.elim) (fun _ _ => trivial) HV5.out HB5.out ?_ ?_ ?_); exact HB5.out.size; omega; intro v1 w6 hr1 hb1 hgw _; have HR1 := Aside0.mk hr1; have HK6 := Aside0.mk (HK5.out.grown hgw (Kd.R_ne HV5.out HK5.out (by decide))); clear hr1 hgw))
      go_roundg (gk - 1)
      case measure => have := HJ.out; omega
      case rel =>
        refine ⟨j + 1, Os ++ [meshLine dig x], by have := HJ.out; omega, by go_num, by rw [List.length_append, HOS.out]; rfl, ⟨?_⟩, HR1, hb1, HK6⟩
        rw [HO.out, List.take_add_one, HX.out]
        simp
    · obtain rfl : j = ms.length := by omega
      have HIR : Aside0 (IR wr A1 c1 mv) := ⟨⟨Kd.C_below H.out.r1 hBr, H.out.c1, H.out.l1⟩⟩
      have HLm : Aside0 (Calls Tryz.prog 127 #[.string ⟨#[109, 111, 118, 101, 115]⟩, .slice A1 mv.length c1] wr fun e w' => e = .returned (.string (lineB dig nmMoves mv)) ∧ Below wr.heap.size wr w') := ⟨line_at (DD.out.below hBr) nmMoves (by decide) HIR.out PP.out.v⟩
      have hk1 : wr.cell? ⟨w.heap.size, 1, none⟩ = some (.slice A1 mv.length c1) := HKr.out.cell 1 rfl
      have HVr := HV
      clear HV
      go_wp2_with (first
        | (go_at_call 127; (with_reducible refine HLm.out.mono ?_); rintro e w5 ⟨rfl, hb5⟩; have HV5 := Aside0.mk (OwnS.below HVr.out hb5); have HB5 := Aside0.mk (bthen hBr hb5); have HK5 := Aside0.mk (HKr.out.below hb5); clear hb5)
        | (at_builtin; go_must (refine Kd.R_append kStr (w0 := w) w.heap.size rfl (.tmp 37) (.tmp 41) 150 9 (.string ⟨#[]⟩) 16 rfl Tryz.underlying150 infoS rfl (by decide) (by decide) _ Os (lineB dig nmMoves mv) [.string (lineB dig nmMoves mv)] (fun _ => True) (fun _ => False) rfl rfl rfl (fun _ h => h.elim) (fun _ _ => trivial) HV5.out HB5.out ?_ ?_ ?_); exact HB5.out.size; omega; intro v1 w6 hr1 hb1 hgw _; have HR1 := Aside0.mk hr1; have HB6 := Aside0.mk hb1; have HK6 := Aside0.mk (HK5.out.grown hgw (Kd.R_ne HV5.out HK5.out (by decide))); have hk2 : w6.cell? ⟨w.heap.size, 2, none⟩ = some (.slice A2 rs.length c2) := HK6.out.cell 2 rfl; clear hr1 hb1 hgw))
      go_loopg [3, 46] (rs.length) (fun k v i wr => ∃ (j : Nat) (Qs : List ByteArray), j + k = rs.length ∧ i = .int .i64 j ∧ Qs.length = ms.length + 2 + j ∧ Aside0 (Qs = (Os ++ [lineB dig nmMoves mv]) ++ (rs.take j).map (readLine dig)) ∧ Aside0 (OwnS wr w.heap.size Qs v) ∧ Below w.heap.size w wr ∧ Aside0 (Blk wr w.heap.size #[.slice A0 ms.length c0, .slice A1 mv.length c1, .slice A2 rs.length c2] 26))
      case atStart => exact ⟨0, _, by omega, rfl, by rw [List.length_append, HOS.out]; rfl, ⟨by simp⟩, HR1, HB6.out, HK6⟩
      case round =>
        obtain ⟨j, Qs, hj, rfl, hqs, HQ, HV, hBq, HKq⟩ := hrel
        have hj' : j ≤ rs.length := by omega
        have HJ := Aside0.mk hj
        clear hj
        obtain ⟨g4, cap4, rfl, hg4, hg5, hg6⟩ := HV.out.form (by omega)
        have hqsl : Qs.length ≤ 2002 := by omega
        have HQS := Aside0.mk hqs
        clear hqs
        by_cases hlt : j < rs.length
        · obtain ⟨x, hx⟩ : ∃ x, rs[j]? = some x := ⟨_, List.getElem?_eq_getElem hlt⟩
          obtain ⟨ad, rfl, hc0, hc1, hc2, hc3⟩ := at_reading (Kd.C_below H.out.r2 hBq) hx hlt
          have hpx := PP.out.r x (List.mem_of_getElem? hx)
          have HL2 : Aside0 (∀ (W : World) (b : Nat), Below w.heap.size w W → W.heap.size = b → Calls Tryz.prog 127 #[.string ⟨#[114, 101, 97, 100, 105, 110, 103]⟩, .slice (some ⟨b, 0, none⟩) 4 4] (W.alloc (.cells #[.int .i64 x.f0, .int .i64 x.f1, .int .i64 x.f2, .int .i64 x.f3] 3)) fun e w' => e = .returned (.string (readLine dig x)) ∧ Below (W.alloc (.cells #[.int .i64 x.f0, .int .i64 x.f1, .int .i64 x.f2, .int .i64 x.f3] 3)).heap.size (W.alloc (.cells #[.int .i64 x.f0, .int .i64 x.f1, .int .i64 x.f2, .int .i64 x.f3] 3)) w') :=
            ⟨fun W b hW hb => line4 DD.out nmReading (by decide) hpx.1 hpx.2.1 hpx.2.2.1 hpx.2.2.2 hW hb⟩
          have HX := Aside0.mk hx
          have HAl := Aside0.mk (below_alloc (below_alloc (Below.refl wr.heap.size wr) (.cells #[.int .i64 x.f0, .int .i64 x.f1, .int .i64 x.f2, .int .i64 x.f3] 66)) (.cells #[.int .i64 x.f0, .int .i64 x.f1, .int .i64 x.f2, .int .i64 x.f3] 3))
          clear hx hpx
          go_wp2_with (first
            | (go_at_call 127; (with_reducible refine (HL2.out _ _ ?_ ?_).mono ?_); (exact below_alloc hBq _); (simp only [World.size_alloc]); rintro e w5 ⟨rfl, hb5⟩; have hb6 := bthen HAl.out hb5; have HV5 := Aside0.mk (OwnS.below HV.out hb6); have HB5 := Aside0.mk (bthen hBq hb6); have HK5 := Aside0.mk (HKq.out.below hb6); clear hb5 hb6)
            | (at_builtin; go_must (refine Kd.R_append kStr (w0 := w) w.heap.size rfl (.tmp 50) (.tmp 61) 150 9 (.string ⟨#[]⟩) 16 rfl Tryz.underlying150 infoS rfl (by decide) (by decide) _ Qs (readLine dig x) [.string (readLine dig x)] (fun _ => True) (fun _ => False) rfl rfl rfl (fun _ h => h.elim) (fun _ _ => trivial) HV5.out HB5.out ?_ ?_ ?_); exact HB5.out.size; omega; intro v1 w6 hr1 hb1 hgw _; have HR1 := Aside0.mk hr1; have HK6 := Aside0.mk (HK5.out.grown hgw (Kd.R_ne HV5.out HK5.out (by decide))); clear hr1 hgw))
          go_roundg (gk - 1)
          case measure => have := HJ.out; omega
          case rel =>
            refine ⟨j + 1, Qs ++ [readLine dig x], by have := HJ.out; omega, by go_num, by rw [List.length_append, HQS.out]; rfl, ⟨?_⟩, HR1, hb1, HK6⟩
            rw [HQ.out, List.take_add_one, HX.out]
            simp
        · obtain rfl : j = rs.length := by omega
          have HE : Aside0 (Qs = linesB dig ms mv rs) := ⟨by rw [HQ.out, HO.out, List.take_length, List.take_length]; rfl⟩
          have HSz : Aside0 (∀ x ∈ Qs, x.size ≤ 20005) := ⟨by
            rw [HE.out]
            exact linesB_size DD.out PP.out H.out.l1⟩
          obtain ⟨w2, rfl⟩ : ∃ w2 : World, w2 = wr := ⟨_, rfl⟩
          obtain ⟨gk2, rfl⟩ : ∃ gk2 : Nat, gk2 = gk := ⟨_, rfl⟩
          have hQl : Qs.length ≤ 2002 := hqsl
          go_wp2
          go_loopg [8, 66] (Qs.length) (fun k s i wr3 => ∃ (j : Nat), j + k = Qs.length ∧ i = .int .i64 j ∧ s = .int .i64 (sumL Qs j) ∧ wr3 = w2)
          case atStart => exact ⟨0, by omega, rfl, rfl, rfl⟩
          case round =>
            obtain ⟨j, hj, rfl, rfl, rfl⟩ := hrel
            have hj' : j ≤ Qs.length := by omega
            have HJ3 := Aside0.mk hj
            clear hj
            have hsb := sumL_bound HSz.out j hj' (by omega)
            by_cases hlt3 : j < Qs.length
            · obtain ⟨x, hx⟩ : ∃ x, Qs[j]? = some x := ⟨_, List.getElem?_eq_getElem hlt3⟩
              have hcx : wr.cell? ⟨g4, j, none⟩ = some (.string x) := HV.out.cell rfl hx
              have hxs := HSz.out x (List.mem_of_getElem? hx)
              have HX := Aside0.mk hx
              clear hx
              go_wp2
              obtain ⟨gk3, rfl⟩ : ∃ gk3 : Nat, gk3 = gk := ⟨_, rfl⟩
              obtain ⟨w3, rfl⟩ : ∃ w3 : World, w3 = wr := ⟨_, rfl⟩
              go_loopg [8, 73] (x.size) (fun k s i wr3 => ∃ (i2 : Nat), i2 + k = x.size ∧ i = .int .i64 i2 ∧ s = .int .i64 (sumL Qs j + sumK x j i2) ∧ wr3 = w3)
              case atStart => exact ⟨0, by omega, rfl, by rw [sumK, Int.add_zero], rfl⟩
              case round =>
                obtain ⟨i2, hi, rfl, rfl, hw⟩ := hrel
                subst hw
                have hi' : i2 ≤ x.size := by omega
                have HJ4 := Aside0.mk hi
                clear hi
                have hkb := sumK_bound (s := x) (i := j) (by omega) i2 (by omega)
                by_cases hlt4 : i2 < x.size
                · have hst := step_bound (b := x[i2].toNat) (k := i2) (i := j) (UInt8.toNat_lt _) (by omega) (by omega)
                  have hbb := UInt8.toNat_lt x[i2]
                  have hse := Aside0.mk (step_eq (S := sumL Qs j) (K := sumK x j i2) (b := (x[i2].toNat : Int)) (k := i2) (i := j) (by omega) hst (by omega) (by omega))
                  clear hst hbb
                  go_wp2
                  go_roundg (gk - 1)
                  case measure => have := HJ4.out; omega
                  case rel =>
                    refine ⟨i2 + 1, by have := HJ4.out; omega, by go_num, ?_, rfl⟩
                    rw [hse.out, sumK, getD_byte hlt4]
                · obtain rfl : i2 = x.size := by omega
                  go_wp2
                  go_roundg (gk3 - 1)
                  case measure => have := HJ3.out; omega
                  case rel =>
                    refine ⟨j + 1, by have := HJ3.out; omega, by go_num, ?_, rfl⟩
                    rw [sumL, List.getD_eq_getElem?_getD, HX.out]
                    rfl
            · obtain rfl : j = Qs.length := by omega
              have hjl := join_len Qs HSz.out
              have HJn : Aside0 (Calls Tryz.prog 128 #[.slice (some ⟨g4, 0, none⟩) Qs.length cap4, .string ⟨#[10]⟩] wr fun e w' => e = .returned (.string (joinB Qs)) ∧ Below wr.heap.size wr w') :=
                ⟨Tryz.strings_Join g4 0 cap4 Qs ⟨#[10]⟩ wr (fun j x hx => by rw [Nat.zero_add]; exact HV.out.cell rfl hx) hg5 (by omega) hg6 (Nat.le_trans hjl (by omega))⟩
              have hjs : (joinB Qs).size ≤ Qs.length * 20006 := hjl
              clear hjl
              obtain ⟨jb, hjb⟩ : ∃ jb, joinB Qs = jb := ⟨_, rfl⟩
              rw [hjb] at HJn hjs
              have HJB := Aside0.mk hjb
              clear hjb
              obtain ⟨S, hS⟩ : ∃ S, sumL Qs Qs.length = S := ⟨_, rfl⟩
              rw [hS] at hsb
              rw [hS]
              have HSS := Aside0.mk hS
              clear hS
              have hjs2 : jb.size ≤ 40100000 := by omega
              have h1 := DD.out.len (S % 113 / 100) (DD.out.small _ (by omega) (by omega))
              have h2 := DD.out.len (S % 113 / 10 % 10) (DD.out.small _ (by omega) (by omega))
              have h3 := DD.out.len (S % 113 % 10) (DD.out.small _ (by omega) (by omega))
              have hq1 : ¬ 9223372036854775807 < jb.size + 5 := by omega
              have hq2 : ¬ 9223372036854775807 < jb.size + 5 + (dig (S % 113 / 100)).length := by omega
              have hq3 : ¬ 9223372036854775807 < jb.size + 5 + (dig (S % 113 / 100)).length + (dig (S % 113 / 10 % 10)).length := by omega
              have hq4 : ¬ 9223372036854775807 < jb.size + 5 + (dig (S % 113 / 100)).length + (dig (S % 113 / 10 % 10)).length + (dig (S % 113 % 10)).length := by omega
              have hq5 : ¬ 9223372036854775807 < jb.size + 5 + (dig (S % 113 / 100)).length + (dig (S % 113 / 10 % 10)).length + (dig (S % 113 % 10)).length + 1 := by omega
              go_wp2_with (first
                | (go_at_call 128; (with_reducible refine HJn.out.mono ?_); rintro e w8 ⟨rfl, hb8⟩; have HB8 := Aside0.mk (bthen hBq hb8); clear hb8)
                | (go_at_call 129; (with_reducible refine (DD.out.it (S % 113 / 100) (DD.out.small _ (by omega) (by omega)) w8 HB8.out).mono ?_); rintro e w9 ⟨rfl, hb9⟩; have HB9 := Aside0.mk (bthen HB8.out hb9); clear hb9)
                | (go_at_call 129; (with_reducible refine (DD.out.it (S % 113 / 10 % 10) (DD.out.small _ (by omega) (by omega)) w9 HB9.out).mono ?_); rintro e wa ⟨rfl, hba⟩; have HBa := Aside0.mk (bthen HB9.out hba); clear hba)
                | (go_at_call 129; (with_reducible refine (DD.out.it (S % 113 % 10) (DD.out.small _ (by omega) (by omega)) wa HBa.out).mono ?_); rintro e wb ⟨rfl, hbb⟩; have HBb := Aside0.mk (bthen HBa.out hbb); clear hbb))
              go_ret
              refine ⟨?_, HBb.out⟩
              rw [textB, ← HE.out, HSS.out, HJB.out]
              rfl
end
end Go.Proofs.YtaojkmalpihmbaaGreatDoor.M

