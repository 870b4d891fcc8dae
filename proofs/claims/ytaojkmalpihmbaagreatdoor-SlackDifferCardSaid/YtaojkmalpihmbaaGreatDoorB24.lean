import Derived.Test.YtaojkmalpihmbaaGreatDoorB23
namespace Go.Proofs.YtaojkmalpihmbaaGreatDoor.M
open Go.RowKit Go.Proofs.YtaojkmalpihmbaaGreatDoorW.PrintWords Go.Proofs.YtaojkmalpihmbaaGreatDoorW.PrintLast Go.Proofs.YtaojkmalpihmbaaGreatDoorW.PrintMore Go.Proofs.YtaojkmalpihmbaaGreatDoor.Q
set_option linter.unusedVariables false
set_option linter.unusedSimpArgs false

/-! Known, Plays. -/
theorem lastL_length (pl mv : List Int) : (lastL pl mv).length = pl.length + 1 := by
  have h : (runL pl mv) ≠ [] := fun e => by have := runL_length pl mv; rw [e] at this; simp at this
  unfold lastL
  rw [List.getLastD_eq_getLast?, List.getLast?_eq_some_getLast h]
  exact runGo_elem pl mv _ (begunL_length pl) _ (List.getLast_mem h)
theorem truthsFrom_mem (mv : List Int) (rs : List S66) : ∀ (ms : List S64) (pl : List Int), ∀ x ∈ truthsFrom mv rs ms pl, x.f0.length = pl.length + ms.length ∧ x.f1.length = x.f0.length + 1
  | [], pl, x, hx => by
    simp only [truthsFrom] at hx
    split at hx
    · simp at hx
      subst hx
      exact ⟨rfl, lastL_length _ _⟩
    · simp at hx
  | m :: ms, pl, x, hx => by
    simp only [truthsFrom, List.mem_flatMap] at hx
    obtain ⟨n, _, hx⟩ := hx
    have h := truthsFrom_mem mv rs ms (pl ++ [n]) x hx
    simp at h ⊢
    omega
theorem truthsL_mem {ms : List S64} {mv : List Int} {rs : List S66} {x : S89} (hx : x ∈ truthsL ms mv rs) : x.f0.length = ms.length ∧ x.f1.length = ms.length + 1 := by
  have h := truthsFrom_mem mv rs ms [] x hx
  simp at h
  omega
def one (n : Int) : S44 := ⟨n, n⟩
def placeAt (i : Nat) (x : S89) : S44 := one (x.f1.getD i 0)
def playAt (i : Nat) (x : S89) : S44 := one (x.f0.getD i 0)
set_option maxHeartbeats 1000000 in
set_option maxRecDepth 100000 in
theorem known1_of {w : World} {b i : Nat} (hb : Blk w b #[.int .i64 (i : Int)] 3) : OfFn 50 #[.pointer (some ⟨b, 0, none⟩)] w (fun x => i < x.f1.length) (placeAt i) := by
  refine ⟨ent Tryz.func50 (by kernel_rfl) rfl, ?_⟩
  intro x W A c A' c' hB hlt ht
  have hcb := (hb.below hB).cell 0 rfl
  have hlb := (hb.below hB).lt
  have hl := ht.q.l
  obtain ⟨v, hv⟩ : ∃ v, x.f1[i]? = some v := ⟨_, List.getElem?_eq_getElem hlt⟩
  obtain ⟨ad, rfl, hc⟩ := at_int ht.q.r hv hlt
  have hcA : ∀ o o' : Obj, ((W.alloc o).alloc o').cell? (ad.add i) = some (.int .i64 v) := fun o o' => pw_cell_below (below_alloc (below_alloc (Below.refl _ _) o) o') hc
  have HK := Aside0.mk ((Blk.new (W.alloc (.cells #[.slice A x.f0.length c, .slice (some ad) x.f1.length c'] 89)) #[.int .i64 0, .int .i64 0] 44))
  have HV := Aside0.mk hv
  have HB0 := Aside0.mk (below_alloc (below_alloc (Below.refl W.heap.size W) (.cells #[.slice A x.f0.length c, .slice (some ad) x.f1.length c'] 89)) (.cells #[.int .i64 0, .int .i64 0] 44))
  clear hb hB ht hv
  simp only [List.push_toArray, List.append_toArray, List.nil_append, List.cons_append]
  go_enter Tryz.func50, Tryz.ntmps50
  go_wp2_with (go_at_call 51; (with_reducible refine (just_calls _ _).mono ?_); rintro e w1 ⟨rfl, hb1⟩; have HB1 := Aside0.mk hb1; have hk := HK.out.below hb1; rw [World.size_alloc] at hk; have HK2 := Aside0.mk hk; have hq0 := hk.cell 0 rfl; have hq1 := hk.cell 1 rfl; have hqf0 := hk.free 0; have hqf1 := hk.free 1; have hql := hk.lt; clear hb1 hk)
  refine bodyPost_ret (results_cell_row rfl _ _ (W.heap.size + 1) 44 #[.int .i64 v, .int .i64 v] (0,0) _ (by rfl) ((HK2.out.put 0 _ rfl).put 1 _ rfl) Tryz.underlying44 rfl (by kernel_rfl)) rfl ?_
  refine ⟨?_, below_set (below_set (bthen HB0.out HB1.out) (by omega)) (by omega)⟩
  simp only [placeAt, one, List.getD_eq_getElem?_getD, HV.out, Option.getD_some]
set_option maxHeartbeats 1000000 in
set_option maxRecDepth 100000 in
theorem plays1_of {w : World} {b i : Nat} (hb : Blk w b #[.int .i64 (i : Int)] 3) : OfFn 52 #[.pointer (some ⟨b, 0, none⟩)] w (fun x => i < x.f0.length) (playAt i) := by
  refine ⟨ent Tryz.func52 (by kernel_rfl) rfl, ?_⟩
  intro x W A c A' c' hB hlt ht
  have hcb := (hb.below hB).cell 0 rfl
  have hlb := (hb.below hB).lt
  have hl := ht.p.l
  obtain ⟨v, hv⟩ : ∃ v, x.f0[i]? = some v := ⟨_, List.getElem?_eq_getElem hlt⟩
  obtain ⟨ad, rfl, hc⟩ := at_int ht.p.r hv hlt
  have hcA : ∀ o o' : Obj, ((W.alloc o).alloc o').cell? (ad.add i) = some (.int .i64 v) := fun o o' => pw_cell_below (below_alloc (below_alloc (Below.refl _ _) o) o') hc
  have HK := Aside0.mk ((Blk.new (W.alloc (.cells #[.slice (some ad) x.f0.length c, .slice A' x.f1.length c'] 89)) #[.int .i64 0, .int .i64 0] 44))
  have HV := Aside0.mk hv
  have HB0 := Aside0.mk (below_alloc (below_alloc (Below.refl W.heap.size W) (.cells #[.slice (some ad) x.f0.length c, .slice A' x.f1.length c'] 89)) (.cells #[.int .i64 0, .int .i64 0] 44))
  clear hb hB ht hv
  simp only [List.push_toArray, List.append_toArray, List.nil_append, List.cons_append]
  go_enter Tryz.func52, Tryz.ntmps52
  go_wp2_with (go_at_call 51; (with_reducible refine (just_calls _ _).mono ?_); rintro e w1 ⟨rfl, hb1⟩; have HB1 := Aside0.mk hb1; have hk := HK.out.below hb1; rw [World.size_alloc] at hk; have HK2 := Aside0.mk hk; have hq0 := hk.cell 0 rfl; have hq1 := hk.cell 1 rfl; have hqf0 := hk.free 0; have hqf1 := hk.free 1; have hql := hk.lt; clear hb1 hk)
  refine bodyPost_ret (results_cell_row rfl _ _ (W.heap.size + 1) 44 #[.int .i64 v, .int .i64 v] (0,0) _ (by rfl) ((HK2.out.put 0 _ rfl).put 1 _ rfl) Tryz.underlying44 rfl (by kernel_rfl)) rfl ?_
  refine ⟨?_, below_set (below_set (bthen HB0.out HB1.out) (by omega)) (by omega)⟩
  simp only [playAt, one, List.getD_eq_getElem?_getD, HV.out, Option.getD_some]
section
variable {A0 A1 A2 : Option Addr} {c0 c1 c2 : Nat} {ms : List S64} {mv : List Int} {rs : List S66}
def knownL (ms : List S64) (mv : List Int) (rs : List S66) : List S44 := if askE ms mv rs true = 0 then (List.range (ms.length + 1)).map fun i => overL (placeAt i) (truthsL ms mv rs) else []
def playsL (ms : List S64) (mv : List Int) (rs : List S66) : List S44 := if askE ms mv rs true = 0 then (List.range ms.length).map fun i => overL (playAt i) (truthsL ms mv rs) else []
def SpansV (w : World) (l : List S44) (er : Int) (e : Ending) (w' : World) : Prop :=
  ∃ v, e = .returned (.tuple #[v, .int .i64 er]) ∧ Kd.R k44 44 w' w.heap.size (fun _ => True) v l
theorem askE_piece {fine : Bool} (h : askE ms mv rs fine = 0) : pieceB ms mv rs = true ∧ fine = true := by
  unfold askE at h
  split at h
  · next hb => simpa using hb
  · cases h
set_option maxHeartbeats 4000000 in
set_option maxRecDepth 100000 in
theorem Known_calls {w : World} (h : PR w A0 c0 ms A1 c1 mv A2 c2 rs) :
    Calls Tryz.prog 17 #[.agg #[.slice A0 ms.length c0, .slice A1 mv.length c1, .slice A2 rs.length c2]] w fun e w' =>
      SpansV w (knownL ms mv rs) (askE ms mv rs true) e w' ∧ Below w.heap.size w w' := by
  have H := Aside0.mk h
  have HB0 := Aside0.mk (below_alloc (Below.refl w.heap.size w) (.cells #[.slice A0 ms.length c0, .slice A1 mv.length c1, .slice A2 rs.length c2] 26))
  clear h
  by_cases hask : askE ms mv rs true = 0
  · have HA := Aside0.mk hask
    have hlen := piece_len (askE_piece hask).1
    have hms : ms.length ≤ 4 := hlen.2.1
    have hl6 : (truthsL ms mv rs).length ≤ 625 := truthsL_length (askE_piece hask).1
    clear hask hlen
    go_enter Tryz.func17, Tryz.ntmps17
    go_wp2_with (go_at_call 48; (with_reducible refine (asked_calls (H.out.below HB0.out) true).mono ?_); rintro e w1 ⟨hv, hb1⟩; rcases hv with ⟨_, A3, c3, rfl, hall⟩ | ⟨hne, _⟩; rotate_left 1; exact absurd HA.out hne; have HBB1 := Aside0.mk (bthen HB0.out hb1); have HAll := Aside0.mk hall; clear hb1 hall)
    have HBx := Aside0.mk (below_alloc HBB1.out (.cells #[.slice A0 ms.length c0, .slice A1 mv.length c1, .slice A2 rs.length c2, .slice A3 (truthsL ms mv rs).length c3] 84))
    have HKx := Aside0.mk (Blk.new w1 #[.slice A0 ms.length c0, .slice A1 mv.length c1, .slice A2 rs.length c2, .slice A3 (truthsL ms mv rs).length c3] 84)
    have HRx := Aside0.mk (Kd.C_below (Kd.R_reads' HAll.out).2.2 (below_alloc (Below.refl _ _) (.cells #[.slice A0 ms.length c0, .slice A1 mv.length c1, .slice A2 rs.length c2, .slice A3 (truthsL ms mv rs).length c3] 84)))
    obtain ⟨W1, hW1⟩ : ∃ W1, w1.alloc (.cells #[.slice A0 ms.length c0, .slice A1 mv.length c1, .slice A2 rs.length c2, .slice A3 (truthsL ms mv rs).length c3] 84) = W1 := ⟨_, rfl⟩
    rw [hW1] at HBx HKx HRx ⊢
    clear hW1
    have hwz := HBx.out.size
    have hmem := Aside0.mk (fun x (hx : x ∈ truthsL ms mv rs) => truthsL_mem hx)
    go_loopg [6, 21] ((ms.length + 1)) (fun k v i wr => ∃ (j : Nat) (Os : List S44), j + k = (ms.length + 1) ∧ i = .int .i64 j ∧ Os.length = j ∧ Aside0 (Os = (List.range j).map fun i => overL (placeAt i) (truthsL ms mv rs)) ∧ Aside0 (Kd.R k44 44 wr w.heap.size (fun _ => True) v Os) ∧ Aside0 (Above W1.heap.size v) ∧ Aside0 (Below W1.heap.size W1 wr) ∧ Below w.heap.size w wr)
    case atStart => exact ⟨0, [], by omega, rfl, rfl, ⟨rfl⟩, ⟨none_row _ _ _ _ _⟩, ⟨above_none _⟩, ⟨Below.refl _ _⟩, HBx.out⟩
    case round =>
      obtain ⟨j, Os, hj, rfl, hos, HOs, HV, HAb, HB4, hBr⟩ := hrel
      have hj' : j ≤ (ms.length + 1) := by omega
      have HJ := Aside0.mk hj
      clear hj
      by_cases hlt : j < (ms.length + 1)
      · have HO9 := Aside0.mk hos
        clear hos
        obtain ⟨Av, cv, rfl⟩ := Kd.R_slice HV.out
        have hosl : Os.length ≤ 9 := by rw [HO9.out]; omega
        have hkx := HKx.out.below HB4.out
        have hx0 := hkx.cell 0 rfl
        have hx1 := hkx.cell 1 rfl
        have hx2 := hkx.cell 2 rfl
        have hx3 := hkx.cell 3 rfl
        have hxl := hkx.lt
        have HSZ := Aside0.mk HB4.out.size
        have HT := Aside0.mk hlt
        have HAl := Aside0.mk (below_alloc (Below.refl wr.heap.size wr) (.cells #[.int .i64 (j : Int)] 3))
        have HBn := Aside0.mk (Blk.new wr #[.int .i64 (j : Int)] 3)
        have hent := (known1_of HBn.out).1
        clear hkx
        go_wp2_with (first | (go_at_call 49; (with_reducible refine (over_calls (known1_of HBn.out) (.slice A0 ms.length c0) (.slice A1 mv.length c1) (.slice A2 rs.length c2) ⟨_, _, _, _, _, _, _, _, _, rfl, rfl, rfl⟩ (Kd.C_below (Kd.C_below HRx.out HB4.out) HAl.out) (by omega) ?_).mono ?_); (intro x hx; have h9 := hmem.out x hx; have h8 := HT.out; refine ⟨?_, ?_, ?_⟩ <;> omega); rintro e w2 ⟨rfl, hb2⟩; have HB2 := Aside0.mk (bthen HAl.out hb2); have HV2 := Aside0.mk (Kd.R_below HV.out (bthen HAl.out hb2)); have HB5 := Aside0.mk (HB4.out.trans ((bthen HAl.out hb2).mono HSZ.out)); have HB6 := Aside0.mk (hBr.trans ((bthen HAl.out hb2).mono hBr.size)); have HSZ2 := Aside0.mk (Nat.le_trans HSZ.out (bthen HAl.out hb2).size); clear hb2) | (at_builtin; go_must (refine Kd.R_append k44 (w0 := w) w.heap.size rfl (.tmp 24) (.tmp 28) 34 44 (.agg #[.int .i64 0, .int .i64 0]) 16 rfl Tryz.underlying34 info44 rfl (by decide) (by decide) _ Os (overL (placeAt j) (truthsL ms mv rs)) _ (fun _ => True) (fun _ => False) rfl rfl (k44_mkM _ _ _ _) (fun _ h => h.elim) (fun _ _ => trivial) HV2.out HB6.out ?_ ?_ ?_); exact below_size HB6.out; omega; intro v1 w3 hr1 hb1 hg1 ha1; have HR5 := Aside0.mk hr1; have HG5 := Aside0.mk hg1; have HA5 := Aside0.mk ha1; clear hr1 hg1 ha1))
        go_roundg (gk - 1)
        case measure => have := HJ.out; omega
        case rel =>
          refine ⟨j + 1, Os ++ [overL (placeAt j) (truthsL ms mv rs)], by have := HJ.out; omega, by go_num, by rw [List.length_append, HO9.out]; rfl, ⟨?_⟩, HR5, ⟨HAb.out.next HSZ2.out HA5.out⟩, ⟨HAb.out.below HB5.out HSZ2.out HG5.out⟩, hb1⟩
          rw [HOs.out, List.range_succ, List.map_append]
          rfl
      · obtain rfl : j = (ms.length + 1) := by omega
        go_wp2
        go_ret2
        refine ⟨?_, hBr⟩
        unfold SpansV
        rw [HA.out, show knownL ms mv rs = _ from if_pos HA.out, ← HOs.out]
        exact ⟨_, rfl, HV.out⟩
  · have HA := Aside0.mk hask
    have hne : (askE ms mv rs true == 0) = false := by simpa using hask
    obtain ⟨er, her⟩ : ∃ er, er = askE ms mv rs true := ⟨_, rfl⟩
    rw [← her] at hne
    have HE := Aside0.mk her
    have HL : Aside0 (knownL ms mv rs = []) := ⟨if_neg hask⟩
    clear hask her
    go_enter Tryz.func17, Tryz.ntmps17
    go_wp2_with (go_at_call 48; (with_reducible refine (asked_calls (H.out.below HB0.out) true).mono ?_); rintro e w1 ⟨hv, hb1⟩; rcases hv with ⟨h0, _⟩ | ⟨_, rfl⟩; exact absurd h0 HA.out; have HBB1 := Aside0.mk (bthen HB0.out hb1); rw [← HE.out]; clear hb1)
    go_ret2
    refine ⟨?_, below_alloc HBB1.out _⟩
    unfold SpansV
    rw [← HE.out, HL.out]
    exact ⟨_, rfl, none_row _ _ _ _ _⟩
set_option maxHeartbeats 4000000 in
set_option maxRecDepth 100000 in
theorem Plays_calls {w : World} (h : PR w A0 c0 ms A1 c1 mv A2 c2 rs) :
    Calls Tryz.prog 18 #[.agg #[.slice A0 ms.length c0, .slice A1 mv.length c1, .slice A2 rs.length c2]] w fun e w' =>
      SpansV w (playsL ms mv rs) (askE ms mv rs true) e w' ∧ Below w.heap.size w w' := by
  have H := Aside0.mk h
  have HB0 := Aside0.mk (below_alloc (Below.refl w.heap.size w) (.cells #[.slice A0 ms.length c0, .slice A1 mv.length c1, .slice A2 rs.length c2] 26))
  have HK0 := Aside0.mk (Blk.new w #[.slice A0 ms.length c0, .slice A1 mv.length c1, .slice A2 rs.length c2] 26)
  clear h
  by_cases hask : askE ms mv rs true = 0
  · have HA := Aside0.mk hask
    have hlen := piece_len (askE_piece hask).1
    have hms : ms.length ≤ 4 := hlen.2.1
    have hl6 : (truthsL ms mv rs).length ≤ 625 := truthsL_length (askE_piece hask).1
    clear hask hlen
    go_enter Tryz.func18, Tryz.ntmps18
    go_wp2_with (go_at_call 48; (with_reducible refine (asked_calls (H.out.below HB0.out) true).mono ?_); rintro e w1 ⟨hv, hb1⟩; rcases hv with ⟨_, A3, c3, rfl, hall⟩ | ⟨hne, _⟩; rotate_left 1; exact absurd HA.out hne; have HBB1 := Aside0.mk (bthen HB0.out hb1); have hpk := HK0.out.below hb1; have hpk0 := hpk.cell 0 rfl; have hpkl := hpk.lt; clear hpk; have HAll := Aside0.mk hall; clear hb1 hall)
    have HBx := Aside0.mk (below_alloc HBB1.out (.cells #[.slice A0 ms.length c0, .slice A1 mv.length c1, .slice A2 rs.length c2, .slice A3 (truthsL ms mv rs).length c3] 84))
    have HKx := Aside0.mk (Blk.new w1 #[.slice A0 ms.length c0, .slice A1 mv.length c1, .slice A2 rs.length c2, .slice A3 (truthsL ms mv rs).length c3] 84)
    have HRx := Aside0.mk (Kd.C_below (Kd.R_reads' HAll.out).2.2 (below_alloc (Below.refl _ _) (.cells #[.slice A0 ms.length c0, .slice A1 mv.length c1, .slice A2 rs.length c2, .slice A3 (truthsL ms mv rs).length c3] 84)))
    obtain ⟨W1, hW1⟩ : ∃ W1, w1.alloc (.cells #[.slice A0 ms.length c0, .slice A1 mv.length c1, .slice A2 rs.length c2, .slice A3 (truthsL ms mv rs).length c3] 84) = W1 := ⟨_, rfl⟩
    rw [hW1] at HBx HKx HRx ⊢
    clear hW1
    have hwz := HBx.out.size
    have hmem := Aside0.mk (fun x (hx : x ∈ truthsL ms mv rs) => truthsL_mem hx)
    go_loopg [6, 19] (ms.length) (fun k v i wr => ∃ (j : Nat) (Os : List S44), j + k = ms.length ∧ i = .int .i64 j ∧ Os.length = j ∧ Aside0 (Os = (List.range j).map fun i => overL (playAt i) (truthsL ms mv rs)) ∧ Aside0 (Kd.R k44 44 wr w.heap.size (fun _ => True) v Os) ∧ Aside0 (Above W1.heap.size v) ∧ Aside0 (Below W1.heap.size W1 wr) ∧ Below w.heap.size w wr)
    case atStart => exact ⟨0, [], by omega, rfl, rfl, ⟨rfl⟩, ⟨none_row _ _ _ _ _⟩, ⟨above_none _⟩, ⟨Below.refl _ _⟩, HBx.out⟩
    case round =>
      obtain ⟨j, Os, hj, rfl, hos, HOs, HV, HAb, HB4, hBr⟩ := hrel
      have hj' : j ≤ ms.length := by omega
      have HJ := Aside0.mk hj
      clear hj
      by_cases hlt : j < ms.length
      · have HO9 := Aside0.mk hos
        clear hos
        obtain ⟨Av, cv, rfl⟩ := Kd.R_slice HV.out
        have hosl : Os.length ≤ 9 := by rw [HO9.out]; omega
        have hkx := HKx.out.below HB4.out
        have hx0 := hkx.cell 0 rfl
        have hx1 := hkx.cell 1 rfl
        have hx2 := hkx.cell 2 rfl
        have hx3 := hkx.cell 3 rfl
        have hxl := hkx.lt
        have HSZ := Aside0.mk HB4.out.size
        have HT := Aside0.mk hlt
        have HAl := Aside0.mk (below_alloc (Below.refl wr.heap.size wr) (.cells #[.int .i64 (j : Int)] 3))
        have HBn := Aside0.mk (Blk.new wr #[.int .i64 (j : Int)] 3)
        have hent := (plays1_of HBn.out).1
        clear hkx
        go_wp2_with (first | (go_at_call 49; (with_reducible refine (over_calls (plays1_of HBn.out) (.slice A0 ms.length c0) (.slice A1 mv.length c1) (.slice A2 rs.length c2) ⟨_, _, _, _, _, _, _, _, _, rfl, rfl, rfl⟩ (Kd.C_below (Kd.C_below HRx.out HB4.out) HAl.out) (by omega) ?_).mono ?_); (intro x hx; have h9 := hmem.out x hx; have h8 := HT.out; refine ⟨?_, ?_, ?_⟩ <;> omega); rintro e w2 ⟨rfl, hb2⟩; have HB2 := Aside0.mk (bthen HAl.out hb2); have HV2 := Aside0.mk (Kd.R_below HV.out (bthen HAl.out hb2)); have HB5 := Aside0.mk (HB4.out.trans ((bthen HAl.out hb2).mono HSZ.out)); have HB6 := Aside0.mk (hBr.trans ((bthen HAl.out hb2).mono hBr.size)); have HSZ2 := Aside0.mk (Nat.le_trans HSZ.out (bthen HAl.out hb2).size); clear hb2) | (at_builtin; go_must (refine Kd.R_append k44 (w0 := w) w.heap.size rfl (.tmp 22) (.tmp 26) 34 44 (.agg #[.int .i64 0, .int .i64 0]) 16 rfl Tryz.underlying34 info44 rfl (by decide) (by decide) _ Os (overL (playAt j) (truthsL ms mv rs)) _ (fun _ => True) (fun _ => False) rfl rfl (k44_mkM _ _ _ _) (fun _ h => h.elim) (fun _ _ => trivial) HV2.out HB6.out ?_ ?_ ?_); exact below_size HB6.out; omega; intro v1 w3 hr1 hb1 hg1 ha1; have HR5 := Aside0.mk hr1; have HG5 := Aside0.mk hg1; have HA5 := Aside0.mk ha1; clear hr1 hg1 ha1))
        go_roundg (gk - 1)
        case measure => have := HJ.out; omega
        case rel =>
          refine ⟨j + 1, Os ++ [overL (playAt j) (truthsL ms mv rs)], by have := HJ.out; omega, by go_num, by rw [List.length_append, HO9.out]; rfl, ⟨?_⟩, HR5, ⟨HAb.out.next HSZ2.out HA5.out⟩, ⟨HAb.out.below HB5.out HSZ2.out HG5.out⟩, hb1⟩
          rw [HOs.out, List.range_succ, List.map_append]
          rfl
      · obtain rfl : j = ms.length := by omega
        go_wp2
        go_ret2
        refine ⟨?_, hBr⟩
        unfold SpansV
        rw [HA.out, show playsL ms mv rs = _ from if_pos HA.out, ← HOs.out]
        exact ⟨_, rfl, HV.out⟩
  · have HA := Aside0.mk hask
    have hne : (askE ms mv rs true == 0) = false := by simpa using hask
    obtain ⟨er, her⟩ : ∃ er, er = askE ms mv rs true := ⟨_, rfl⟩
    rw [← her] at hne
    have HE := Aside0.mk her
    have HL : Aside0 (playsL ms mv rs = []) := ⟨if_neg hask⟩
    clear hask her
    go_enter Tryz.func18, Tryz.ntmps18
    go_wp2_with (go_at_call 48; (with_reducible refine (asked_calls (H.out.below HB0.out) true).mono ?_); rintro e w1 ⟨hv, hb1⟩; rcases hv with ⟨h0, _⟩ | ⟨_, rfl⟩; exact absurd h0 HA.out; have HBB1 := Aside0.mk (bthen HB0.out hb1); rw [← HE.out]; clear hb1)
    go_ret2
    refine ⟨?_, below_alloc HBB1.out _⟩
    unfold SpansV
    rw [← HE.out, HL.out]
    exact ⟨_, rfl, none_row _ _ _ _ _⟩
end
end Go.Proofs.YtaojkmalpihmbaaGreatDoor.M

namespace Go.Proofs.YtaojkmalpihmbaaGreatDoor.M
open Go.RowKit Go.Proofs.YtaojkmalpihmbaaGreatDoorW.PrintWords Go.Proofs.YtaojkmalpihmbaaGreatDoorW.PrintLast Go.Proofs.YtaojkmalpihmbaaGreatDoorW.PrintMore Go.Proofs.YtaojkmalpihmbaaGreatDoor.Q
set_option linter.unusedVariables false
set_option linter.unusedSimpArgs false

/-! sum, behind, ahead, lost. -/
def sumW (l : List Int) : Int := l.foldl (fun s x => wrap64 (s + x)) 0
theorem sumW_snoc (l : List Int) (x : Int) : sumW (l ++ [x]) = wrap64 (sumW l + x) := by simp [sumW, List.foldl_append]
set_option maxHeartbeats 1000000 in
set_option maxRecDepth 100000 in
theorem sum_calls {w : World} {A : Option Addr} {c : Nat} {l : List Int} (h : IR w A c l) :
    Calls Tryz.prog 78 #[.slice A l.length c] w fun e w' => e = .returned (.int .i64 (sumW l)) ∧ w = w' := by
  have H := Aside0.mk h
  have hl := h.l
  clear h
  go_enter Tryz.func78, Tryz.ntmps78
  go_wp2
  go_loopg [3, 8] (l.length) (fun k s i wr => ∃ (j : Nat) (n : Int), j + k = l.length ∧ s = .int .i64 n ∧ i = .int .i64 j ∧ Aside0 (n = sumW (l.take j)) ∧ w = wr)
  case atStart => exact ⟨0, 0, by omega, rfl, rfl, ⟨rfl⟩, rfl⟩
  case round =>
    obtain ⟨j, n, hj, rfl, rfl, HN, rfl⟩ := hrel
    have hj' : j ≤ l.length := by omega
    have HJ := Aside0.mk hj
    clear hj
    by_cases hlt : j < l.length
    · obtain ⟨x, hx⟩ : ∃ x, l[j]? = some x := ⟨_, List.getElem?_eq_getElem hlt⟩
      obtain ⟨ad, rfl, hc⟩ := at_int H.out.r hx hlt
      have HX := Aside0.mk hx
      clear hx
      go_wp2
      go_roundg (gk - 1)
      case measure => have := HJ.out; omega
      case rel =>
        refine ⟨j + 1, _, by have := HJ.out; omega, rfl, by go_num, ⟨?_⟩, rfl⟩
        rw [List.take_add_one, HX.out]
        show _ = sumW (l.take j ++ [x])
        rw [sumW_snoc, HN.out]
    · obtain rfl : j = l.length := by omega
      go_wp2
      go_ret
      exact ⟨by rw [HN.out, List.take_length]; rfl, rfl⟩
def behindF (i : Nat) (x : S89) : Int := wrap64 (x.f1.getD 0 0 - x.f1.getD i 0)
def aheadF (i : Nat) (x : S89) : Int := wrap64 (sumW (x.f0.take i) - behindF i x)
set_option maxHeartbeats 1000000 in
set_option maxRecDepth 100000 in
theorem behind_calls {w : World} {A : Option Addr} {c : Nat} {A' : Option Addr} {c' : Nat} {x : S89} (h : TR w A c A' c' x) (i : Nat) (hi : i < x.f1.length) :
    Calls Tryz.prog 91 #[.agg #[.slice A x.f0.length c, .slice A' x.f1.length c'], .int .i64 i] w fun e w' => e = .returned (.int .i64 (behindF i x)) ∧ Below w.heap.size w w' := by
  obtain ⟨v, hv⟩ : ∃ v, x.f1[i]? = some v := ⟨_, List.getElem?_eq_getElem hi⟩
  obtain ⟨v0, hv0⟩ : ∃ v, x.f1[0]? = some v := ⟨_, List.getElem?_eq_getElem (by omega)⟩
  have hl := h.q.l
  have hpos : 0 < x.f1.length := by omega
  obtain ⟨ad, rfl, hc⟩ := at_int h.q.r hv hi
  obtain ⟨ad', e', hc0⟩ := at_int h.q.r hv0 hpos
  cases e'
  have hcA : ∀ o : Obj, ((w.alloc o)).cell? (ad.add i) = some (.int .i64 v) := fun o => pw_cell_below (below_alloc (Below.refl _ _) o) hc
  have hz0 : ad.add 0 = ad := by
    obtain ⟨b, o, k⟩ := ad
    cases k <;> simp [Addr.add]
  rw [hz0] at hc0
  have hcB : ∀ o : Obj, ((w.alloc o)).cell? ad = some (.int .i64 v0) := fun o => pw_cell_below (below_alloc (Below.refl _ _) o) hc0
  clear hz0
  have HB0 := Aside0.mk (below_alloc (Below.refl w.heap.size w) (.cells #[.slice A x.f0.length c, .slice (some ad) x.f1.length c'] 89))
  have HV := Aside0.mk hv
  have HV0 := Aside0.mk hv0
  clear h hv hv0
  go_enter Tryz.func91, Tryz.ntmps91
  go_upto_region 1 with fail
  go_region
  all_goals (go_wp2_with fail)
  all_goals go_ret
  all_goals exact ⟨by simp only [behindF, List.getD_eq_getElem?_getD, HV.out, HV0.out, Option.getD_some]; rfl, below_drew1 HB0.out⟩
theorem IR.take {w : World} {A : Option Addr} {c : Nat} {l : List Int} (h : IR w A c l) (i : Nat) (hi : i ≤ l.length) : IR w A c (l.take i) :=
  ⟨Kd.C_take h.r hi, by rw [List.length_take]; have := h.c; omega, by rw [List.length_take]; have := h.l; omega⟩
set_option maxHeartbeats 1000000 in
set_option maxRecDepth 100000 in
theorem ahead_calls {w : World} {A : Option Addr} {c : Nat} {A' : Option Addr} {c' : Nat} {x : S89} (h : TR w A c A' c' x) (i : Nat) (hi : i < x.f1.length) (hi0 : i ≤ x.f0.length) :
    Calls Tryz.prog 90 #[.agg #[.slice A x.f0.length c, .slice A' x.f1.length c'], .int .i64 i] w fun e w' => e = .returned (.int .i64 (aheadF i x)) ∧ Below w.heap.size w w' := by
  have H := Aside0.mk h
  have hc := h.p.c
  have hl := h.p.l
  have HL := Aside0.mk (show (x.f0.take i).length = i by rw [List.length_take]; omega)
  have HB0 := Aside0.mk (below_alloc (Below.refl w.heap.size w) (.cells #[.slice A x.f0.length c, .slice A' x.f1.length c'] 89))
  have HT := Aside0.mk (h.p.take i hi0)
  have HS : Aside0 (∀ W, Below w.heap.size w W → Calls Tryz.prog 78 #[.slice A i c] W fun e w' => e = .returned (.int .i64 (sumW (x.f0.take i))) ∧ W = w') := ⟨fun W hb => by have := sum_calls (HT.out.below hb); rw [HL.out] at this; exact this⟩
  clear h
  go_enter Tryz.func90, Tryz.ntmps90
  go_upto_region 1 with fail
  go_region_with (first | (go_at_call 78; refine (HS.out _ ?_).mono ?_; (repeat (first | exact Below.refl _ _ | exact bthen (below_drew1 HB0.out) HB1.out | apply below_alloc | apply below_drew1)); rintro e w1 ⟨rfl, rfl⟩) | (go_at_call 91; refine (behind_calls (H.out.below ?_) i hi).mono ?_; (repeat (first | exact Below.refl _ _ | apply below_alloc | apply below_drew1)); rintro e w1 ⟨rfl, hb1⟩; have HB1 := Aside0.mk hb1; obtain ⟨hk1, hk2⟩ := bcell hb1; have hz1 := hb1.size; clear hb1))
  all_goals (go_wp2_with fail)
  all_goals go_ret
  all_goals exact ⟨by first | (simp only [aheadF]; rfl) | (rw [show aheadF i x = IntKind.i64.wrap (sumW (x.f0.take i) - behindF i x) by rw [i64_w]; rfl]; rfl) | (simp [Act.put, aheadF, i64_w]; done), bthen (below_drew1 HB0.out) HB1.out⟩
end Go.Proofs.YtaojkmalpihmbaaGreatDoor.M

