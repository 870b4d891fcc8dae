import Derived.Test.YtaojkmalpihmbaaGreatDoorB08
import Derived.Defers
import Derived.Recover
import Derived.Laws.Pointers
namespace Go.Proofs.YtaojkmalpihmbaaGreatDoor.M
open Go.RowKit Go.Proofs.YtaojkmalpihmbaaGreatDoorW.PrintWords Go.Proofs.YtaojkmalpihmbaaGreatDoorW.PrintLast Go.Proofs.YtaojkmalpihmbaaGreatDoorW.PrintMore Go.Proofs.YtaojkmalpihmbaaGreatDoor.Q
set_option linter.unusedVariables false
set_option linter.unusedSimpArgs false

/-! lived: the deferred closure, in a frame that panics and in one that returns. -/
theorem catch_idle (b4 b5 : Nat) (w : World) :
    CallsD Tryz.prog 123 #[.pointer (some ⟨b4, 0, none⟩), .pointer (some ⟨b5, 0, none⟩)] .returning w fun e u' w' => e = .returned (.tuple #[]) ∧ u' = .returning ∧ w = w' := by
  refine callsD_of_wpS Tryz.func123 rfl fun c₀ cs hu => ?_
  apply wpS_seq
  apply wpS_region
  simp [wpOpsS, go_sem, recoverD, hu, Tryz.ntmps123, Exit.thenS]
  apply wpS_of_wp
  go_wp2
  cases c₀
  simp_all [bodyPostS, results, Tryz.results123]
set_option maxHeartbeats 2000000 in
set_option maxRecDepth 100000 in
theorem catch_panicking (b4 b5 B : Nat) (z0 z1 z2 : Value) (i : Int) (older : List PanicEntry) (w : World) (h4 : Blk w b4 #[z0, z1] 89) (h5 : Blk w b5 #[z2] 4) (hne : b4 ≠ b5) (hB4 : B ≤ b4) (hB5 : B ≤ b5) :
    CallsD Tryz.prog 123 #[.pointer (some ⟨b4, 0, none⟩), .pointer (some ⟨b5, 0, none⟩)] (.panicking ({ v := .iface 162 (.agg #[.int .i64 i]), recovered := false } :: older)) w fun e u' w' =>
      e = .returned (.tuple #[]) ∧ u' = .panicking ({ v := .iface 162 (.agg #[.int .i64 i]), recovered := true } :: older) ∧ Blk w' b4 #[.slice none 0 0, .slice none 0 0] 89 ∧ Blk w' b5 #[.bool false] 4 ∧ Below B w w' := by
  have hc0 := h4.cell 0 rfl
  have hc1 := h4.cell 1 rfl
  have hc2 := h5.cell 0 rfl
  have hf0 := h4.free 0
  have hf1 := h4.free 1
  have hf2 := h5.free 0
  have hl4 := h4.lt
  have hl5 := h5.lt
  have H4 := Aside0.mk h4
  have H5 := Aside0.mk h5
  have hta : ∀ (v : Value) (W : World), (Instr.typeAssert (.iface 162 v) 20 162 true).run Tryz.prog W = .ok (.tuple #[v, .bool true]) W := fun v W => by kernel_rfl
  clear h4 h5
  refine callsD_of_wpS Tryz.func123 rfl fun c₀ cs hu => ?_
  apply wpS_seq
  apply wpS_region
  simp [wpOpsS, go_sem, recoverD, hu, Tryz.ntmps123, Exit.thenS]
  apply wpS_of_wp
  have HF4 : Blk ((((w.setCell ⟨b4, 0, none⟩ (.slice none 0 0)).setCell ⟨b4, 1, none⟩ (.slice none 0 0)).setCell ⟨b5, 0, none⟩ (.bool false)).alloc (.cells #[.int .i64 i] 162)) b4 #[.slice none 0 0, .slice none 0 0] 89 :=
    (((H4.out.put 0 _ rfl).put 1 _ rfl).far (p := ⟨b5, 0, none⟩) hne _).alloc _
  have HF5 : Blk ((((w.setCell ⟨b4, 0, none⟩ (.slice none 0 0)).setCell ⟨b4, 1, none⟩ (.slice none 0 0)).setCell ⟨b5, 0, none⟩ (.bool false)).alloc (.cells #[.int .i64 i] 162)) b5 #[.bool false] 4 :=
    (((H5.out.far (p := ⟨b4, 0, none⟩) (Ne.symm hne) _).far (p := ⟨b4, 1, none⟩) (Ne.symm hne) _).put 0 _ rfl).alloc _
  have HFB : Below B w ((((w.setCell ⟨b4, 0, none⟩ (.slice none 0 0)).setCell ⟨b4, 1, none⟩ (.slice none 0 0)).setCell ⟨b5, 0, none⟩ (.bool false)).alloc (.cells #[.int .i64 i] 162)) :=
    ((((Below.refl B w).setCell (p := ⟨b4, 0, none⟩) hB4 _).setCell (p := ⟨b4, 1, none⟩) hB4 _).setCell (p := ⟨b5, 0, none⟩) hB5 _).alloc (by simp; omega) _
  have G4 := Aside0.mk HF4
  have G5 := Aside0.mk HF5
  have GB := Aside0.mk HFB
  clear HF4 HF5 HFB
  go_wp2
  exact ⟨rfl, _, rfl, _, results_none rfl _ _ _, rfl, rfl, G4.out, G5.out, GB.out⟩
end Go.Proofs.YtaojkmalpihmbaaGreatDoor.M

namespace Go.Proofs.YtaojkmalpihmbaaGreatDoor.M
open Go.RowKit Go.Proofs.YtaojkmalpihmbaaGreatDoorW.PrintWords Go.Proofs.YtaojkmalpihmbaaGreatDoorW.PrintLast Go.Proofs.YtaojkmalpihmbaaGreatDoorW.PrintMore Go.Proofs.YtaojkmalpihmbaaGreatDoor.Q
set_option linter.unusedVariables false
set_option linter.unusedSimpArgs false

/-! lived: do all readings agree? -/
def liveGo (rs : List S66) : Nat → List (List Int) → Bool
  | _, [] => true
  | i, l :: r => agreeB rs l i && liveGo rs (i + 1) r
def liveB (rs : List S66) (pl mv : List Int) : Bool := liveGo rs 0 (runL pl mv)
def lastL (pl mv : List Int) : List Int := (runL pl mv).getLastD []
theorem liveGo_true (rs : List S66) : ∀ (Os : List (List Int)) (i : Nat), (∀ j, ∀ l, Os[j]? = some l → agreeB rs l (i + j : Nat) = true) → liveGo rs i Os = true
  | [], _, _ => rfl
  | l :: r, i, h => by
    have h0 := h 0 l rfl
    have h1 := liveGo_true rs r (i + 1) (fun j m hm => by have := h (j + 1) m hm; rwa [show i + (j + 1) = i + 1 + j from by omega] at this)
    simp only [Nat.add_zero] at h0
    simp [liveGo, h0, h1]
theorem liveGo_false (rs : List S66) : ∀ (Os : List (List Int)) (i j : Nat) (l : List Int), Os[j]? = some l → agreeB rs l (i + j : Nat) = false → liveGo rs i Os = false
  | [], _, _, _, h, _ => by simp at h
  | a :: r, i, 0, l, h, hb => by
    simp at h
    subst h
    simp only [Nat.add_zero] at hb
    simp [liveGo, hb]
  | a :: r, i, j + 1, l, h, hb => by
    simp at h
    have h1 := liveGo_false rs r (i + 1) j l h (by rwa [show i + 1 + j = i + (j + 1) from by omega])
    simp [liveGo, h1]
/-- An element of a row of truths: where its places lie, and that they are own. -/
theorem row_elem {Ap : Option Addr} {m cp : Nat} {w : World} {base : Nat} {v : Value} {Os : List (List Int)} (h : Kd.R (kRun Ap m cp) 89 w base (fun _ => True) v Os) {j : Nat} {l : List Int} (hx : Os[j]? = some l) :
    ∃ ad c A' c', v = .slice (some ad) Os.length c ∧ w.cell? (ad.add (j * 2)) = some (.slice Ap m cp) ∧ w.cell? ⟨(ad.add (j * 2)).block, (ad.add (j * 2)).off + 1, none⟩ = some (.slice A' l.length c') ∧ OwnR w base l (.slice A' l.length c') := by
  obtain ⟨_, inner, ho, hr⟩ := h
  have hjl := (List.getElem?_eq_some_iff.1 hx).1
  obtain ⟨g, cap, rfl, hb, hg⟩ := ho.form (by omega)
  obtain ⟨_, _, hcs, rfl, v', rfl, hrv⟩ := hr.2 j l hx
  have hcs' : (inner.drop (j * 2)).take 2 = [.slice Ap m cp] ++ [v'] := hcs
  obtain ⟨A', c', rfl⟩ := Kd.R_slice hrv
  have hi0 : inner[j * 2]? = some (.slice Ap m cp) := by
    have := congrArg (fun l => l[0]?) hcs'
    simpa using this
  have hi1 : inner[j * 2 + 1]? = some (.slice A' l.length c') := by
    have := congrArg (fun l => l[1]?) hcs'
    simpa using this
  have hw := ho.cells (g := g) rfl
  refine ⟨⟨g, 0, none⟩, cap, A', c', rfl, hw _ _ hi0, ?_, Kd.R_mono hrv (fun _ _ => trivial)⟩
  rw [← add_field _ _ 1 (by omega)]
  exact hw _ _ hi1
theorem R_under {α : Type} {d : Kd α} {w : World} {e base : Nat} {v : Value} {xs : List α} (h : d.R e w base (fun _ => True) v xs) {p : Addr} (hp : p.block < base) (u : Value) : d.R e (w.setCell p u) base (fun _ => True) v xs :=
  Kd.R_mono (Kd.R_far (Kd.R_bound h) (fun k hk => by have := hk.2.1; omega) u) (fun _ _ => trivial)
theorem runGo_elem (pl : List Int) : ∀ (mv pc : List Int), pc.length = pl.length + 1 → ∀ l ∈ runGo pl pc mv, l.length = pl.length + 1
  | [], pc, h, l, hl => by simp [runGo] at hl; rw [hl, h]
  | m :: mv, pc, h, l, hl => by
    simp [runGo] at hl
    rcases hl with rfl | hl
    · exact h
    · exact runGo_elem pl mv _ (by rw [afterM_length, h]) l hl
theorem runL_elem {pl mv : List Int} {j : Nat} {l : List Int} (h : (runL pl mv)[j]? = some l) : l.length = pl.length + 1 := runGo_elem pl mv _ (begunL_length pl) l (List.mem_of_getElem? h)
theorem OwnR.ir {w : World} {base : Nat} {l : List Int} {A : Option Addr} {n c : Nat} (h : OwnR w base l (.slice A n c)) (hl : l.length ≤ 1000) : IR w A c l := by
  obtain ⟨A', c', he, hc, hr⟩ := Kd.R_reads h
  injection he with e1 _ e3
  subst e1 e3
  exact ⟨hr, hc, hl⟩
theorem gives_true {b : Bool} {e : Ending} (h : Gives b e) (hb : b = true) : e = .returned (.tuple #[]) := by
  rcases h with ⟨_, h⟩ | ⟨h, _⟩
  · exact h
  · rw [hb] at h; cases h
theorem gives_false {b : Bool} {e : Ending} (h : Gives b e) (hb : b = false) : ∃ i : Int, e = .panicked [{ v := .iface 162 (.agg #[.int .i64 i]), recovered := false }] := by
  rcases h with ⟨h, _⟩ | ⟨_, h⟩
  · rw [hb] at h; cases h
  · exact h
/-- t, after j rounds. -/
def Tis (w : World) (b base : Nat) (Ap : Option Addr) (n cp : Nat) (Os : List (List Int)) (j : Nat) : Prop :=
  (j = 0 ∧ Blk w b #[.slice none 0 0, .slice none 0 0] 89) ∨ ∃ l A' c', 0 < j ∧ Os[j - 1]? = some l ∧ Blk w b #[.slice Ap n cp, .slice A' l.length c'] 89 ∧ OwnR w base l (.slice A' l.length c')
theorem Tis.blk {w : World} {b base : Nat} {Ap : Option Addr} {n cp : Nat} {Os : List (List Int)} {j : Nat} (h : Tis w b base Ap n cp Os j) : ∃ z0 z1, Blk w b #[z0, z1] 89 := by
  rcases h with ⟨_, h⟩ | ⟨l, A', c', _, _, h, _⟩ <;> exact ⟨_, _, h⟩
theorem results_cell_cell {P : Program} {fn : Func} {p q : Tmp} {t u : TypeId} {tmps : Array Value} {w : World} {a b : Addr} {x y : Value} (h : fn.results = #[.cell p t, .cell q u]) (ha : (asAddr (tmps.getD p undef)).run P w = .ok a w)
    (hx : (loadVar t a).run P w = .ok x w) (hb : (asAddr (tmps.getD q undef)).run P w = .ok b w) (hy : (loadVar u b).run P w = .ok y w) : (results fn tmps).run P w = .ok (.tuple #[x, y]) w := by
  have e : (results fn tmps).run P w = ((asAddr (tmps.getD p undef)).run P w).andThen fun a w₁ => ((loadVar t a).run P w₁).andThen fun v w₂ => ((asAddr (tmps.getD q undef)).run P w₂).andThen fun b w₃ => ((loadVar u b).run P w₃).andThen fun z w₄ => .ok (.tuple #[v, z]) w₄ := by
    simp only [results, h]
    simp [Sem.run_bind, Result.andThen]
  simp only [e, ha, hx, hb, hy, Result.andThen]
theorem lived_results {w : World} {tmps : Array Value} {b4 b5 : Nat} {z0 z1 z2 : Value} (h4 : tmps.getD 4 undef = .pointer (some ⟨b4, 0, none⟩)) (h5 : tmps.getD 5 undef = .pointer (some ⟨b5, 0, none⟩))
    (k4 : Blk w b4 #[z0, z1] 89) (k5 : Blk w b5 #[z2] 4) : (results Tryz.f111 tmps).run Tryz.prog w = .ok (.tuple #[.agg #[z0, z1], z2]) w := by
  have e : Tryz.f111.results = #[.cell 4 89, .cell 5 4] := rfl
  have h6 : (loadVar 89 ⟨b4, 0, none⟩).run Tryz.prog w = .ok (.agg #[z0, z1]) w := run_loadVar_row w b4 _ 89 #[z0, z1] (0, 0) _ k4 Tryz.underlying89 rfl (by kernel_rfl)
  have h7 : (isAgg 4).run Tryz.prog w = .ok false w := by kernel_rfl
  have h8 : w.cell? ⟨b5, 0, none⟩ = some z2 := k5.cell 0 rfl
  have h9 : (loadVar 4 ⟨b5, 0, none⟩).run Tryz.prog w = .ok z2 w := by simp [loadVar, Sem.run_bind, h7, run_load, h8]
  have g4 : (asAddr (tmps.getD 4 undef)).run Tryz.prog w = .ok ⟨b4, 0, none⟩ w := by rw [h4]; rfl
  have g5 : (asAddr (tmps.getD 5 undef)).run Tryz.prog w = .ok ⟨b5, 0, none⟩ w := by rw [h5]; rfl
  exact results_cell_cell e g4 h6 g5 h9
section
variable {A0 A1 A2 : Option Addr} {c0 c1 c2 : Nat} {ms : List S64} {mv : List Int} {rs : List S66}
def LivedV (w : World) (b : Bool) (Ap : Option Addr) (n cp : Nat) (l : List Int) (e : Ending) (w' : World) : Prop :=
  (b = true ∧ ∃ A' c', e = .returned (.tuple #[.agg #[.slice Ap n cp, .slice A' l.length c'], .bool true]) ∧ OwnR w' w.heap.size l (.slice A' l.length c')) ∨
  (b = false ∧ e = .returned (.tuple #[.agg #[.slice none 0 0, .slice none 0 0], .bool false]))
set_option maxHeartbeats 4000000 in
set_option maxRecDepth 100000 in
theorem lived_calls {w : World} (h : PR w A0 c0 ms A1 c1 mv A2 c2 rs) {A : Option Addr} {c : Nat} {pl : List Int} (hp : IR w A c pl) (hp1 : pl.length ≤ 100) (ha : ∀ r ∈ rs, 0 ≤ r.f1 ∧ r.f1 < ((pl.length + 1 : Nat) : Int)) :
    Calls Tryz.prog 111 #[.agg #[.slice A0 ms.length c0, .slice A1 mv.length c1, .slice A2 rs.length c2], .slice A pl.length c] w fun e w' =>
      LivedV w (liveB rs pl mv) A pl.length c (lastL pl mv) e w' ∧ Below w.heap.size w w' := by
  have H := Aside0.mk h
  have HP := Aside0.mk hp
  have HA := Aside0.mk ha
  have hmv := h.l1
  have hmf : ∀ (fn : Fn) (first cap : Array Value) (w : World), (Instr.makeFunc fn first cap).run Tryz.prog w = .ok (.func fn first cap) w := fun _ _ _ _ => rfl
  have HB0 := Aside0.mk (below_alloc (below_alloc (below_alloc (Below.refl w.heap.size w) (.cells #[.slice A0 ms.length c0, .slice A1 mv.length c1, .slice A2 rs.length c2] 26)) (.cells #[.slice none 0 0, .slice none 0 0] 89)) (.cells #[.bool false] 4))
  clear h hp ha
  go_enter_defers Tryz.func111, Tryz.ntmps111
  go_wp2_with (go_at_call 69; (with_reducible refine (run_calls (H.out.below HB0.out) (HP.out.below HB0.out) hp1).mono ?_); rintro e w1 ⟨⟨v, rfl, hr1⟩, hb1⟩; obtain ⟨Ao, co, rfl⟩ := Kd.R_slice hr1; have HR1 := Aside0.mk hr1; have HBB1 := Aside0.mk hb1; clear hr1 hb1)
  have hK2 : Blk w1 w.heap.size #[.slice A0 ms.length c0, .slice A1 mv.length c1, .slice A2 rs.length c2] 26 := (((Blk.new w _ _).alloc _).alloc _).below HBB1.out
  have hK4 : Blk w1 (w.heap.size + 1) #[.slice none 0 0, .slice none 0 0] 89 := by
    have h := ((Blk.new (w.alloc (.cells #[.slice A0 ms.length c0, .slice A1 mv.length c1, .slice A2 rs.length c2] 26)) #[.slice none 0 0, .slice none 0 0] 89).alloc (.cells #[.bool false] 4)).below HBB1.out
    rw [World.size_alloc] at h
    exact h
  have hK5 : Blk w1 (w.heap.size + 1 + 1) #[.bool false] 4 := by
    have h := (Blk.new ((w.alloc (.cells #[.slice A0 ms.length c0, .slice A1 mv.length c1, .slice A2 rs.length c2] 26)).alloc (.cells #[.slice none 0 0, .slice none 0 0] 89)) #[.bool false] 4).below HBB1.out
    rw [World.size_alloc, World.size_alloc] at h
    exact h
  have HW1 := Aside0.mk (bthen HB0.out HBB1.out)
  have hsz := HBB1.out.size
  simp only [World.size_alloc] at hsz
  have HK2 := Aside0.mk hK2
  have HK4 := Aside0.mk hK4
  have HK5 := Aside0.mk hK5
  clear hK2 hK4 hK5
  have HRR := Aside0.mk (Kd.R_lower (base' := w.heap.size + 1 + 1 + 1) HR1.out (by simp only [World.size_alloc]; omega))
  go_loopg [13] ((runL pl mv).length) (fun k i wr => ∃ (j : Nat), j + k = (runL pl mv).length ∧ i = .int .i64 j ∧ Aside0 (∀ i l, i < j → (runL pl mv)[i]? = some l → agreeB rs l (i : Nat) = true) ∧ Aside0 (Kd.R (kRun A pl.length c) 89 wr (w.heap.size + 1 + 1 + 1) (fun _ => True) (.slice Ao (runL pl mv).length co) (runL pl mv)) ∧ Aside0 (Tis wr (w.heap.size + 1) (w.heap.size + 1 + 1 + 1) A pl.length c (runL pl mv) j) ∧ Below w.heap.size w wr ∧ Aside0 (Blk wr w.heap.size #[.slice A0 ms.length c0, .slice A1 mv.length c1, .slice A2 rs.length c2] 26) ∧ Aside0 (Blk wr (w.heap.size + 1 + 1) #[.bool false] 4))
  case atStart => exact ⟨0, by omega, rfl, ⟨fun i l hi _ => by omega⟩, HRR, ⟨.inl ⟨rfl, HK4.out⟩⟩, HW1.out, HK2, HK5⟩
  case round =>
    obtain ⟨j, hj, rfl, HG, HRw, HT, hBr, HKa, HKb⟩ := hrel
    have hj' : j ≤ (runL pl mv).length := by omega
    have HJ := Aside0.mk hj
    clear hj
    by_cases hlt : j < (runL pl mv).length
    · obtain ⟨l, hl⟩ : ∃ l, (runL pl mv)[j]? = some l := ⟨_, List.getElem?_eq_getElem hlt⟩
      obtain ⟨ad, c', A', cc', he, hca, hcb, hown⟩ := row_elem HRw.out hl
      injection he with he1 _ he3
      subst he1 he3
      have hka := HKa.out.cell 0 rfl
      have hkb := HKa.out.cell 1 rfl
      have hkc := HKa.out.cell 2 rfl
      obtain ⟨z0, z1, hz⟩ := HT.out.blk
      have hza := hz.cell 0 rfl
      have hzb := hz.cell 1 rfl
      have hzl := hz.lt
      have hal := HKa.out.lt
      have HZ := Aside0.mk hz
      have HL := Aside0.mk hl
      have HO := Aside0.mk hown
      clear hz hl hown
      have hrun : (runL pl mv).length ≤ 1001 := by rw [runL_length]; omega
      have HX := Aside0.mk (Blk.new wr #[.slice A pl.length c, .slice A' l.length cc'] 89)
      have HAl := Aside0.mk (below_alloc (Below.refl wr.heap.size wr) (.cells #[.slice A pl.length c, .slice A' l.length cc'] 89))
      have HBx := Aside0.mk (below_alloc hBr (.cells #[.slice A pl.length c, .slice A' l.length cc'] 89))
      have hle := runL_elem HL.out
      have HIR := Aside0.mk (OwnR.ir HO.out (by omega))
      have HAA := Aside0.mk (show ∀ r ∈ rs, 0 ≤ r.f1 ∧ r.f1 < (l.length : Int) by rw [hle]; exact HA.out)
      clear hle
      rcases hb : agreeB rs l (j : Nat) with _ | _
      · have HBB := Aside0.mk hb
        clear hb
        go_wp2_with (go_at_call 124; (with_reducible refine (agree_calls (H.out.below HBx.out) (HIR.out.below HAl.out) HAA.out j).mono ?_); rintro e w2 ⟨hg, hb2⟩; obtain ⟨i, rfl⟩ := gives_false hg HBB.out; clear hg; have HB2 := Aside0.mk hb2; clear hb2)
        refine leaves_cons (f := 123) (args := #[.pointer (some ⟨w.heap.size + 1, 0, none⟩), .pointer (some ⟨w.heap.size + 1 + 1, 0, none⟩)]) (by simp) (by simp [go_sem]) ?_
        have hq4 := (HZ.out.alloc (.cells #[.slice A pl.length c, .slice A' l.length cc'] 89)).below HB2.out
        have hq5 := (HKb.out.alloc (.cells #[.slice A pl.length c, .slice A' l.length cc'] 89)).below HB2.out
        refine (catch_panicking (w.heap.size + 1) (w.heap.size + 1 + 1) w.heap.size z0 z1 (.bool false) i _ w2 hq4 hq5 (by omega) (by omega) (by omega)).mono ?_
        rintro e u' w3 ⟨rfl, rfl, hq6, hq7, hb3⟩
        simp only [settle, List.dropWhile_nil]
        refine ⟨_, lived_results rfl rfl hq6 hq7, .inr ⟨liveGo_false rs _ 0 j l HL.out (by rw [Nat.zero_add]; exact HBB.out), rfl⟩, (bthen HBx.out HB2.out).trans hb3⟩
      · have HBB := Aside0.mk hb
        clear hb
        go_wp2_with (go_at_call 124; (with_reducible refine (agree_calls (H.out.below HBx.out) (HIR.out.below HAl.out) HAA.out j).mono ?_); rintro e w2 ⟨hg, hb2⟩; obtain rfl := gives_true hg HBB.out; clear hg; have HB2 := Aside0.mk hb2; have hy := (HZ.out.alloc (.cells #[.slice A pl.length c, .slice A' l.length cc'] 89)).below hb2; have hy0 := hy.cell 0 rfl; have hy1 := hy.cell 1 rfl; have hyf0 := hy.free 0; have hyf1 := hy.free 1; have hyl := hy.lt; have hx := HX.out.below hb2; have hx0 := hx.cell 0 rfl; have hx1 := hx.cell 1 rfl; have hz2 := hb2.size; clear hb2 hy hx)
        go_roundg (gk - 1)
        case measure => have := HJ.out; omega
        case rel =>
          have hlw : w.heap.size + 1 < w.heap.size + 1 + 1 + 1 := by omega
          have hy := ((HZ.out.alloc (.cells #[.slice A pl.length c, .slice A' l.length cc'] 89)).below HB2.out)
          refine ⟨j + 1, by have := HJ.out; omega, by go_num, ⟨fun i l' hi hl' => ?_⟩, ⟨R_under (p := ⟨w.heap.size + 1, 1, none⟩) (R_under (p := ⟨w.heap.size + 1, 0, none⟩) (Kd.R_below (Kd.R_below HRw.out HAl.out) HB2.out) hlw _) hlw _⟩, ⟨.inr ⟨l, A', cc', by omega, HL.out, (hy.put 0 _ rfl).put 1 _ rfl, (((HO.out.below HAl.out).below HB2.out).under (p := ⟨w.heap.size + 1, 0, none⟩) hlw _).under (p := ⟨w.heap.size + 1, 1, none⟩) hlw _⟩⟩, below_set (below_set (bthen HBx.out HB2.out) (by omega)) (by omega), ⟨(((HKa.out.alloc _).below HB2.out).far (by show w.heap.size ≠ w.heap.size + 1; omega) _).far (by show w.heap.size ≠ w.heap.size + 1; omega) _⟩, ⟨(((HKb.out.alloc _).below HB2.out).far (by show w.heap.size + 1 + 1 ≠ w.heap.size + 1; omega) _).far (by show w.heap.size + 1 + 1 ≠ w.heap.size + 1; omega) _⟩⟩
          rcases Nat.lt_or_ge i j with h1 | h1
          · exact HG.out i l' h1 hl'
          · obtain rfl : i = j := by omega
            rw [HL.out] at hl'
            cases hl'
            exact HBB.out
    · obtain rfl : j = (runL pl mv).length := by omega
      obtain ⟨l, A', cc', hlast, hk, hown⟩ : ∃ l A' cc', lastL pl mv = l ∧ Blk wr (w.heap.size + 1) #[.slice A pl.length c, .slice A' l.length cc'] 89 ∧ OwnR wr (w.heap.size + 1 + 1 + 1) l (.slice A' l.length cc') := by
        rcases HT.out with ⟨h0, _⟩ | ⟨l, A', cc', h1, h2, h3, h4⟩
        · rw [runL_length] at h0; omega
        · exact ⟨l, A', cc', by simp [lastL, List.getLastD_eq_getLast?, List.getLast?_eq_getElem?, h2], h3, h4⟩
      have hz0 := hk.cell 0 rfl
      have hz1 := hk.cell 1 rfl
      have hzf0 := hk.free 0
      have hzf1 := hk.free 1
      have hzl := hk.lt
      have hb0 := HKb.out.cell 0 rfl
      have hbf := HKb.out.free 0
      have hbl := HKb.out.lt
      have HZ := Aside0.mk hk
      have HO := Aside0.mk hown
      have HLL := Aside0.mk hlast
      clear hk hown hlast
      go_wp2
      refine leaves_cons (f := 123) (args := #[.pointer (some ⟨w.heap.size + 1, 0, none⟩), .pointer (some ⟨w.heap.size + 1 + 1, 0, none⟩)]) (by simp) (by simp [go_sem]) ?_
      refine (catch_idle (w.heap.size + 1) (w.heap.size + 1 + 1) _).mono ?_
      rintro e u' w3 ⟨rfl, rfl, rfl⟩
      have hq4 : Blk (((wr.setCell ⟨w.heap.size + 1, 0, none⟩ (.slice A pl.length c)).setCell ⟨w.heap.size + 1, 1, none⟩ (.slice A' l.length cc')).setCell ⟨w.heap.size + 1 + 1, 0, none⟩ (.bool true)) (w.heap.size + 1) #[.slice A pl.length c, .slice A' l.length cc'] 89 :=
        (((HZ.out.put 0 _ rfl).put 1 _ rfl).far (by show w.heap.size + 1 ≠ w.heap.size + 1 + 1; omega) _)
      have hq5 : Blk (((wr.setCell ⟨w.heap.size + 1, 0, none⟩ (.slice A pl.length c)).setCell ⟨w.heap.size + 1, 1, none⟩ (.slice A' l.length cc')).setCell ⟨w.heap.size + 1 + 1, 0, none⟩ (.bool true)) (w.heap.size + 1 + 1) #[.bool true] 4 :=
        ((HKb.out.far (p := ⟨w.heap.size + 1, 0, none⟩) (by show w.heap.size + 1 + 1 ≠ w.heap.size + 1; omega) _).far (p := ⟨w.heap.size + 1, 1, none⟩) (by show w.heap.size + 1 + 1 ≠ w.heap.size + 1; omega) _).put 0 _ rfl
      have hlw : w.heap.size + 1 < w.heap.size + 1 + 1 + 1 := by omega
      have hlw' : w.heap.size + 1 + 1 < w.heap.size + 1 + 1 + 1 := by omega
      refine ⟨_, lived_results rfl rfl hq4 hq5, .inl ⟨liveGo_true rs _ 0 (fun i l' hl' => ?_), A', cc', ?_, ?_⟩, below_set (below_set (below_set hBr (by omega)) (by omega)) (by omega)⟩
      · rw [Nat.zero_add]
        exact HG.out i l' (List.getElem?_eq_some_iff.1 hl').1 hl'
      · rw [HLL.out]
      · rw [HLL.out]
        exact Kd.R_lower (((HO.out.under (p := ⟨w.heap.size + 1, 0, none⟩) hlw _).under (p := ⟨w.heap.size + 1, 1, none⟩) hlw _).under (p := ⟨w.heap.size + 1 + 1, 0, none⟩) hlw' _) (by omega)
end
end Go.Proofs.YtaojkmalpihmbaaGreatDoor.M

