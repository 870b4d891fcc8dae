import Derived.Test.YtaojkmalpihmbaaGreatDoorB19
import Derived.Test.YtaojkmalpihmbaaGreatDoorB12
import Derived.Deep.RegionLaw
namespace Go.Proofs.YtaojkmalpihmbaaGreatDoor.M
open Go.RowKit Go.Proofs.YtaojkmalpihmbaaGreatDoorW.PrintWords Go.Proofs.YtaojkmalpihmbaaGreatDoorW.PrintLast Go.Proofs.YtaojkmalpihmbaaGreatDoorW.PrintMore Go.Proofs.YtaojkmalpihmbaaGreatDoor.Q
set_option linter.unusedVariables false
set_option linter.unusedSimpArgs false

/-! parsed, at one text. -/
def txt : ByteArray := ⟨#[112, 105, 101, 99, 101, 32, 49, 10, 109, 101, 115, 104, 32, 48, 32, 48, 10, 109, 111, 118, 101, 115, 10, 101, 110, 100, 32, 48, 48, 57, 10]⟩
def tx0 : ByteArray := ⟨#[112, 105, 101, 99, 101, 32, 49]⟩
def tx1 : ByteArray := ⟨#[109, 101, 115, 104, 32, 48, 32, 48]⟩
def tx2 : ByteArray := ⟨#[109, 111, 118, 101, 115]⟩
def tx3 : ByteArray := ⟨#[101, 110, 100, 32, 48, 48, 57]⟩
def tx4 : ByteArray := ⟨#[]⟩
def m00 : S64 := ⟨⟨0, 0⟩⟩
def digN (v : Int) : List UInt8 := Lib.decDigits v.toNat
theorem digs_small (w : World) : Digs digN (fun v => 0 ≤ v ∧ v < 100) w where
  it := fun v hv W _ => (itoa_at v.toNat (by omega) v (by omega) (digN v) rfl W).mono (by rintro e w' ⟨rfl, rfl⟩; exact ⟨rfl, Below.refl _ _⟩)
  len := fun v hv => by
    have h : ∀ n : Fin 100, (Lib.decDigits n.val).length ≤ 19 := by decide +kernel
    exact h ⟨v.toNat, by omega⟩
  small := fun v h1 h2 => ⟨h1, h2⟩
theorem txt_text : textB digN [m00] [] [] = txt := by decide +kernel
theorem txt_ok : OkP (fun v => 0 ≤ v ∧ v < 100) [m00] [] [] := ⟨by simp, by simp [m00], by simp, by simp⟩
theorem txt_split {W : World} (h : LibW W) : Calls Tryz.prog 116 #[.string txt, .string ⟨#[10]⟩] W fun e w' => e = .returned (.slice (some ⟨W.heap.size, 0, none⟩) 5 5) ∧ w' = W.alloc (.cells #[.string tx0, .string tx1, .string tx2, .string tx3, .string tx4] 9) :=
  split_at txt ⟨#[10]⟩ tx0 [tx1, tx2, tx3, tx4] (by decide) (by decide) (by decide +kernel) (by decide +kernel) h
theorem num_piece {W : World} (h : LibW W) : Calls Tryz.prog 117 #[.string tx0, .string ⟨#[112, 105, 101, 99, 101]⟩, .int .i64 1] W fun e w' => (∃ v, e = .returned v ∧ OwnR w' W.heap.size [1] v) ∧ Below W.heap.size W w' :=
  numbers_gen tx0 nmPiece 1 [⟨#[49]⟩] [1] (by decide) (by decide +kernel) (by decide +kernel) rfl (by decide) (.inr rfl) (fun j x v hx hv W => by
    rcases j with _ | j
    · simp at hx hv; subst hx hv; exact number_one W
    · simp at hx) h
theorem num_mesh {W : World} (h : LibW W) : Calls Tryz.prog 117 #[.string tx1, .string ⟨#[109, 101, 115, 104]⟩, .int .i64 2] W fun e w' => (∃ v, e = .returned v ∧ OwnR w' W.heap.size [0, 0] v) ∧ Below W.heap.size W w' :=
  numbers_gen tx1 nmMesh 2 [⟨#[48]⟩, ⟨#[48]⟩] [0, 0] (by decide) (by decide +kernel) (by decide +kernel) rfl (by decide) (.inr rfl) (fun j x v hx hv W => by
    rcases j with _ | _ | j
    · simp at hx hv; subst hx hv; exact number_nil W
    · simp at hx hv; subst hx hv; exact number_nil W
    · simp at hx) h
theorem num_moves {W : World} (h : LibW W) : Calls Tryz.prog 117 #[.string tx2, .string ⟨#[109, 111, 118, 101, 115]⟩, .int .i64 (-1)] W fun e w' => (∃ v, e = .returned v ∧ OwnR w' W.heap.size [] v) ∧ Below W.heap.size W w' :=
  numbers_gen tx2 nmMoves (-1) [] [] (by decide) (by decide +kernel) (by decide +kernel) rfl (by decide) (.inl rfl) (fun j x v hx hv W => by simp at hx) h
theorem pr_of {W : World} {base : Nat} {A7 Am : Option Addr} {c7 cm : Nat} (h : Kd.R k64 64 W base (fun _ => True) (.slice A7 1 c7) [m00]) (g : Kd.R (Kd.int .i64) 3 W base (fun _ => True) (.slice Am 0 cm) []) : PR W A7 c7 [m00] Am cm [] none 0 [] := by
  obtain ⟨_, h1, h2⟩ := Kd.R_reads' h
  obtain ⟨_, g1, g2⟩ := Kd.R_reads' g
  exact ⟨h2, g2, Kd.C_nil _ _, h1, g1, Nat.le_refl _, by decide, by decide, by decide⟩
theorem txt_calls {W : World} {A7 Am : Option Addr} {c7 cm : Nat} (h : PR W A7 c7 [m00] Am cm [] none 0 []) :
    Calls Tryz.prog 119 #[.agg #[.slice A7 1 c7, .slice Am 0 cm, .slice none 0 0]] W fun e w' => e = .returned (.string txt) ∧ Below W.heap.size W w' :=
  (text_gen h (digs_small W) txt_ok).mono (by rintro e w' ⟨rfl, hb⟩; exact ⟨by rw [txt_text], hb⟩)
theorem wp_open {P : Program} {c : Code} {R : Exit → Act → World → Prop} {a : Act} {w : World} (h : ∀ K : Act → World → Prop, (∀ a w, R .normal a w → K a w) → c.wp P (Exit.then K R) a w) : c.wp P R a w :=
  Code.wp_mono (fun e a w hq => by cases e <;> exact hq) (h (fun a w => R .normal a w) (fun _ _ h => h))
set_option maxHeartbeats 4000000 in
set_option maxRecDepth 100000 in
theorem parsed_calls {w : World} (h : LibW w) :
    Calls Tryz.prog 88 #[.string txt] w fun e w' => (∃ A c A1 c1, e = .returned (.agg #[.slice A 1 c, .slice A1 0 c1, .slice none 0 0]) ∧ Kd.R k64 64 w' w.heap.size (fun _ => True) (.slice A 1 c) [m00] ∧ OwnR w' w.heap.size [] (.slice A1 0 c1)) ∧ Below w.heap.size w w' := by
  have HL := Aside0.mk h
  have HB0 := Aside0.mk (below_alloc (Below.refl w.heap.size w) (.cells #[.slice none 0 0, .slice none 0 0, .slice none 0 0] 26))
  have HK0 := Aside0.mk (Blk.new w #[.slice none 0 0, .slice none 0 0, .slice none 0 0] 26)
  have HS := Aside0.mk (txt_split (HL.out.below HB0.out))
  have hb1 := below_alloc HB0.out (.cells #[.string tx0, .string tx1, .string tx2, .string tx3, .string tx4] 9)
  have hkn := Blk.new (w.alloc (.cells #[.slice none 0 0, .slice none 0 0, .slice none 0 0] 26)) #[.string tx0, .string tx1, .string tx2, .string tx3, .string tx4] 9
  have hk1 := HK0.out.alloc (.cells #[.string tx0, .string tx1, .string tx2, .string tx3, .string tx4] 9)
  obtain ⟨W0, hW0⟩ : ∃ W0, w.alloc (.cells #[.slice none 0 0, .slice none 0 0, .slice none 0 0] 26) = W0 := ⟨_, rfl⟩
  rw [hW0] at HS HB0 HK0 hb1 hkn hk1
  obtain ⟨W1, hW1⟩ : ∃ W1, W0.alloc (.cells #[.string tx0, .string tx1, .string tx2, .string tx3, .string tx4] 9) = W1 := ⟨_, rfl⟩
  rw [hW1] at HS hb1 hkn hk1
  obtain ⟨q, hq⟩ : ∃ q, W0.heap.size = q := ⟨_, rfl⟩
  rw [hq] at HS hkn
  have hc0 : W1.cell? ⟨q, 0, none⟩ = some (.string tx0) := hkn.cell 0 rfl
  have HB1 := Aside0.mk hb1
  have HKL := Aside0.mk hkn
  have HK1 := Aside0.mk hk1
  have HLib := Aside0.mk (HL.out.below hb1)
  have HW0 := Aside0.mk hW0
  clear h hb1 hkn hk1 hW1 hq hW0
  go_enter Tryz.func88, Tryz.ntmps88
  go_wp2_with (first
    | (go_at_call 116; rw [HW0.out]; (with_reducible refine HS.out.mono ?_); rintro e w1 ⟨rfl, rfl⟩)
    | (go_at_call 117; (with_reducible refine (num_piece HLib.out).mono ?_); rintro e w2 ⟨⟨v, rfl, hr2⟩, hb2⟩; obtain ⟨g2, cap2, rfl, hg2, hg3⟩ := OwnR.form hr2 (by decide); have hz2 : w2.cell? ⟨g2, 0, none⟩ = some (.int .i64 1) := OwnR.cell hr2 rfl rfl; have HB2 := Aside0.mk (bthen HB1.out hb2); have HKL2 := Aside0.mk (HKL.out.below hb2); have HK2 := Aside0.mk (HK1.out.below hb2); have HLib2 := Aside0.mk (HLib.out.below hb2); have hcc1 : w2.cell? ⟨q, 1, none⟩ = some (.string tx1) := HKL2.out.cell 1 rfl; have hcc2 : w2.cell? ⟨q, 2, none⟩ = some (.string tx2) := HKL2.out.cell 2 rfl; clear hr2 hb2)
    | (go_at_call 118; (with_reducible refine (sure_yes _ _).mono ?_); rintro e w3 ⟨rfl, rfl⟩))
  have hb5 := below_alloc HB2.out (.cells #[.slice none 0 0, .slice none 0 0, .slice none 0 0] 26)
  have hk5 := Blk.new w2 #[.slice none 0 0, .slice none 0 0, .slice none 0 0] 26
  have hk2 := HK2.out.alloc (.cells #[.slice none 0 0, .slice none 0 0, .slice none 0 0] 26)
  have hkl := HKL2.out.alloc (.cells #[.slice none 0 0, .slice none 0 0, .slice none 0 0] 26)
  have hb2s := HB2.out.size
  have hqp := HKL2.out.lt
  have hwp := HK2.out.lt
  obtain ⟨w4, hw4⟩ : ∃ w4, w2.alloc (.cells #[.slice none 0 0, .slice none 0 0, .slice none 0 0] 26) = w4 := ⟨_, rfl⟩
  obtain ⟨p5, hp5⟩ : ∃ p5, w2.heap.size = p5 := ⟨_, rfl⟩
  rw [hw4] at hb5 hk5 hk2 hkl ⊢
  rw [hp5] at hk5 hb2s hqp hwp ⊢
  have hqp' : q ≠ p5 := by omega
  have hwp' : w.heap.size ≠ p5 := by omega
  have HP5 := Aside0.mk hb2s
  have HB4 := Aside0.mk hb5
  have HK5 := Aside0.mk hk5
  have HK4 := Aside0.mk hk2
  have HKL4 := Aside0.mk hkl
  have HLib4 := Aside0.mk (HL.out.below hb5)
  have hd1 : w4.cell? ⟨q, 1, none⟩ = some (.string tx1) := hkl.cell 1 rfl
  clear hw4 hp5 hb5 hk5 hk2 hkl hb2s hcc1 hcc2 hz2
  refine wp_loop_rounds 2 ?_
  rw [rounds_succ]
  go_wp2_with (go_at_call 117; (with_reducible refine (num_mesh HLib4.out).mono ?_); rintro e w6 ⟨⟨v, rfl, hr6⟩, hb6⟩; obtain ⟨g6, cap6, rfl, hg6, hg7⟩ := OwnR.form hr6 (by decide); have hz6 : w6.cell? ⟨g6, 0, none⟩ = some (.int .i64 0) := OwnR.cell hr6 rfl rfl; have hz7 : w6.cell? ⟨g6, 1, none⟩ = some (.int .i64 0) := OwnR.cell hr6 rfl rfl; have HB6 := Aside0.mk (bthen HB4.out hb6); have HKL6 := Aside0.mk (HKL4.out.below hb6); have HK6 := Aside0.mk (HK4.out.below hb6); have HK56 := Aside0.mk (HK5.out.below hb6); have HLib6 := Aside0.mk (HLib4.out.below hb6); have hcc2 : w6.cell? ⟨q, 2, none⟩ = some (.string tx2) := HKL6.out.cell 2 rfl; have hp50 : w6.cell? ⟨p5, 0, none⟩ = some (.slice none 0 0) := HK56.out.cell 0 rfl; have hp5l : p5 < w6.heap.size := HK56.out.lt; clear hr6 hb6)
  refine wp_open fun K9 hK9 => ?_
  go_cut [36] (fun s wx => s = .int .i64 0 ∧ Aside0 (∃ A7 c7, Blk wx p5 #[.slice A7 1 c7, .slice none 0 0, .slice none 0 0] 26 ∧ Kd.R k64 64 wx (p5 + 1) (fun _ => True) (.slice A7 1 c7) [m00] ∧ Below w.heap.size w wx ∧ Blk wx q #[.string tx0, .string tx1, .string tx2, .string tx3, .string tx4] 9 ∧ Blk wx w.heap.size #[.slice none 0 0, .slice none 0 0, .slice none 0 0] 26))
  case first =>
    go_region_law (refine Kd.R_append_step k64 (w0 := w6) (W := w6.drew) w6.heap.size (by rfl) (.tmp 43) (.tmp 52) 22 64 (.agg #[.int .i64 0, .int .i64 0]) 16 (by rfl) Tryz.underlying22 info64 rfl (by decide) (by decide) (.slice none 0 0) [] m00 [.int .i64 0, .int .i64 0] (fun _ => True) (fun _ => False) (by rfl) (by rfl) (k64_mkM _ _ _ _) (fun _ h => h.elim) (fun _ _ => trivial) (none_row _ _ _ _ _) ?HB ?hb ?hl ?_; (case HB => first | exact Below.refl _ _ | exact below_drew1 (Below.refl _ _)); (case hb => simp); (case hl => simp); intro v1 w7 hr7 hb7 hg7 _; have HR7 := Aside0.mk hr7; have HG7 := Aside0.mk hg7; have HB7 := Aside0.mk (bthen HB6.out hb7); have HK57 := Aside0.mk (HK56.out.below hb7); have HKL7 := Aside0.mk (HKL6.out.below hb7); have HKW7 := Aside0.mk (HK6.out.below hb7); have hp50' : w7.cell? ⟨p5, 0, none⟩ = some (.slice none 0 0) := HK57.out.cell 0 rfl; have hp5l' : p5 < w7.heap.size := HK57.out.lt; have hf5 : w7.frozen? ⟨p5, 0, none⟩ = false := HK57.out.free 0; obtain ⟨A7, c7, rfl⟩ := Kd.R_slice HR7.out; clear hr7 hg7)
    all_goals (go_wp2_with fail; go_meet)
    all_goals exact ⟨rfl, ⟨A7, c7, HK57.out.put 0 _ rfl, Kd.R_lower (R_under HR7.out (p := ⟨p5, 0, none⟩) hp5l (.slice A7 1 c7)) hp5l, below_set HB7.out (Nat.le_of_lt hwp), (HKL7.out).far (p := ⟨p5, 0, none⟩) hqp' _, (HKW7.out).far (p := ⟨p5, 0, none⟩) hwp' _⟩⟩
  case rest =>
    obtain ⟨rfl, HF⟩ := hcut
    obtain ⟨A7, c7, hf1, hf2, hf4, hf5, hf6⟩ := HF.out
    have hfl := hf1.lt
    have HF1 := Aside0.mk hf1
    have HF2 := Aside0.mk hf2
    have HF4 := Aside0.mk hf4
    have HF5 := Aside0.mk hf5
    have HF6 := Aside0.mk hf6
    have HLib8 := Aside0.mk (HL.out.below hf4)
    have hce2 : World.cell? _ ⟨q, 2, none⟩ = some (.string tx2) := hf5.cell 2 rfl
    clear hf1 hf2 hf4 hf5 hf6 HF
    apply hK9
    simp only [Exit.inBlock, Exit.then]
    go_wp2
    rw [rounds_succ]
    go_wp2_with (first
      | (go_at_call 117; (with_reducible refine (num_moves HLib8.out).mono ?_); rintro e w9 ⟨⟨v, rfl, hr9⟩, hb9⟩; obtain ⟨Am, cm, rfl⟩ := Kd.R_slice hr9; have HB9 := Aside0.mk (bthen HF4.out hb9); have HF91 := Aside0.mk (HF1.out.below hb9); have HF95 := Aside0.mk (HF5.out.below hb9); have HF96 := Aside0.mk (HF6.out.below hb9); have HF92 := Aside0.mk (Kd.R_below HF2.out hb9); have HRm := Aside0.mk (Kd.R_lower (base' := p5 + 1) hr9 hfl); have hp0 : w9.cell? ⟨p5, 0, none⟩ = some (.slice A7 1 c7) := HF91.out.cell 0 rfl; have hp1 : w9.cell? ⟨p5, 1, none⟩ = some (.slice none 0 0) := HF91.out.cell 1 rfl; have hp2 : w9.cell? ⟨p5, 2, none⟩ = some (.slice none 0 0) := HF91.out.cell 2 rfl; have hpf : w9.frozen? ⟨p5, 1, none⟩ = false := HF91.out.free 1; have hpl : p5 < w9.heap.size := HF91.out.lt; clear hr9 hb9)
      | (go_at_call 118; (with_reducible refine (sure_yes _ _).mono ?_); rintro e w3 ⟨rfl, rfl⟩))
    refine wp_loop_rounds 1 ?_
    rw [rounds_succ]
    have HG5 := Aside0.mk (HF91.out.put 1 (.slice Am 0 cm) (cs' := #[.slice A7 1 c7, .slice Am 0 cm, .slice none 0 0]) rfl)
    have HGw := Aside0.mk (HF96.out.far (p := ⟨p5, 1, none⟩) hwp' (.slice Am 0 cm))
    have HGb := Aside0.mk (below_set (g := p5) (j := 1) (v := .slice Am 0 cm) HB9.out (Nat.le_of_lt hwp))
    have HR7' := Aside0.mk (R_under HF92.out (p := ⟨p5, 1, none⟩) (Nat.lt_succ_self _) (.slice Am 0 cm))
    have HRm' := Aside0.mk (R_under HRm.out (p := ⟨p5, 1, none⟩) (Nat.lt_succ_self _) (.slice Am 0 cm))
    have HPR := Aside0.mk (pr_of HR7'.out HRm'.out)
    obtain ⟨wd, hwd⟩ : ∃ wd, w9.setCell ⟨p5, 1, none⟩ (.slice Am 0 cm) = wd := ⟨_, rfl⟩
    rw [hwd] at HG5 HGw HGb HR7' HRm' HPR ⊢
    clear hwd hp0 hp1 hp2 hpf hpl
    have hc50 : wd.cell? ⟨p5, 0, none⟩ = some (.slice A7 1 c7) := HG5.out.cell 0 rfl
    have hc51 : wd.cell? ⟨p5, 1, none⟩ = some (.slice Am 0 cm) := HG5.out.cell 1 rfl
    have hc52 : wd.cell? ⟨p5, 2, none⟩ = some (.slice none 0 0) := HG5.out.cell 2 rfl
    have HTX := Aside0.mk (txt_calls HPR.out)
    go_wp2_with (first
      | (go_at_call 119; (with_reducible refine HTX.out.mono ?_); rintro e we ⟨rfl, hbe⟩; have HG5' := Aside0.mk (HG5.out.below hbe); have HGw' := Aside0.mk (HGw.out.below hbe); have HGb' := Aside0.mk (bthen HGb.out hbe); have HPR' := Aside0.mk (HPR.out.below hbe); have HR7e := Aside0.mk (Kd.R_below HR7'.out hbe); have HRme := Aside0.mk (Kd.R_below HRm'.out hbe); have he50 : we.cell? ⟨p5, 0, none⟩ = some (.slice A7 1 c7) := HG5'.out.cell 0 rfl; have he51 : we.cell? ⟨p5, 1, none⟩ = some (.slice Am 0 cm) := HG5'.out.cell 1 rfl; have he52 : we.cell? ⟨p5, 2, none⟩ = some (.slice none 0 0) := HG5'.out.cell 2 rfl; have hw0 : we.cell? ⟨w.heap.size, 0, none⟩ = some (.slice none 0 0) := HGw'.out.cell 0 rfl; have hw1 : we.cell? ⟨w.heap.size, 1, none⟩ = some (.slice none 0 0) := HGw'.out.cell 1 rfl; have hw2 : we.cell? ⟨w.heap.size, 2, none⟩ = some (.slice none 0 0) := HGw'.out.cell 2 rfl; have hwf0 : we.frozen? ⟨w.heap.size, 0, none⟩ = false := HGw'.out.free 0; have hwf1 : we.frozen? ⟨w.heap.size, 1, none⟩ = false := HGw'.out.free 1; have hwf2 : we.frozen? ⟨w.heap.size, 2, none⟩ = false := HGw'.out.free 2; have hwlt : w.heap.size < we.heap.size := HGw'.out.lt; clear hbe)
      | (go_at_call 118; (with_reducible refine (sure_yes _ _).mono ?_); rintro e w3 ⟨rfl, rfl⟩))
    refine bodyPost_ret (results_cell_row rfl _ _ w.heap.size 26 #[.slice A7 1 c7, .slice Am 0 cm, .slice none 0 0] (0, 0) _ (by rfl) (((HGw'.out.put 0 _ rfl).put 1 _ rfl).put 2 _ rfl) Tryz.underlying26 rfl (by kernel_rfl)) rfl ?_
    exact ⟨⟨A7, c7, Am, cm, rfl, Kd.R_lower (R_under (R_under (R_under (HR7e.out) (p := ⟨w.heap.size, 0, none⟩) (Nat.lt_succ_of_lt hwp) (.slice A7 1 c7)) (p := ⟨w.heap.size, 1, none⟩) (Nat.lt_succ_of_lt hwp) (.slice Am 0 cm)) (p := ⟨w.heap.size, 2, none⟩) (Nat.lt_succ_of_lt hwp) (.slice none 0 0)) (by omega), Kd.R_lower (R_under (R_under (R_under (HRme.out) (p := ⟨w.heap.size, 0, none⟩) (Nat.lt_succ_of_lt hwp) (.slice A7 1 c7)) (p := ⟨w.heap.size, 1, none⟩) (Nat.lt_succ_of_lt hwp) (.slice Am 0 cm)) (p := ⟨w.heap.size, 2, none⟩) (Nat.lt_succ_of_lt hwp) (.slice none 0 0)) (by omega)⟩, below_set (below_set (below_set HGb'.out (Nat.le_refl _)) (Nat.le_refl _)) (Nat.le_refl _)⟩
end Go.Proofs.YtaojkmalpihmbaaGreatDoor.M

namespace Go.Proofs.YtaojkmalpihmbaaGreatDoor.M
open Go.RowKit Go.Proofs.YtaojkmalpihmbaaGreatDoorW.PrintWords Go.Proofs.YtaojkmalpihmbaaGreatDoorW.PrintLast Go.Proofs.YtaojkmalpihmbaaGreatDoorW.PrintMore Go.Proofs.YtaojkmalpihmbaaGreatDoor.Q
set_option linter.unusedVariables false
set_option linter.unusedSimpArgs false

/-! Read, at one text. -/
theorem read_idle (b4 b5 : Nat) (w : World) :
    CallsD Tryz.prog 87 #[.pointer (some ⟨b4, 0, none⟩), .pointer (some ⟨b5, 0, none⟩)] .returning w fun e u' w' => e = .returned (.tuple #[]) ∧ u' = .returning ∧ w = w' := by
  refine callsD_of_wpS Tryz.func87 rfl fun c₀ cs hu => ?_
  apply wpS_seq
  apply wpS_region
  simp [wpOpsS, go_sem, recoverD, hu, Tryz.ntmps87, Exit.thenS]
  apply wpS_of_wp
  go_wp2
  cases c₀
  simp_all [bodyPostS, results, Tryz.results87]
theorem piece00 : pieceB [m00] [] [] = true := by decide
theorem txt_piece {W : World} {A7 Am : Option Addr} {c7 cm : Nat} (h : PR W A7 c7 [m00] Am cm [] none 0 []) :
    Calls Tryz.prog 66 #[.agg #[.slice A7 1 c7, .slice Am 0 cm, .slice none 0 0]] W fun e w' => e = .returned (.bool true) ∧ Below W.heap.size W w' :=
  (isPiece_calls A7 Am none c7 cm 0 [m00] [] [] W h.r0 h.c0 h.r1 h.c1 h.r2 h.c2 ⟨h.l0, h.l1, h.l2⟩).mono (by rintro e w' ⟨rfl, hb⟩; exact ⟨by rw [piece00], hb⟩)
theorem read_results {w : World} {tmps : Array Value} {b4 b5 : Nat} {z0 z1 z2 z3 : Value} (h4 : tmps.getD 2 undef = .pointer (some ⟨b4, 0, none⟩)) (h5 : tmps.getD 3 undef = .pointer (some ⟨b5, 0, none⟩))
    (k4 : Blk w b4 #[z0, z1, z2] 26) (k5 : Blk w b5 #[z3] 35) : (results Tryz.f44 tmps).run Tryz.prog w = .ok (.tuple #[.agg #[z0, z1, z2], z3]) w := by
  have e : Tryz.f44.results = #[.cell 2 26, .cell 3 35] := rfl
  have h6 : (loadVar 26 ⟨b4, 0, none⟩).run Tryz.prog w = .ok (.agg #[z0, z1, z2]) w := run_loadVar_row w b4 _ 26 #[z0, z1, z2] (0, 0) _ k4 Tryz.underlying26 rfl (by kernel_rfl)
  have h7 : (isAgg 35).run Tryz.prog w = .ok false w := by kernel_rfl
  have h8 : w.cell? ⟨b5, 0, none⟩ = some z3 := k5.cell 0 rfl
  have h9 : (loadVar 35 ⟨b5, 0, none⟩).run Tryz.prog w = .ok z3 w := by simp [loadVar, Sem.run_bind, h7, run_load, h8]
  have g4 : (asAddr (tmps.getD 2 undef)).run Tryz.prog w = .ok ⟨b4, 0, none⟩ w := by rw [h4]; rfl
  have g5 : (asAddr (tmps.getD 3 undef)).run Tryz.prog w = .ok ⟨b5, 0, none⟩ w := by rw [h5]; rfl
  exact results_cell_cell e g4 h6 g5 h9
set_option maxHeartbeats 4000000 in
set_option maxRecDepth 100000 in
theorem Read_calls {w : World} (h : LibW w) :
    Calls Tryz.prog 44 #[.string txt] w fun e w' => (∃ A c A1 c1, e = .returned (.tuple #[.agg #[.slice A 1 c, .slice A1 0 c1, .slice none 0 0], .int .i64 0]) ∧ PR w' A c [m00] A1 c1 [] none 0 []) ∧ Below w.heap.size w w' := by
  have HL := Aside0.mk h
  have hmf : ∀ (fn : Fn) (first cap : Array Value) (w : World), (Instr.makeFunc fn first cap).run Tryz.prog w = .ok (.func fn first cap) w := fun _ _ _ _ => rfl
  have hb0 := below_alloc (below_alloc (Below.refl w.heap.size w) (.cells #[.slice none 0 0, .slice none 0 0, .slice none 0 0] 26)) (.cells #[.int .i64 0] 35)
  have hk0 := (Blk.new w #[.slice none 0 0, .slice none 0 0, .slice none 0 0] 26).alloc (.cells #[.int .i64 0] 35)
  have hk1 := Blk.new (w.alloc (.cells #[.slice none 0 0, .slice none 0 0, .slice none 0 0] 26)) #[.int .i64 0] 35
  rw [World.size_alloc] at hk1
  obtain ⟨W0, hW0⟩ : ∃ W0, (w.alloc (.cells #[.slice none 0 0, .slice none 0 0, .slice none 0 0] 26)).alloc (.cells #[.int .i64 0] 35) = W0 := ⟨_, rfl⟩
  rw [hW0] at hb0 hk0 hk1
  have HW0 := Aside0.mk hW0
  have HB0 := Aside0.mk hb0
  have HK0 := Aside0.mk hk0
  have HK1 := Aside0.mk hk1
  have HPA := Aside0.mk (parsed_calls (HL.out.below hb0))
  clear h hW0 hb0 hk0 hk1
  have hts : ¬ ((400 : Int) < (txt.size : Int)) := by decide
  have hwl : w.heap.size < W0.heap.size := HK0.out.lt
  have hwl1 : w.heap.size + 1 < W0.heap.size := HK1.out.lt
  go_enter_defers Tryz.func44, Tryz.ntmps44
  go_wp2_with (first
    | (go_at_call 88; rw [HW0.out]; (with_reducible refine HPA.out.mono ?_); rintro e w1 ⟨⟨A, c, A1, c1, rfl, hpr, hpo⟩, hb1⟩; have HR := Aside0.mk hpr; have HO := Aside0.mk hpo; have HB1 := Aside0.mk (bthen HB0.out hb1); have HKA := Aside0.mk (HK0.out.below hb1); have HKB := Aside0.mk (HK1.out.below hb1); have ha0 : w1.cell? ⟨w.heap.size, 0, none⟩ = some (.slice none 0 0) := HKA.out.cell 0 rfl; have ha1 : w1.cell? ⟨w.heap.size, 1, none⟩ = some (.slice none 0 0) := HKA.out.cell 1 rfl; have ha2 : w1.cell? ⟨w.heap.size, 2, none⟩ = some (.slice none 0 0) := HKA.out.cell 2 rfl; have hf0 : w1.frozen? ⟨w.heap.size, 0, none⟩ = false := HKA.out.free 0; have hf1 : w1.frozen? ⟨w.heap.size, 1, none⟩ = false := HKA.out.free 1; have hf2 : w1.frozen? ⟨w.heap.size, 2, none⟩ = false := HKA.out.free 2; have hal : w.heap.size < w1.heap.size := HKA.out.lt; have HR' := Aside0.mk (R_under (R_under (R_under (HR.out) (p := ⟨w.heap.size, 0, none⟩) hwl (.slice A 1 c)) (p := ⟨w.heap.size, 1, none⟩) hwl (.slice A1 0 c1)) (p := ⟨w.heap.size, 2, none⟩) hwl (.slice none 0 0)); have HO' := Aside0.mk (R_under (R_under (R_under (HO.out) (p := ⟨w.heap.size, 0, none⟩) hwl (.slice A 1 c)) (p := ⟨w.heap.size, 1, none⟩) hwl (.slice A1 0 c1)) (p := ⟨w.heap.size, 2, none⟩) hwl (.slice none 0 0)); have HKA' := Aside0.mk (((HKA.out.put 0 (.slice A 1 c) (cs' := #[.slice A 1 c, .slice none 0 0, .slice none 0 0]) rfl).put 1 (.slice A1 0 c1) (cs' := #[.slice A 1 c, .slice A1 0 c1, .slice none 0 0]) rfl).put 2 (.slice none 0 0) (cs' := #[.slice A 1 c, .slice A1 0 c1, .slice none 0 0]) rfl); have HKB' := Aside0.mk (((HKB.out.far (p := ⟨w.heap.size, 0, none⟩) (Nat.succ_ne_self _) (.slice A 1 c)).far (p := ⟨w.heap.size, 1, none⟩) (Nat.succ_ne_self _) (.slice A1 0 c1)).far (p := ⟨w.heap.size, 2, none⟩) (Nat.succ_ne_self _) (.slice none 0 0)); have HBs := Aside0.mk (below_set (g := w.heap.size) (j := 2) (v := .slice none 0 0) (below_set (g := w.heap.size) (j := 1) (v := .slice A1 0 c1) (below_set (g := w.heap.size) (j := 0) (v := .slice A 1 c) HB1.out (Nat.le_refl _)) (Nat.le_refl _)) (Nat.le_refl _)); have HPI := Aside0.mk (txt_piece (pr_of HR'.out HO'.out)); clear hpr hb1 hpo)
    | (go_at_call 66; (with_reducible refine HPI.out.mono ?_); rintro e w2 ⟨rfl, hb2⟩; have HKA2 := Aside0.mk (HKA'.out.below hb2); have HKB2 := Aside0.mk (HKB'.out.below hb2); have HB2 := Aside0.mk (bthen HBs.out hb2); have HR2 := Aside0.mk (Kd.R_below HR'.out hb2); have HO2 := Aside0.mk (Kd.R_below HO'.out hb2); have hc0 : w2.cell? ⟨w.heap.size, 0, none⟩ = some (.slice A 1 c) := HKA2.out.cell 0 rfl; have hc1 : w2.cell? ⟨w.heap.size, 1, none⟩ = some (.slice A1 0 c1) := HKA2.out.cell 1 rfl; have hc2 : w2.cell? ⟨w.heap.size, 2, none⟩ = some (.slice none 0 0) := HKA2.out.cell 2 rfl; have hg0 : w2.frozen? ⟨w.heap.size, 0, none⟩ = false := HKA2.out.free 0; have hg1 : w2.frozen? ⟨w.heap.size, 1, none⟩ = false := HKA2.out.free 1; have hg2 : w2.frozen? ⟨w.heap.size, 2, none⟩ = false := HKA2.out.free 2; have hcl : w.heap.size < w2.heap.size := HKA2.out.lt; have hd0 : w2.cell? ⟨w.heap.size + 1, 0, none⟩ = some (.int .i64 0) := HKB2.out.cell 0 rfl; have hdf : w2.frozen? ⟨w.heap.size + 1, 0, none⟩ = false := HKB2.out.free 0; have hdl : w.heap.size + 1 < w2.heap.size := HKB2.out.lt; clear hb2))
  refine leaves_cons (f := 87) (args := #[.pointer (some ⟨w.heap.size, 0, none⟩), .pointer (some ⟨w.heap.size + 1, 0, none⟩)]) (by simp) (by simp [go_sem]) ?_
  refine (read_idle w.heap.size (w.heap.size + 1) _).mono ?_
  rintro e u' w3 ⟨rfl, rfl, rfl⟩
  have hq4 := Blk.far (p := ⟨w.heap.size + 1, 0, none⟩) (((HKA2.out.put 0 (.slice A 1 c) (cs' := #[.slice A 1 c, .slice A1 0 c1, .slice none 0 0]) rfl).put 1 (.slice A1 0 c1) (cs' := #[.slice A 1 c, .slice A1 0 c1, .slice none 0 0]) rfl).put 2 (.slice none 0 0) (cs' := #[.slice A 1 c, .slice A1 0 c1, .slice none 0 0]) rfl) (Nat.succ_ne_self _).symm (.int .i64 0)
  have hq5 := (((HKB2.out.far (p := ⟨w.heap.size, 0, none⟩) (Nat.succ_ne_self _) (.slice A 1 c)).far (p := ⟨w.heap.size, 1, none⟩) (Nat.succ_ne_self _) (.slice A1 0 c1)).far (p := ⟨w.heap.size, 2, none⟩) (Nat.succ_ne_self _) (.slice none 0 0)).put 0 (.int .i64 0) (cs' := #[.int .i64 0]) rfl
  refine ⟨_, read_results rfl rfl hq4 hq5, ⟨A, c, A1, c1, rfl, pr_of (R_under (R_under (R_under (R_under (HR2.out) (p := ⟨w.heap.size, 0, none⟩) hwl (.slice A 1 c)) (p := ⟨w.heap.size, 1, none⟩) hwl (.slice A1 0 c1)) (p := ⟨w.heap.size, 2, none⟩) hwl (.slice none 0 0)) (p := ⟨w.heap.size + 1, 0, none⟩) hwl1 (.int .i64 0)) (R_under (R_under (R_under (R_under (HO2.out) (p := ⟨w.heap.size, 0, none⟩) hwl (.slice A 1 c)) (p := ⟨w.heap.size, 1, none⟩) hwl (.slice A1 0 c1)) (p := ⟨w.heap.size, 2, none⟩) hwl (.slice none 0 0)) (p := ⟨w.heap.size + 1, 0, none⟩) hwl1 (.int .i64 0))⟩, below_set (below_set (below_set (below_set HB2.out (Nat.le_refl _)) (Nat.le_refl _)) (Nat.le_refl _)) (Nat.le_succ _)⟩
end Go.Proofs.YtaojkmalpihmbaaGreatDoor.M

