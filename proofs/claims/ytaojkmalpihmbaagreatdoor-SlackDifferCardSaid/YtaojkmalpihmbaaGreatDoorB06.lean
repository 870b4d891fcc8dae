import Derived.Test.YtaojkmalpihmbaaGreatDoorB05
import Derived.Shelf.Abstract
import Derived.Lib.SliceRun
namespace Go.Proofs.YtaojkmalpihmbaaGreatDoor.M
open Go.RowKit Go.Proofs.YtaojkmalpihmbaaGreatDoorW.PrintWords Go.Proofs.YtaojkmalpihmbaaGreatDoorW.PrintLast Go.Proofs.YtaojkmalpihmbaaGreatDoorW.PrintMore Go.Proofs.YtaojkmalpihmbaaGreatDoor.Q
set_option linter.unusedVariables false
set_option linter.unusedSimpArgs false

theorem ent {f : FuncId} {fn : Func} {c : Code} (hf : Tryz.prog.funcs[f]? = some fn) (hname : (fn.name == "runtime.NumGoroutine") = false) (hb : fn.body = some c) : ∀ (args : Array Value) (w : World), (callFunc f args).run Tryz.prog w = .ok (.enter f args) w := fun args w => enters_of hf hname hb args w
theorem bcell {W w1 : World} (hb : Below W.heap.size W w1) : (∀ b o, b < W.heap.size → w1.cell? ⟨b, o, none⟩ = W.cell? ⟨b, o, none⟩) ∧ (∀ b o, b < W.heap.size → w1.frozen? ⟨b, o, none⟩ = W.frozen? ⟨b, o, none⟩) :=
  ⟨fun b o h => hb.cell (p := ⟨b, o, none⟩) h, fun b o h => hb.frozen (p := ⟨b, o, none⟩) h⟩
theorem bthen {w W W' : World} (h : Below w.heap.size w W) (k : Below W.heap.size W W') : Below w.heap.size w W' := below_then h h.size k
/-- A block of cells that one knows whole. -/
def Blk (w : World) (b : Nat) (cs : Array Value) (t : TypeId) : Prop := w.heap[b]? = some (.cells cs t (0, 0))
section
variable {w w1 : World} {b : Nat} {cs : Array Value} {t : TypeId}
theorem Blk.new (w : World) (cs : Array Value) (t : TypeId) : Blk (w.alloc (.cells cs t)) w.heap.size cs t := blk_new w _
theorem Blk.alloc (h : Blk w b cs t) (o : Obj) : Blk (w.alloc o) b cs t := blk_alloc h o
theorem Blk.drew (h : Blk w b cs t) : Blk w.drew b cs t := h
theorem Blk.drewN (h : Blk w b cs t) (n : Nat) : Blk (w.drewN n) b cs t := h
theorem Blk.below (h : Blk w b cs t) (hb : Below w.heap.size w w1) : Blk w1 b cs t := blk_below h hb
theorem Blk.far (h : Blk w b cs t) {p : Addr} (hp : b ≠ p.block) (u : Value) : Blk (w.setCell p u) b cs t := blk_far h hp u
theorem Blk.put (h : Blk w b cs t) (i : Nat) (u : Value) {cs' : Array Value} (e : cs.setIfInBounds i u = cs') : Blk (w.setCell ⟨b, i, none⟩ u) b cs' t := blk_put h i u e
theorem Blk.grown (h : Blk w b cs t) {row : Option Nat} (hg : w.grownBy w1 row) (hne : some b ≠ row) : Blk w1 b cs t := blk_grown h hg hne
theorem Blk.cell (h : Blk w b cs t) (i : Nat) {u : Value} (e : cs[i]? = some u) : w.cell? ⟨b, i, none⟩ = some u := (blk_cell h i).trans e
theorem Blk.free (h : Blk w b cs t) (i : Nat) : w.frozen? ⟨b, i, none⟩ = false := blk_frozen h i
theorem Blk.lt (h : Blk w b cs t) : b < w.heap.size := blk_lt h
end
theorem cell_two {W w1 w2 : World} {a : Addr} {v : Value} (h : W.cell? a = some v) (h1 : Below W.heap.size W w1) (h2 : Below w1.heap.size w1 w2) : w2.cell? a = some v := pw_cell_below h2 (pw_cell_below h1 h)
theorem lt_two {W w1 w2 : World} {b : Nat} (h1 : Below W.heap.size W w1) (h2 : Below w1.heap.size w1 w2) (h : b < W.heap.size) : b < w2.heap.size := Nat.lt_of_lt_of_le h (Nat.le_trans h1.size h2.size)

def meshBad (x : S64) : Bool := !spanB x.f0.f0 x.f0.f1 0 100 || decide (x.f0.f1 - x.f0.f0 > 4)
theorem isPiece1_calls (w : World) : AnyFn 98 #[] w (fun x : S64 => .agg #[.int .i64 x.f0.f0, .int .i64 x.f0.f1]) meshBad := by
  refine ⟨ent Tryz.func98 (by kernel_rfl) rfl, ?_⟩
  intro x W hB
  rcases hs : spanB x.f0.f0 x.f0.f1 0 100 with _ | _
  · have HS := Aside0.mk hs
    clear hs
    go_enter Tryz.func98, Tryz.ntmps98
    go_wp2_with ((with_reducible refine (isSpan_calls _ _ _ _ _).mono ?_); rintro e w1 ⟨rfl, hb1⟩; rw [HS.out])
    go_ret
    exact ⟨ret_bool (by simp [meshBad, HS.out]), ((Below.refl _ _).alloc (Nat.le_refl _) _).trans (hb1.mono (by simp))⟩
  · have HS := Aside0.mk hs
    have hs' := hs
    simp [spanB] at hs'
    clear hs
    obtain ⟨h1, h2, h3⟩ := hs'
    go_enter Tryz.func98, Tryz.ntmps98
    go_wp2_with ((with_reducible refine (isSpan_calls _ _ _ _ _).mono ?_); rintro e w1 ⟨rfl, hb1⟩; rw [HS.out]; obtain ⟨hk1, hk2⟩ := bcell hb1)
    go_ret
    exact ⟨ret_bool (by simp [meshBad, HS.out]), ((Below.refl _ _).alloc (Nat.le_refl _) _).trans (hb1.mono (by simp))⟩
def moveBad (x : Int) : Bool := !inB x (-300) 300
theorem isPiece2_calls (w : World) : AnyFn 99 #[] w (fun x : Int => .int .i64 x) moveBad := by
  refine ⟨ent Tryz.func99 (by kernel_rfl) rfl, ?_⟩
  intro x W hB
  go_enter Tryz.func99, Tryz.ntmps99
  go_wp2_with ((with_reducible refine (in_calls _ _ _ _).mono ?_); rintro e w1 ⟨rfl, rfl⟩)
  go_ret
  exact ⟨rfl, Below.refl _ _⟩
def readingBad (nm n : Int) (x : S66) : Bool := !inB x.f0 0 nm || (!inB x.f1 1 n || (!inB x.f2 (-5000) 5000 || !inB x.f3 0 50))
theorem isPiece3_calls (w : World) (b b' : Nat) (A : Option Addr) (nm c : Nat) (n : Int) (h1 : w.cell? ⟨b, 1, none⟩ = some (.slice A nm c)) (h2 : w.cell? ⟨b', 0, none⟩ = some (.int .i64 n)) (hb : b < w.heap.size) (hb' : b' < w.heap.size) :
    AnyFn 101 #[.pointer (some ⟨b, 0, none⟩), .pointer (some ⟨b', 0, none⟩)] w (fun x : S66 => .agg #[.int .i64 x.f0, .int .i64 x.f1, .int .i64 x.f2, .int .i64 x.f3]) (readingBad nm n) := by
  refine ⟨ent Tryz.func101 (by kernel_rfl) rfl, ?_⟩
  intro x W hB
  have h1' : W.cell? ⟨b, 1, none⟩ = some (.slice A nm c) := (hB.cell (p := ⟨b, 1, none⟩) hb).trans h1
  have h2' : W.cell? ⟨b', 0, none⟩ = some (.int .i64 n) := (hB.cell (p := ⟨b', 0, none⟩) hb').trans h2
  have hbW : b < W.heap.size := Nat.lt_of_lt_of_le hb hB.size
  have hbW' : b' < W.heap.size := Nat.lt_of_lt_of_le hb' hB.size
  clear h1 h2 hb hb' hB
  go_enter Tryz.func101, Tryz.ntmps101
  go_wp2_with ((with_reducible refine (in_calls _ _ _ _).mono ?_); rintro e w1 ⟨rfl, rfl⟩)
  all_goals go_ret
  all_goals exact ⟨ret_bool (by simp [readingBad, *]), below_alloc (Below.refl _ _) _⟩

def pieceB (ms : List S64) (mv : List Int) (rs : List S66) : Bool :=
  inB ms.length 1 4 && (decide ((mv.length : Int) ≤ 8) && (decide ((rs.length : Int) ≤ 6) && (!anyB meshBad ms && (!anyB moveBad mv && !anyB (readingBad mv.length ms.length) rs))))
set_option maxHeartbeats 1000000 in
set_option maxRecDepth 100000 in
theorem isPiece_calls (A0 A1 A2 : Option Addr) (c0 c1 c2 : Nat) (ms : List S64) (mv : List Int) (rs : List S66) (w : World)
    (hr0 : Kd.C k64 w A0 ms.length ms) (hc0 : ms.length ≤ c0) (hr1 : Kd.C (Kd.int .i64) w A1 mv.length mv) (hc1 : mv.length ≤ c1) (hr2 : Kd.C k66 w A2 rs.length rs) (hc2 : rs.length ≤ c2)
    (hL : ms.length ≤ 1000 ∧ mv.length ≤ 1000 ∧ rs.length ≤ 1000) :
    Calls Tryz.prog 66 #[.agg #[.slice A0 ms.length c0, .slice A1 mv.length c1, .slice A2 rs.length c2]] w fun e w' => e = .returned (.bool (pieceB ms mv rs)) ∧ Below w.heap.size w w' := by
  have HR0 := Aside0.mk hr0
  have HR1 := Aside0.mk hr1
  have HR2 := Aside0.mk hr2
  have HC0 := Aside0.mk hc0
  have HC1 := Aside0.mk hc1
  have HC2 := Aside0.mk hc2
  clear hr0 hr1 hr2 hc0 hc1 hc2
  obtain ⟨hL0, hL1, hL2⟩ := hL
  have hq1 : ((w.alloc (.cells #[.slice A0 ms.length c0, .slice A1 mv.length c1, .slice A2 rs.length c2] 26)).alloc (.cells #[.int .i64 ms.length] 3)).cell? ⟨w.heap.size, 1, none⟩ = some (.slice A1 mv.length c1) := by go_simp
  have hq2 : ((w.alloc (.cells #[.slice A0 ms.length c0, .slice A1 mv.length c1, .slice A2 rs.length c2] 26)).alloc (.cells #[.int .i64 ms.length] 3)).cell? ⟨w.heap.size + 1, 0, none⟩ = some (.int .i64 ms.length) := by go_simp
  have HQ1 := Aside0.mk hq1
  have HQ2 := Aside0.mk hq2
  have hB0 := below_alloc (below_alloc (Below.refl w.heap.size w) (.cells #[.slice A0 ms.length c0, .slice A1 mv.length c1, .slice A2 rs.length c2] 26)) (.cells #[.int .i64 ms.length] 3)
  clear hq1 hq2
  go_enter Tryz.func66, Tryz.ntmps66
  go_wp2_with (first | (go_at_call 76; (with_reducible refine (in_calls _ _ _ _).mono ?_); rintro e w1 ⟨rfl, rfl⟩) | (go_at_call 97; (with_reducible refine (containsMesh_calls 98 #[] meshBad _ A0 c0 ms (Kd.C_below HR0.out hB0) HC0.out hL0 (isPiece1_calls _)).mono ?_); rintro e w1 ⟨rfl, hb1⟩; obtain ⟨hk1, hk2⟩ := bcell hb1; have hB1 := bthen hB0 hb1; have hz1 := hb1.size; simp only [World.size_alloc] at hz1; have hz1a := Nat.lt_of_succ_le hz1; have hz1b := Nat.lt_of_succ_lt hz1a) | (go_at_call 74; (with_reducible refine (containsInt_calls 99 #[] moveBad _ A1 c1 mv (Kd.C_below HR1.out hB1) HC1.out hL1 (isPiece2_calls _)).mono ?_); rintro e w2 ⟨rfl, hb2⟩; obtain ⟨hk3, hk4⟩ := bcell hb2; have hB2 := bthen hB1 hb2; have hz2 := hb2.size) | (go_at_call 100; (with_reducible refine (containsReading_calls 101 #[.pointer (some ⟨w.heap.size, 0, none⟩), .pointer (some ⟨w.heap.size + 1, 0, none⟩)] (readingBad mv.length ms.length) _ A2 c2 rs (Kd.C_below HR2.out hB2) HC2.out hL2 (isPiece3_calls _ w.heap.size (w.heap.size + 1) A1 mv.length c1 ms.length (cell_two HQ1.out hb1 hb2) (cell_two HQ2.out hb1 hb2) (lt_two hb1 hb2 (by simp only [World.size_alloc]; omega)) (lt_two hb1 hb2 (by simp only [World.size_alloc]; omega)))).mono ?_); rintro e w3 ⟨rfl, hb3⟩; have hB3 := bthen hB2 hb3))
  all_goals go_ret
  all_goals exact ⟨ret_bool (by first | (simp [pieceB, *]; done) | (simp [pieceB, *, Bool.and_assoc]; done) | (simp [pieceB, *]; omega) | (rw [Bool.eq_iff_iff]; simp [pieceB, *]; omega)), (by first | assumption | exact hB3 | exact hB2 | exact hB1 | exact hB0)⟩
end Go.Proofs.YtaojkmalpihmbaaGreatDoor.M

namespace Go.Proofs.YtaojkmalpihmbaaGreatDoor.M
open Go.RowKit Go.Proofs.YtaojkmalpihmbaaGreatDoorW.PrintWords Go.Proofs.YtaojkmalpihmbaaGreatDoorW.PrintLast Go.Proofs.YtaojkmalpihmbaaGreatDoorW.PrintMore Go.Proofs.YtaojkmalpihmbaaGreatDoor.Q
set_option linter.unusedVariables false
set_option linter.unusedSimpArgs false

/-- A piece's rows are read so. -/
structure PR (w : World) (A0 : Option Addr) (c0 : Nat) (ms : List S64) (A1 : Option Addr) (c1 : Nat) (mv : List Int) (A2 : Option Addr) (c2 : Nat) (rs : List S66) : Prop where
  r0 : Kd.C k64 w A0 ms.length ms
  r1 : Kd.C (Kd.int .i64) w A1 mv.length mv
  r2 : Kd.C k66 w A2 rs.length rs
  c0 : ms.length ≤ c0
  c1 : mv.length ≤ c1
  c2 : rs.length ≤ c2
  l0 : ms.length ≤ 1000
  l1 : mv.length ≤ 1000
  l2 : rs.length ≤ 1000
theorem PR.below {w w1 : World} {A0 : Option Addr} {c0 : Nat} {ms : List S64} {A1 : Option Addr} {c1 : Nat} {mv : List Int} {A2 : Option Addr} {c2 : Nat} {rs : List S66} (h : PR w A0 c0 ms A1 c1 mv A2 c2 rs) (hb : Below w.heap.size w w1) : PR w1 A0 c0 ms A1 c1 mv A2 c2 rs :=
  ⟨Kd.C_below h.r0 hb, Kd.C_below h.r1 hb, Kd.C_below h.r2 hb, h.c0, h.c1, h.c2, h.l0, h.l1, h.l2⟩
/-- A list of whole numbers is read so. -/
structure IR (w : World) (A : Option Addr) (c : Nat) (l : List Int) : Prop where
  r : Kd.C (Kd.int .i64) w A l.length l
  c : l.length ≤ c
  l : l.length ≤ 1000
theorem IR.below {w w1 : World} {A : Option Addr} {c : Nat} {l : List Int} (h : IR w A c l) (hb : Below w.heap.size w w1) : IR w1 A c l := ⟨Kd.C_below h.r hb, h.c, h.l⟩
section
variable {A0 A1 A2 : Option Addr} {c0 c1 c2 : Nat} {ms : List S64} {mv : List Int} {rs : List S66}
theorem piece_calls {w : World} (h : PR w A0 c0 ms A1 c1 mv A2 c2 rs) : Calls Tryz.prog 66 #[.agg #[.slice A0 ms.length c0, .slice A1 mv.length c1, .slice A2 rs.length c2]] w fun e w' => e = .returned (.bool (pieceB ms mv rs)) ∧ Below w.heap.size w w' :=
  isPiece_calls A0 A1 A2 c0 c1 c2 ms mv rs w h.r0 h.c0 h.r1 h.c1 h.r2 h.c2 ⟨h.l0, h.l1, h.l2⟩

def playBad (x : Int) : Bool := !inB x 0 100
theorem arePlays1_calls (w : World) : AnyFn 102 #[] w (fun x : Int => .int .i64 x) playBad := by
  refine ⟨ent Tryz.func102 (by kernel_rfl) rfl, ?_⟩
  intro x W hB
  go_enter Tryz.func102, Tryz.ntmps102
  go_wp2_with ((with_reducible refine (in_calls _ _ _ _).mono ?_); rintro e w1 ⟨rfl, rfl⟩)
  go_ret
  exact ⟨rfl, Below.refl _ _⟩
def playsB (ms : List S64) (pl : List Int) : Bool := decide (pl.length = ms.length) && !anyB playBad pl
theorem arePlays_calls {w : World} (h : PR w A0 c0 ms A1 c1 mv A2 c2 rs) {A : Option Addr} {c : Nat} {pl : List Int} (hp : IR w A c pl) :
    Calls Tryz.prog 67 #[.agg #[.slice A0 ms.length c0, .slice A1 mv.length c1, .slice A2 rs.length c2], .slice A pl.length c] w fun e w' => e = .returned (.bool (playsB ms pl)) ∧ Below w.heap.size w w' := by
  have H := Aside0.mk h
  have HP := Aside0.mk hp
  clear h hp
  have hB0 := below_alloc (Below.refl w.heap.size w) (.cells #[.slice A0 ms.length c0, .slice A1 mv.length c1, .slice A2 rs.length c2] 26)
  by_cases he : pl.length = ms.length
  · have he' : ((pl.length : Int) == (ms.length : Int)) = true := by simp [he]
    have he2 : (pl.length == ms.length) = true := by simp [he]
    have HE := Aside0.mk he
    clear he
    go_enter Tryz.func67, Tryz.ntmps67
    go_wp2_with ((with_reducible refine (containsInt_calls 102 #[] playBad _ A c pl (Kd.C_below HP.out.r hB0) HP.out.c HP.out.l (arePlays1_calls _)).mono ?_); rintro e w2 ⟨rfl, hb2⟩)
    go_ret
    exact ⟨ret_bool (by simp [playsB, HE.out]), bthen hB0 hb2⟩
  · have he' : ((pl.length : Int) == (ms.length : Int)) = false := by simp; omega
    have he2 : (pl.length == ms.length) = false := by simp [he]
    have HE := Aside0.mk he
    clear he
    go_enter Tryz.func67, Tryz.ntmps67
    go_wp2
    go_ret
    exact ⟨ret_bool (by simp [playsB, HE.out]), hB0⟩

/-! meshed -/
def meshOk (n : Int) (x : S64) : Bool := inB n x.f0.f0 x.f0.f1
theorem meshed1_calls (n : Int) (x : S64) (W : World) : Calls Tryz.prog 104 #[.int .i64 n, .agg #[.int .i64 x.f0.f0, .int .i64 x.f0.f1]] W fun e W' => e = .returned (.bool (meshOk n x)) ∧ Below W.heap.size W W' := by
  go_enter Tryz.func104, Tryz.ntmps104
  go_wp2_with ((with_reducible refine (within_calls _ _ _ _).mono ?_); rintro e w1 ⟨rfl, hb1⟩)
  go_ret
  exact ⟨rfl, bthen (below_alloc (Below.refl _ _) _) hb1⟩
def okB : List Int → List S64 → Bool
  | [], [] => true
  | n :: l, x :: m => meshOk n x && okB l m
  | _, _ => false
def okTo (l : List Int) (m : List S64) (k : Nat) : Prop := ∀ j, j < k → ∀ n x, l[j]? = some n → m[j]? = some x → meshOk n x = true
theorem okB_of : ∀ (l : List Int) (m : List S64), l.length = m.length → okTo l m l.length → okB l m = true
  | [], [], _, _ => rfl
  | [], _ :: _, h, _ => by simp at h
  | _ :: _, [], h, _ => by simp at h
  | n :: l, x :: m, h, ho => by
    have h1 := ho 0 (by simp) n x rfl rfl
    have h2 := okB_of l m (by simpa using h) (fun j hj a b ha hb => ho (j + 1) (by simp; omega) a b ha hb)
    simp [okB, h1, h2]
theorem okB_not : ∀ (l : List Int) (m : List S64) (j : Nat) (n : Int) (x : S64), l[j]? = some n → m[j]? = some x → meshOk n x = false → okB l m = false
  | [], _, j, n, x, h, _, _ => by simp at h
  | _ :: _, [], j, n, x, _, h, _ => by simp at h
  | a :: l, b :: m, 0, n, x, h, h1, h2 => by
    simp at h h1
    subst h; subst h1
    simp [okB, h2]
  | a :: l, b :: m, j + 1, n, x, h, h1, h2 => by
    simp at h h1
    simp [okB, okB_not l m j n x h h1 h2]
theorem okB_len {l : List Int} {m : List S64} (h : ¬ l.length = m.length) : okB l m = false := by
  cases hb : okB l m with
  | false => rfl
  | true =>
    exfalso
    refine h ?_
    clear h
    induction l generalizing m with
    | nil => cases m with
      | nil => rfl
      | cons b m => simp [okB] at hb
    | cons a l ih => cases m with
      | nil => simp [okB] at hb
      | cons b m =>
        simp [okB] at hb
        simp [ih hb.2]
set_option maxHeartbeats 1000000 in
set_option maxRecDepth 100000 in
theorem equalFunc_calls {w : World} {A : Option Addr} {c : Nat} {pl : List Int} (hp : IR w A c pl) (hr : Kd.C k64 w A0 ms.length ms) (hc : ms.length ≤ c0) :
    Calls Tryz.prog 103 #[.slice A pl.length c, .slice A0 ms.length c0, .func (.func 104) #[] #[]] w fun e w' => e = .returned (.bool (okB pl ms)) ∧ Below w.heap.size w w' := by
  have HP := Aside0.mk hp
  have HR := Aside0.mk hr
  have HC := Aside0.mk hc
  have hl := hp.l
  clear hp hr hc
  by_cases he : pl.length = ms.length
  · have he' : ((pl.length : Int) != (ms.length : Int)) = false := by simp [he]
    have he2 : (pl.length != ms.length) = false := by simp [he]
    have HE := Aside0.mk he
    clear he
    go_enter Tryz.func103, Tryz.ntmps103
    go_wp2
    go_loopw [17] (fun i wr => ∃ j : Nat, j ≤ pl.length ∧ i = .int .i64 j ∧ Aside0 (okTo pl ms j) ∧ Below w.heap.size w wr) (fun i _ => pl.length - (intOf i).toNat)
    case atStart => exact ⟨0, Nat.zero_le _, rfl, ⟨fun j h => absurd h (by omega)⟩, Below.refl _ _⟩
    case round =>
      obtain ⟨j, hj, rfl, HI, hB⟩ := hrel
      by_cases hlt : j < pl.length
      · have hx : pl[j]? = some pl[j] := List.getElem?_eq_getElem hlt
        have hlm : j < ms.length := by have := HE.out; omega
        have hy : ms[j]? = some ms[j] := List.getElem?_eq_getElem hlm
        obtain ⟨ad, rfl, hc0⟩ := at_int (Kd.C_below HP.out.r hB) hx hlt
        obtain ⟨ad0, rfl, hd0, hd1⟩ := at_mesh (Kd.C_below HR.out hB) hy hlm
        have HX := Aside0.mk hx
        have HY := Aside0.mk hy
        clear hx hy
        generalize pl[j] = n at *
        generalize ms[j] = x at *
        have hB1 := below_alloc hB (.cells #[.int .i64 x.f0.f0, .int .i64 x.f0.f1] 64)
        by_cases hfx : meshOk n x = true
        · have hf1 := Aside0.mk hfx
          clear hfx
          go_wp2_with ((with_reducible refine (meshed1_calls n x _).mono ?_); rintro e w1 ⟨rfl, hb1⟩; rw [hf1.out])
          go_roundw
          case rel => exact ⟨j + 1, by omega, by go_num, ⟨fun i hi a b ha hb => by
            rcases Nat.lt_or_ge i j with h1 | h1
            · exact HI.out i h1 a b ha hb
            · obtain rfl : i = j := by omega
              rw [HX.out] at ha
              rw [HY.out] at hb
              cases ha; cases hb
              exact hf1.out⟩, bthen hB1 hb1⟩
          case measure => simp [intOf]; omega
        · have hf0 := Aside0.mk (Bool.eq_false_iff.2 hfx)
          clear hfx
          go_wp2_with ((with_reducible refine (meshed1_calls n x _).mono ?_); rintro e w1 ⟨rfl, hb1⟩; rw [hf0.out])
          go_ret
          exact ⟨ret_bool (okB_not _ _ j n x HX.out HY.out hf0.out).symm, bthen hB1 hb1⟩
      · obtain rfl : j = pl.length := by omega
        go_wp2
        go_ret
        exact ⟨ret_bool (okB_of _ _ HE.out HI.out).symm, hB⟩
  · have he' : ((pl.length : Int) != (ms.length : Int)) = true := by simp; omega
    have he2 : (pl.length != ms.length) = true := by simp [he]
    have HE := Aside0.mk he
    clear he
    go_enter Tryz.func103, Tryz.ntmps103
    go_wp2
    go_ret
    exact ⟨ret_bool (okB_len HE.out).symm, Below.refl _ _⟩
theorem meshed_calls {w : World} (h : PR w A0 c0 ms A1 c1 mv A2 c2 rs) {A : Option Addr} {c : Nat} {pl : List Int} (hp : IR w A c pl) :
    Calls Tryz.prog 68 #[.agg #[.slice A0 ms.length c0, .slice A1 mv.length c1, .slice A2 rs.length c2], .slice A pl.length c] w fun e w' => e = .returned (.bool (okB pl ms)) ∧ Below w.heap.size w w' := by
  have H := Aside0.mk h
  have HP := Aside0.mk hp
  clear h hp
  have hB0 := below_alloc (Below.refl w.heap.size w) (.cells #[.slice A0 ms.length c0, .slice A1 mv.length c1, .slice A2 rs.length c2] 26)
  go_enter Tryz.func68, Tryz.ntmps68
  go_wp2_with ((with_reducible refine (equalFunc_calls (HP.out.below hB0) (Kd.C_below H.out.r0 hB0) H.out.c0).mono ?_); rintro e w2 ⟨rfl, hb2⟩)
  go_ret
  exact ⟨rfl, bthen hB0 hb2⟩
end
end Go.Proofs.YtaojkmalpihmbaaGreatDoor.M

namespace Go.Proofs.YtaojkmalpihmbaaGreatDoor.M
open Go.RowKit Go.Proofs.YtaojkmalpihmbaaGreatDoorW.PrintWords Go.Proofs.YtaojkmalpihmbaaGreatDoorW.PrintLast Go.Proofs.YtaojkmalpihmbaaGreatDoorW.PrintMore Go.Proofs.YtaojkmalpihmbaaGreatDoor.Q
set_option linter.unusedVariables false
set_option linter.unusedSimpArgs false

/-! slices.Clone at []int -/
def OwnR (w : World) (base : Nat) (l : List Int) (v : Value) : Prop := Kd.R (Kd.int .i64) 3 w base (fun _ => True) v l
def SomeOwn (w : World) (l : List Int) (e : Ending) (w' : World) : Prop := ∃ v, e = .returned v ∧ OwnR w' w.heap.size l v
theorem empty_own (w : World) : Kd.R (Kd.int .i64) 3 (w.alloc (.cells #[] 3)) w.heap.size (fun _ => True) (.slice (some ⟨w.heap.size, 0, none⟩) 0 0) [] := by
  refine ⟨fun _ _ => trivial, [], ?_, ?_⟩
  · refine ⟨rfl, .inr ⟨w.heap.size, 0, #[], rfl, Nat.le_refl _, ?_, ?_⟩⟩
    · exact heap_alloc_new w _
    · simp [maxLen]
  · exact ⟨rfl, fun j p hj => by simp at hj⟩
theorem clone_calls {w : World} {A : Option Addr} {c : Nat} {l : List Int} (h : IR w A c l) :
    Calls Tryz.prog 112 #[.slice A l.length c] w fun e w' => SomeOwn w l e w' ∧ Below w.heap.size w w' := by
  have H := Aside0.mk h
  have hl := h.l
  have qT : ∀ (w : World) (a : Option Addr) (n c n' c' : Nat), (binOp .eql 23 (.slice a n c) (.slice none n' c')).run Tryz.prog w = .ok (.bool a.isNone) w := fun w a n c n' c' => Lib.run_eql_slice_nil w _ _ a n c n' c' Tryz.underlying23
  clear h
  rcases A with _ | ad
  · have h0 : l = [] := by
      cases l with
      | nil => rfl
      | cons a l =>
        obtain ⟨ad, e, _⟩ := at_int H.out.r (j := 0) rfl (by simp)
        cases e
    subst h0
    go_enter Tryz.func112, Tryz.ntmps112
    go_wp2
    go_ret
    exact ⟨⟨_, rfl, Kd.R_nil _ _ _ _ _⟩, Below.refl _ _⟩
  · have hB0 := below_alloc (Below.refl w.heap.size w) (.cells #[] 3)
    have HB0 := Aside0.mk hB0
    have HE := Aside0.mk (empty_own w)
    clear hB0
    go_enter Tryz.func112, Tryz.ntmps112
    go_wp2_with (at_builtin; refine Kd.R_append_row (Value.int .i64) (0 : Int) (h1 := fun _ => rfl) w.heap.size rfl _ _ 23 3 (.int .i64 0) 8 rfl Tryz.underlying23 info3 rfl (by decide) _ [] l (some ad) l.length c (fun _ => True) rfl rfl (fun _ _ => trivial) HE.out (Kd.C_below H.out.r HB0.out) HB0.out ?_ ?_ ?_; exact below_size HB0.out; (simp; omega); intro v1 w1 hr1 hb1 _ _; have HR1 := Aside0.mk hr1; clear hr1)
    go_ret
    exact ⟨⟨_, rfl, HR1.out⟩, hb1⟩
end Go.Proofs.YtaojkmalpihmbaaGreatDoor.M

