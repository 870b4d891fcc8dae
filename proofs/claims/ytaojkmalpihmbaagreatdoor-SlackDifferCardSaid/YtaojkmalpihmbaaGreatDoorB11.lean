import Derived.Test.YtaojkmalpihmbaaGreatDoorB10
import Derived.RangeFuncNested
import Derived.RangeFuncBound
import Derived.RangeFuncCalls
import Derived.RangeFuncLeaves
import Derived.Shelf.Abstract
import Derived.Shelf.RegionOpen
import Derived.WalkKit
import Derived.OwnWalkIn
import Derived.TacticsInMore
import Derived.LoopNIn
import Derived.LoopIn
namespace Go.Proofs.YtaojkmalpihmbaaGreatDoor.M
open Go.RowKit
set_option linter.unusedVariables false
set_option linter.unusedSimpArgs false

/-! A range over a function whose rounds are handed something that lies in memory: what T says of it in the world of the round. -/
def SeqT {α : Type} (F : Fence) (n : Nat) (P : Program) (g : Nat) (lb : Array Value) (encs : α → Array Value) (Kp : World → World → Prop) (T : α → World → Prop) (S : List α → Prop) (N : Nat) (w : World) : Prop :=
  ∀ (l : Nat) (J : List α → World → Prop) (W : World), Below w.heap.size w W → (∀ s A B, J s A → Below A.heap.size A B → J s B) →
    (∀ pre x W1, J pre W1 → pre.length < N → T x W1 → YieldAt F (n - 1) P l (encs x) W1 fun e W' => e = .returned (.bool true) ∧ J (pre ++ [x]) W' ∧ Kp W1 W') →
    J [] W →
    CallsIn F n P g (#[.func (.yield l) #[] #[]] ++ lb) W fun e W' => (∃ v, e = .returned v) ∧ ∃ xs, S xs ∧ J xs W'

def postT {α : Type} (Kp : World → World → Prop) (I : List α → World → Prop) (xs : List α) (W : World) : Exit → Act → World → Prop
  | .normal, _, W' => KeepsOthers W W' ∧ Kp W W' ∧ I xs W'
  | _, _, _ => False

variable {F : Fence} {n : Nat} {P : Program}
theorem wpIn_rangeFunc_T {α : Type} {g : Operand} {ps : Array Tmp} {assign body : Code} {Q : Exit → Act → World → Prop} {a : Act} {w : World}
    (hro : F.round = none) (h1 : 1 ≤ n) {gf : Nat} {lb : Array Value} (hg : a.eval g = .func (.func gf) #[] lb) (hFg : F.fn gf) (eg : ∀ args w, (callFunc gf args).run P w = .ok (.enter gf args) w)
    {encs : α → Array Value} {Kp : World → World → Prop} {T : α → World → Prop} {S : List α → Prop} {N : Nat} {w0 : World} (hseq : SeqT F (n - 1) P gf lb encs Kp T S N w0)
    (hKt : ∀ {A B C : World}, Kp A B → Kp B C → Kp A C) (hKb : ∀ (W : World) (l : Nat) (o o' : Obj), w.heap.size ≤ l → W.heap[l]? = some o → o.isCells = false → Kp W (W.putObj l o')) (hb0 : Below w0.heap.size w0 w) (hps : ∀ x, (encs x).size = ps.size)
    (hT : ∀ (x : α) (W : World) (l : Nat) (o o' : Obj), T x W → W.heap[l]? = some o → o.isCells = false → T x (W.putObj l o'))
    (I : List α → World → Prop) (hIb : ∀ s A B, I s A → Below A.heap.size A B → I s B)
    (hIo : ∀ s (W : World) (l : Nat) (o o' : Obj), I s W → w.heap.size ≤ l → W.heap[l]? = some o → o.isCells = false → I s (W.putObj l o')) (h0 : I [] w)
    (Ax : α → Act → World → Prop) (hAx : ∀ (x : α) (a' : Act) (W : World) (l : Nat) (o o' : Obj), Ax x a' W → W.heap[l]? = some o → o.isCells = false → Ax x a' (W.putObj l o'))
    (hassign : ∀ (l : Nat) (pre : List α) (x : α) (W : World) (K : Act → World → Prop), I pre W → T x W → (∀ a' W', KeepsOthers W W' → Kp W W' → I pre W' → T x W' → Ax x a' W' → K a' W') →
      assign.wpIn (F.inRound l) (n - 1 - 1) P (Exit.then K (fun _ _ _ => False)) { tmps := (ps.zip (encs x)).foldl (fun t (p, v) => t.setIfInBounds p v) a.tmps, defers := [] } W)
    (hbody : ∀ (l : Nat) (pre : List α) (x : α) (a' : Act) (W : World), I pre W → pre.length < N → T x W → Ax x a' W → body.wpIn (F.inRound l) (n - 1 - 1) P (postT Kp I (pre ++ [x]) W) a' W)
    (hdone : ∀ (D : Nat) (xs : List α) (W : World), w.heap.size ≤ D → S xs → I xs W → W.heap[D]? = some (.deferred (some [])) → Q .normal { a with defers := { target := .collected D, args := #[] } :: a.defers } W) :
    (Code.rangeFunc g ps assign body).wpIn F n P Q a w := by
  refine wpIn_rangeFunc ?_
  intro fn hfn
  rw [hro]
  obtain ⟨rec, hrec⟩ : ∃ rec : LoopState → Option Code → Loop, rec = fun st pe => { state := st, pending := pe, fn, tmps := a.tmps, params := ps, assign, body, defers := w.heap.size } := ⟨_, rfl⟩
  obtain ⟨W1, hW1⟩ : ∃ W1, (w.alloc (.deferred (some []))).alloc (.loop (rec .ready none)) = W1 := ⟨_, rfl⟩
  have hL1 : W1.heap[w.heap.size + 1]? = some (.loop (rec .ready none)) := by
    rw [← hW1]; have := World.alloc_heap_new (w.alloc (.deferred (some []))) (.loop (rec .ready none)); rwa [World.size_alloc] at this
  have hK1 : W1.heap[w.heap.size]? = some (.deferred (some [])) := by
    rw [← hW1]; exact (Below.heap_alloc _ _ _ (by simp)).trans (World.alloc_heap_new w _)
  have hal : ∀ s (A : World) (o : Obj), I s A → I s (A.alloc o) := fun s A o h => hIb s A _ h ((Below.refl _ A).alloc (Nat.le_refl _) o)
  have hI1 : I [] W1 := by rw [← hW1]; exact hal _ _ _ (hal _ _ _ h0)
  have hb1 : Below w0.heap.size w0 W1 := by
    rw [← hW1]; exact hb0.trans ((((Below.refl _ w).alloc (Nat.le_refl _) _).alloc (by simp) _).mono hb0.size)
  refine ⟨w.heap.size + 1, [{ target := .collected w.heap.size, args := #[] }], W1, { target := .fn (.func gf) lb, args := #[.func (.yield (w.heap.size + 1)) #[] #[]] }, W1, gf,
    #[.func (.yield (w.heap.size + 1)) #[] #[]] ++ lb, W1, ?_, ?_, ?_, ?_, fun _ => h1, ?_⟩
  · rw [← hW1, hrec]; exact run_enterLoop_outer _ _ _ _ _
  · simp only [resolve, hg]
    simp [go_sem]
  · intro f' hf'; simp [Target.leads] at hf'; subst hf'; exact hFg
  · simp [invoke, go_sem, eg]
  · refine (hseq (w.heap.size + 1)
      (fun pre W => I pre W ∧ W.heap[w.heap.size + 1]? = some (.loop (rec .ready none)) ∧ W.heap[w.heap.size]? = some (.deferred (some [])))
      W1 hb1
      (fun s A B hs hb => ⟨hIb s A B hs.1 hb, (hb.block _ (Array.getElem?_eq_some_iff.1 hs.2.1).1).trans hs.2.1, (hb.block _ (Array.getElem?_eq_some_iff.1 hs.2.2).1).trans hs.2.2⟩)
      ?_ ⟨hI1, hL1, hK1⟩).mono ?_
    · rintro pre x W ⟨hi, hl, hk⟩ hlen hT0
      have hy := run_yield (P := P) (args := encs x) hl (by rw [hrec]; exact hps x)
      rw [hrec] at hy
      refine ⟨fn, _, assign, body, hy, roundIn_of_wpIn hfn (hassign _ pre x W _ hi hT0 ?_)⟩
      clear hy
      intro a' Wa hkfa hkpa hia hta hax
      have hla := hkfa.same _ _ hl rfl
      have hka := hkfa.same _ _ hk rfl
      have hlt : w.heap.size + 1 < Wa.heap.size := (Array.getElem?_eq_some_iff.1 hla).1
      refine ⟨_, run_beginRound hla (by rw [hrec]), ?_⟩
      have hl2 : (Wa.putObj (w.heap.size + 1) (.loop { rec .ready none with state := .busy })).heap[w.heap.size + 1]? = some (.loop { rec .ready none with state := .busy }) := World.putObj_heap_same hlt
      have hk2 : (Wa.putObj (w.heap.size + 1) (.loop { rec .ready none with state := .busy })).heap[w.heap.size]? = some (.deferred (some [])) := (World.putObj_heap_other (by omega)).trans hka
      have hw2 : Kp Wa (Wa.putObj (w.heap.size + 1) (.loop { rec .ready none with state := .busy })) := hKb _ _ _ _ (by omega) hla rfl
      refine wpIn_mono (hbody _ pre x a' _ (hIo _ _ _ _ _ hia (by omega) hla rfl) hlen (hT _ _ _ _ _ hta hla rfl) (hAx _ _ _ _ _ _ hax hla rfl)) ?_
      rintro e a3 W3 hp
      cases e with
      | normal =>
        obtain ⟨hk3, hkp3, hi3⟩ := hp
        have hl3 := hk3.same _ _ hl2 rfl
        have hr := run_endRound (P := P) none hl3
        rw [hrec] at hr
        have hr' : (Instr.endRound (w.heap.size + 1) none).run P W3 = .ok (.bool true) (W3.putObj (w.heap.size + 1) (.loop (rec .ready none))) := by rw [hrec]; exact hr
        exact ⟨_, _, hr', rfl, ⟨hIo _ _ _ _ _ hi3 (by omega) hl3 rfl, World.putObj_heap_same (Array.getElem?_eq_some_iff.1 hl3).1, (World.putObj_heap_other (by omega)).trans (hk3.same _ _ hk2 rfl)⟩, hKt hkpa (hKt (hKt hw2 hkp3) (hKb _ _ _ _ (by omega) hl3 rfl))⟩
      | ret => exact hp.elim
      | exit id => exact hp.elim
      | goto t => exact hp.elim
      | panic ch => exact hp.elim
      | outgrown => exact hp.elim
    · rintro e W2 ⟨⟨v, rfl⟩, xs, hS, hi, hl, hk⟩
      exact ⟨none, _, by have := run_endLoop (P := P) hl (by rw [hrec]; simp); rw [hrec] at this; exact this, hdone _ xs _ (Nat.le_refl _) hS (hIo _ _ _ _ _ hi (by omega) hl rfl) ((World.putObj_heap_other (by omega)).trans hk)⟩
end Go.Proofs.YtaojkmalpihmbaaGreatDoor.M

namespace Go.Proofs.YtaojkmalpihmbaaGreatDoor.M
open Go.RowKit Go.Proofs.YtaojkmalpihmbaaGreatDoorW.PrintWords Go.Proofs.YtaojkmalpihmbaaGreatDoorW.PrintLast Go.Proofs.YtaojkmalpihmbaaGreatDoorW.PrintMore Go.Proofs.YtaojkmalpihmbaaGreatDoor.Q
set_option linter.unusedVariables false
set_option linter.unusedSimpArgs false

/-! What a round of the consumer keeps: all that lay below n0; every block of cells that is none of truths, but b. -/
def Keep (n0 b : Nat) (W W' : World) : Prop :=
  Below n0 W W' ∧ ∀ k, k ≠ b → ∀ cells q fr, W.heap[k]? = some (.cells cells q fr) → q ≠ 89 → W'.heap[k]? = some (.cells cells q fr)
section
variable {n0 b : Nat} {A B C : World}
theorem Keep.refl (W : World) : Keep n0 b W W := ⟨Below.refl _ _, fun _ _ _ _ _ h _ => h⟩
theorem Keep.trans (h : Keep n0 b A B) (k : Keep n0 b B C) : Keep n0 b A C := ⟨h.1.trans k.1, fun i hi cs q fr hq hn => k.2 i hi cs q fr (h.2 i hi cs q fr hq hn) hn⟩
theorem Keep.of_below (hn : n0 ≤ A.heap.size) (h : Below A.heap.size A B) : Keep n0 b A B :=
  ⟨h.mono hn, fun k _ cs q fr hk _ => (h.block k (Array.getElem?_eq_some_iff.1 hk).1).trans hk⟩
theorem Keep.putObj {l : Nat} {o : Obj} (o' : Obj) (hn : n0 ≤ l) (h : A.heap[l]? = some o) (hc : o.isCells = false) : Keep n0 b A (A.putObj l o') :=
  ⟨⟨rfl, rfl, rfl, by simp, fun k hk => World.putObj_heap_other (by omega)⟩, fun k _ cs q fr hk _ => (World.putObj_heap_other (fun e => by subst e; rw [hk] at h; cases h; cases hc)).trans hk⟩
theorem Blk.keep {k : Nat} {cs : Array Value} {q : Nat} (h : Blk A k cs q) (hk : Keep n0 b A B) (hb : k ≠ b) (hq : q ≠ 89) : Blk B k cs q := hk.2 k hb cs q (0, 0) h hq
theorem OwnR.keep {base : Nat} {l : List Int} {v : Value} (h : OwnR A base l v) (hk : Keep n0 b A B) (hb : b < base) : OwnR B base l v := by
  refine Kd.R_mono (Kd.R_move (Kd.R_bound h) (fun k hk' => ?_)) (fun _ _ => trivial)
  obtain ⟨_, h1, _, q, hq, cells, hc⟩ := hk'
  have hq' : q = 3 := by simpa [Kd.E, Kd.int, Kd.scalar] using hq
  subst hq'
  exact (hk.2 k (by omega) _ _ _ hc (by decide)).trans hc.symm
/-- A truth that is handed out: its value; what it holds. -/
abbrev TV := Value × S89
def TOwn (base : Nat) (x : TV) (W : World) : Prop := ∃ cs, (k89).M W base (fun _ => True) x.2 cs ∧ x.1 = .agg cs.toArray
end
/-- All truths of some meshes, behind plays. -/
def upTo (lo hi : Int) : List Int := (List.range (hi - lo + 1).toNat).map fun (i : Nat) => lo + (i : Int)
def truthsFrom (mv : List Int) (rs : List S66) : List S64 → List Int → List S89
  | [], pl => if liveB rs pl mv then [⟨pl, lastL pl mv⟩] else []
  | m :: ms, pl => (upTo m.f0.f0 m.f0.f1).flatMap fun n => truthsFrom mv rs ms (pl ++ [n])
def truthsL (ms : List S64) (mv : List Int) (rs : List S66) : List S89 := truthsFrom mv rs ms []
section
variable {A0 A1 A2 : Option Addr} {c0 c1 c2 : Nat} {ms : List S64} {mv : List Int} {rs : List S66}
theorem truths_calls {w : World} :
    Calls Tryz.prog 70 #[.agg #[.slice A0 ms.length c0, .slice A1 mv.length c1, .slice A2 rs.length c2]] w fun e w' =>
      e = .returned (.func (.func 109) #[] #[.pointer (some ⟨w.heap.size, 0, none⟩)]) ∧ w' = w.alloc (.cells #[.slice A0 ms.length c0, .slice A1 mv.length c1, .slice A2 rs.length c2] 26) := by
  go_enter Tryz.func70, Tryz.ntmps70
  go_wp2
  go_ret
  exact ⟨rfl, rfl⟩
/-- What search finds in memory. -/
structure SM (w0 : World) (A0 : Option Addr) (c0 : Nat) (ms : List S64) (A1 : Option Addr) (c1 : Nat) (mv : List Int) (A2 : Option Addr) (c2 : Nat) (rs : List S66) (b B0 bp by' bs l : Nat) (W : World) : Prop where
  pr : PR w0 A0 c0 ms A1 c1 mv A2 c2 rs
  ok : pieceB ms mv rs = true
  below : Below w0.heap.size w0 W
  kp : Blk W bp #[.slice A0 ms.length c0, .slice A1 mv.length c1, .slice A2 rs.length c2] 26
  ky : Blk W by' #[.func (.yield l) #[] #[]] 143
  ks : Blk W bs #[.func (.func 110) #[] #[.pointer (some ⟨bp, 0, none⟩), .pointer (some ⟨by', 0, none⟩), .pointer (some ⟨bs, 0, none⟩)]] 144
  np : bp ≠ b
  ny : by' ≠ b
  ns : bs ≠ b
  hb : b < B0
  hB : B0 ≤ W.heap.size
theorem SM.keep {w0 W W' : World} {b B0 bp by' bs l : Nat} (h : SM w0 A0 c0 ms A1 c1 mv A2 c2 rs b B0 bp by' bs l W) (k : Keep w0.heap.size b W W') : SM w0 A0 c0 ms A1 c1 mv A2 c2 rs b B0 bp by' bs l W' :=
  ⟨h.pr, h.ok, h.below.trans k.1, h.kp.keep k h.np (by decide), h.ky.keep k h.ny (by decide), h.ks.keep k h.ns (by decide), h.np, h.ny, h.ns, h.hb, Nat.le_trans h.hB k.1.size⟩
theorem SM.read {w0 W : World} {b B0 bp by' bs l : Nat} (h : SM w0 A0 c0 ms A1 c1 mv A2 c2 rs b B0 bp by' bs l W) : PR W A0 c0 ms A1 c1 mv A2 c2 rs := h.pr.below h.below
theorem piece_readings {ms : List S64} {mv : List Int} {rs : List S66} (h : pieceB ms mv rs = true) : ∀ r ∈ rs, 0 ≤ r.f1 ∧ r.f1 < ((ms.length + 1 : Nat) : Int) := by
  intro r hr
  simp [pieceB, anyB] at h
  have := h.2.2.2.2.2 r hr
  simp [readingBad, inB] at this
  omega
theorem piece_meshes {ms : List S64} {mv : List Int} {rs : List S66} (h : pieceB ms mv rs = true) : ∀ m ∈ ms, 0 ≤ m.f0.f0 ∧ m.f0.f0 ≤ m.f0.f1 ∧ m.f0.f1 ≤ 100 := by
  intro r hr
  simp [pieceB, anyB] at h
  have := h.2.2.2.1 r hr
  simp [meshBad, spanB] at this
  omega
attribute [local go_sem] Oper.semAt_some
theorem lived_no {w w' : World} {A : Option Addr} {n c : Nat} {l : List Int} {e : Ending} (h : LivedV w false A n c l e w') : e = .returned (.tuple #[.agg #[.slice none 0 0, .slice none 0 0], .bool false]) := by
  rcases h with ⟨h, _⟩ | ⟨_, h⟩
  · cases h
  · exact h
theorem lived_yes {w w' : World} {A : Option Addr} {n c : Nat} {l : List Int} {e : Ending} (h : LivedV w true A n c l e w') : ∃ A' c', e = .returned (.tuple #[.agg #[.slice A n c, .slice A' l.length c'], .bool true]) ∧ OwnR w' w.heap.size l (.slice A' l.length c') := by
  rcases h with ⟨_, h⟩ | ⟨h, _⟩
  · exact h
  · cases h
set_option maxHeartbeats 4000000 in
set_option maxRecDepth 100000 in
theorem search_base {w0 W : World} {b B0 bp by' bs l : Nat} (J : List TV → World → Prop) (hJ : ∀ s A B, J s A → Below A.heap.size A B → J s B)
    {N : Nat} (hY : ∀ m pre x W1, J pre W1 → pre.length < N → TOwn B0 x W1 → YieldAt Fence.wide m Tryz.prog l #[x.1] W1 fun e W' => e = .returned (.bool true) ∧ J (pre ++ [x]) W' ∧ Keep w0.heap.size b W1 W')
    (h : SM w0 A0 c0 ms A1 c1 mv A2 c2 rs b B0 bp by' bs l W) {A : Option Addr} {c : Nat} {pl : List Int} (hp : OwnR W B0 pl (.slice A pl.length c)) (hpl : pl.length = ms.length) (pre : List TV) (h0 : J pre W) (hN : pre.length + (truthsFrom mv rs [] pl).length ≤ N) :
    Calls Tryz.prog 110 #[.slice A pl.length c, .pointer (some ⟨bp, 0, none⟩), .pointer (some ⟨by', 0, none⟩), .pointer (some ⟨bs, 0, none⟩)] W fun e W' =>
      e = .returned (.bool true) ∧ (∃ xs, xs.map (·.2) = truthsFrom mv rs [] pl ∧ J (pre ++ xs) W') ∧ Keep w0.heap.size b W W' := by
  refine (callsIn_wide (n := 3)).1 ?_
  have hk0 := h.kp.cell 0 rfl
  have hk1 := h.kp.cell 1 rfl
  have hk2 := h.kp.cell 2 rfl
  have hlen := piece_len h.ok
  have HPL := Aside0.mk hpl
  have hpl4 : pl.length ≤ 4 := by omega
  have hms4 : ms.length ≤ 4 := hlen.2.1
  have HAA := Aside0.mk (show ∀ r ∈ rs, 0 ≤ r.f1 ∧ r.f1 < ((pl.length + 1 : Nat) : Int) by rw [hpl]; exact piece_readings h.ok)
  have heq : ((pl.length : Int) == (ms.length : Int)) = true := by rw [hpl]; simp
  have heq' : (pl.length : Int) = (ms.length : Int) := by rw [hpl]
  have H := Aside0.mk h
  have HP := Aside0.mk hp
  have HJ := Aside0.mk @hJ
  have HY := Aside0.mk @hY
  have H0 := Aside0.mk h0
  have HN := Aside0.mk hN
  have HIR := Aside0.mk (OwnR.ir hp (by omega))
  clear h hp hJ hY h0 hN hlen hpl
  refine callsIn_of_wp Tryz.func110 rfl trivial ?_ rfl
  simp only [Tryz.ntmps110, List.size_toArray, List.length_cons, List.length_nil, Nat.reduceAdd, Nat.reduceSub, Array.replicate_succ, Array.replicate_zero, List.push_toArray, List.append_toArray, List.nil_append, List.cons_append]
  rcases hb : liveB rs pl mv with _ | _
  · have HB := Aside0.mk hb
    clear hb
    gi_wp2_with (refine ⟨trivial, ?_⟩; gi_at_call 111; refine (callsIn_wide.2 (lived_calls H.out.read HIR.out (by omega) HAA.out)).mono ?_; rintro e w2 ⟨hg, hb2⟩; rw [HB.out] at hg; obtain rfl := lived_no hg; clear hg; have HB2 := Aside0.mk hb2; clear hb2)
    refine ⟨fun _ h => (by cases h), ?_⟩
    gi_wp2
    go_ret
    exact ⟨rfl, ⟨[], by simp [truthsFrom, HB.out], by simpa using HJ.out _ _ _ H0.out (below_alloc HB2.out _)⟩, Keep.of_below H.out.below.size (below_alloc HB2.out _)⟩
  · have HB := Aside0.mk hb
    clear hb
    gi_wp2_with (refine ⟨trivial, ?_⟩; gi_at_call 111; refine (callsIn_wide.2 (lived_calls H.out.read HIR.out (by omega) HAA.out)).mono ?_; rintro e w2 ⟨hg, hb2⟩; rw [HB.out] at hg; obtain ⟨A', c', rfl, hown⟩ := lived_yes hg; clear hg; have HO := Aside0.mk hown; have HB2 := Aside0.mk hb2; have HBr := Aside0.mk (H.out.keep (Keep.of_below H.out.below.size hb2)); have hky := HBr.out.ky.cell 0 rfl; have hkl := HBr.out.ky.lt; have HB3 := Aside0.mk (below_alloc hb2 (.cells #[.slice A pl.length c, .slice A' (lastL pl mv).length c'] 89)); obtain ⟨fn, tmps, assign, body, hy, hR⟩ := HY.out 2 pre (.agg #[.slice A pl.length c, .slice A' (lastL pl mv).length c'], ⟨pl, lastL pl mv⟩) _ (HJ.out _ _ _ H0.out HB3.out) (by have h := HN.out; simp only [truthsFrom, HB.out, if_true, List.length_cons, List.length_nil] at h; omega) ⟨_, k89_mkM _ _ _ ⟨pl, lastL pl mv⟩ (OwnR.below HP.out HB3.out) (Kd.R_lower (Kd.R_below HO.out (below_alloc (Below.refl _ _) _)) H.out.hB), rfl⟩; dsimp only at hy; have HR := Aside0.mk hR; clear hb2 hown hR)
    refine HR.out.mono ?_
    rintro e W5 ⟨rfl, hj5, hk5⟩
    gi_wp2
    go_ret
    exact ⟨rfl, ⟨[_], by simp [truthsFrom, HB.out], hj5⟩, (Keep.of_below H.out.below.size HB3.out).trans hk5⟩
end
end Go.Proofs.YtaojkmalpihmbaaGreatDoor.M

