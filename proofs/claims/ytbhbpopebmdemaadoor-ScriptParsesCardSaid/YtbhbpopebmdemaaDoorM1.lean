import Derived.RangeFuncNested
import Derived.RangeFuncBound
import Derived.RangeFuncCalls
import Derived.RangeFuncLeaves
import Derived.Test.YtbhbpopebmdemaaDoorB9
import Derived.Test.YtbhbpopebmdemaaDoorPAx1
import Derived.Shelf.RegionOpen
import Derived.OwnWalkIn
import Derived.TacticsInMore
import Derived.LoopNIn
import Derived.LoopIn
import Derived.Maps.AppendAt
import Derived.Lib.AppendStr
import Derived.Lib.Builder
import Derived.Lib.OthersKept
import Derived.Laws.Externs
import Derived.Test.YtbhbpopebmdemaaDoorPAx15
namespace Go.Proofs.YtbhbpopebmdemaaDoor
open Go.RowKit
set_option linter.unusedVariables false
variable {F : Fence} {n : Nat} {P : Program}

/-- What a round keeps for an iterator that keeps its own state in block C. -/
def KpC (n₀ C : Nat) (W W' : World) : Prop := Below n₀ W W' ∧ W'.heap[C]? = W.heap[C]?
theorem KpC.trans {n₀ C : Nat} {X Y Z : World} (h : KpC n₀ C X Y) (k : KpC n₀ C Y Z) : KpC n₀ C X Z := ⟨h.1.trans k.1, k.2.trans h.2⟩
theorem KpC.put {n₀ C B : Nat} (hn : n₀ ≤ B) (hC : C < B) (W : World) (l : Nat) (o o' : Obj) (hl : B ≤ l) (h : W.heap[l]? = some o) (h1 : o.isCells = false) (h2 : o.isWalk = false) (w : World) (hB : w.heap.size = B) : KpC n₀ C W (W.putObj l o') :=
  ⟨belowK_b (w := w) (by omega) W l o o' (by omega) h h1 h2, World.putObj_heap_other (by omega)⟩

/-- An iterator that writes a cell of its own between rounds (block C): no round leaves early; xs come, in their order. -/
def CellSeq {α : Type} (F : Fence) (n : Nat) (P : Program) (g : Nat) (lb : Array Value) (encs : α → Array Value) (xs : List α) (n₀ C : Nat) (w : World) : Prop :=
  ∀ (l : Nat) (J : List α → World → Prop) (W : World), Below w.heap.size w W →
    (∀ pre A A', J pre A → A.grownBy A' none → J pre A') → (∀ pre A v, J pre A → J pre (A.setCell ⟨C, 0, none⟩ v)) →
    (∀ pre x rest W1, xs = pre ++ x :: rest → J pre W1 → YieldAt F (n - 1) P l (encs x) W1 fun e W' => e = .returned (.bool true) ∧ J (pre ++ [x]) W' ∧ KpC n₀ C W1 W') →
    J [] W →
    CallsIn F n P g (#[.func (.yield l) #[] #[]] ++ lb) W fun e W' => (∃ v, e = .returned v) ∧ J xs W'

/-- How a body may end: it goes on. -/
def cellPost {α : Type} (B n₀ C : Nat) (I : List α → World → Prop) (xs : List α) (W : World) : Exit → Act → World → Prop
  | .normal, _, W' => KeepsFrom B W W' ∧ KpC n₀ C W W' ∧ I xs W'
  | _, _, _ => False

/-- The loop over such an iterator. -/
theorem wpIn_rangeFunc_cell {α : Type} {g : Operand} {ps : Array Tmp} {assign body : Code} {Q : Exit → Act → World → Prop} {a : Act} {w : World}
    (hro : F.round = none) (h1 : 1 ≤ n) {gf : Nat} {lb : Array Value} (hg : a.eval g = .func (.func gf) #[] lb) (hFg : F.fn gf) (eg : ∀ args w, (callFunc gf args).run P w = .ok (.enter gf args) w)
    {encs : α → Array Value} {xs : List α} {n₀ C : Nat} (hseq : CellSeq F (n - 1) P gf lb encs xs n₀ C w) (hn₀ : n₀ ≤ w.heap.size) (hC : C < w.heap.size) (hps : ∀ x, (encs x).size = ps.size)
    (I : List α → World → Prop) (hI : OwnFrom w.heap.size I) (hIc : ∀ pre A v, I pre A → I pre (A.setCell ⟨C, 0, none⟩ v)) (h0 : I [] w) (a₁ : α → Act)
    (hassign : ∀ (l : Nat) (x : α) (W : World) (K : Act → World → Prop), K (a₁ x) W →
      assign.wpIn (F.inRound l) (n - 1 - 1) P (Exit.then K (fun _ _ _ => False)) { tmps := (ps.zip (encs x)).foldl (fun t (p, v) => t.setIfInBounds p v) a.tmps, defers := [] } W)
    (hbody : ∀ (l : Nat) (pre : List α) (x : α) (rest : List α) (W : World), xs = pre ++ x :: rest → I pre W → body.wpIn (F.inRound l) (n - 1 - 1) P (cellPost w.heap.size n₀ C I (pre ++ [x]) W) (a₁ x) W)
    (hdone : ∀ (D : Nat) (W : World), w.heap.size ≤ D → I xs W → W.heap[D]? = some (.deferred (some [])) → Q .normal { a with defers := { target := .collected D, args := #[] } :: a.defers } W) :
    (Code.rangeFunc g ps assign body).wpIn F n P Q a w := by
  refine wpIn_rangeFunc ?_
  intro fn hfn
  rw [hro]
  obtain ⟨mk, hmk⟩ : ∃ mk : LoopState → Option Code → Loop, mk = fun st pe => { state := st, pending := pe, fn, tmps := a.tmps, params := ps, assign, body, defers := w.heap.size } := ⟨_, rfl⟩
  obtain ⟨X, hX⟩ : ∃ X, (w.alloc (.deferred (some []))).alloc (.loop (mk .ready none)) = X := ⟨_, rfl⟩
  have hXl : X.heap[w.heap.size + 1]? = some (.loop (mk .ready none)) := by
    have := World.alloc_heap_new (w.alloc (.deferred (some []))) (.loop (mk .ready none))
    rw [World.size_alloc, hX] at this
    exact this
  have hXd : X.heap[w.heap.size]? = some (.deferred (some [])) := by
    rw [← hX]
    exact (Below.heap_alloc _ _ _ (by simp)).trans (World.alloc_heap_new w _)
  have hXI : I [] X := by
    rw [← hX]
    exact hI.alloc _ (hI.alloc _ h0)
  have hXb : Below w.heap.size w X := by
    rw [← hX]
    exact ((Below.refl _ w).alloc (Nat.le_refl _) _).alloc (by simp) _
  refine ⟨w.heap.size + 1, [{ target := .collected w.heap.size, args := #[] }], X, { target := .fn (.func gf) lb, args := #[.func (.yield (w.heap.size + 1)) #[] #[]] }, X, gf,
    #[.func (.yield (w.heap.size + 1)) #[] #[]] ++ lb, X, ?_, ?_, ?_, ?_, fun _ => h1, ?_⟩
  · rw [← hX, hmk]; exact run_enterLoop_outer _ _ _ _ _
  · simp only [resolve, hg]
    simp [go_sem]
  · intro f' hf'; simp [Target.leads] at hf'; subst hf'; exact hFg
  · simp [invoke, go_sem, eg]
  · refine (hseq (w.heap.size + 1) (fun pre W => I pre W ∧ W.heap[w.heap.size + 1]? = some (.loop (mk .ready none)) ∧ W.heap[w.heap.size]? = some (.deferred (some []))) X hXb ?_ ?_ ?_ ⟨hXI, hXl, hXd⟩).mono ?_
    · rintro pre A A' ⟨hi, hl, hd⟩ hg'
      exact ⟨hI pre A A' none hi hg' (fun r e => by cases e), (hg'.block _ (Array.getElem?_eq_some_iff.1 hl).1 (by simp)).trans hl, (hg'.block _ (Array.getElem?_eq_some_iff.1 hd).1 (by simp)).trans hd⟩
    · rintro pre A v ⟨hi, hl, hd⟩
      exact ⟨hIc pre A v hi, (Below.heap_setCell _ _ _ _ (by show _ ≠ C; omega)).trans hl, (Below.heap_setCell _ _ _ _ (by show _ ≠ C; omega)).trans hd⟩
    · rintro pre x rest W hxs ⟨hi, hl, hd⟩
      have hlt : w.heap.size + 1 < W.heap.size := (Array.getElem?_eq_some_iff.1 hl).1
      have hy := run_yield (P := P) (args := encs x) hl (by rw [hmk]; exact hps x)
      rw [hmk] at hy
      refine ⟨fn, _, assign, body, hy, roundIn_of_wpIn hfn (hassign _ x W _ ⟨_, run_beginRound hl (by rw [hmk]), ?_⟩)⟩
      clear hy
      have hl2 : (W.putObj (w.heap.size + 1) (.loop { mk .ready none with state := .busy })).heap[w.heap.size + 1]? = some (.loop { mk .ready none with state := .busy }) := World.putObj_heap_same hlt
      have hd2 : (W.putObj (w.heap.size + 1) (.loop { mk .ready none with state := .busy })).heap[w.heap.size]? = some (.deferred (some [])) := (World.putObj_heap_other (by omega)).trans hd
      have hk2 : KpC n₀ C W (W.putObj (w.heap.size + 1) (.loop { mk .ready none with state := .busy })) := KpC.put hn₀ hC _ _ _ _ (by omega) hl rfl rfl w rfl
      refine wpIn_mono (hbody _ pre x rest _ hxs (hI.putObj _ hi (by omega) hl rfl)) ?_
      intro e a3 W3 hp
      cases e with
      | normal =>
        obtain ⟨hk3, hkp3, hi3⟩ := hp
        have hl3 := hk3.same _ _ (by omega) hl2 rfl
        have hd3 := hk3.same _ _ (Nat.le_refl _) hd2 rfl
        have hr := run_endRound (P := P) none hl3
        refine ⟨_, _, hr, rfl, ⟨hI.putObj _ hi3 (by omega) hl3 rfl, ?_, (World.putObj_heap_other (by omega)).trans hd3⟩, (hk2.trans hkp3).trans (KpC.put hn₀ hC _ _ _ _ (by omega) hl3 rfl rfl w rfl)⟩
        rw [World.putObj_heap_same (Array.getElem?_eq_some_iff.1 hl3).1, hmk]
        rfl
      | ret => exact hp.elim
      | exit id => exact hp.elim
      | goto t => exact hp.elim
      | panic ch => exact hp.elim
      | outgrown => exact hp.elim
    · rintro e W2 ⟨⟨v, rfl⟩, hi, hl, hd⟩
      have hr := run_endLoop (P := P) hl (by rw [hmk]; simp)
      rw [show (mk .ready none).pending = none from by rw [hmk]] at hr
      exact ⟨none, _, hr, hdone _ _ (Nat.le_refl _) (hI.putObj _ hi (by omega) hl rfl) ((World.putObj_heap_other (by omega)).trans hd)⟩
end Go.Proofs.YtbhbpopebmdemaaDoor

namespace Go.Proofs.YtbhbpopebmdemaaDoor
open Go.RowKit Go.Proofs.YtbhbpopebmdemaaDoorW.PrintWords Go.Proofs.YtbhbpopebmdemaaDoorW.PrintLast Go.Proofs.YtbhbpopebmdemaaDoorW.PrintMore
open ChiPure Go.Lib Go.Shelf
set_option linter.unusedVariables false
set_option linter.unusedSimpArgs false
attribute [local go_sem high] PA.eqA35

def ctlV (x : Ctl) : Value := .agg #[.int .i64 x.f0, .int .i64 x.f1, .int .i64 x.f2, .int .i64 x.f3, .int .i64 x.f4, .bool x.f5, .bool x.f6]
def eqC (x y : Ctl) : Bool := x.f0 == y.f0 && (x.f1 == y.f1 && (x.f2 == y.f2 && (x.f3 == y.f3 && (x.f4 == y.f4 && (x.f5 == y.f5 && x.f6 == y.f6)))))
theorem eqC_iff (x y : Ctl) : eqC x y = true ↔ x = y := by
  obtain ⟨a0, a1, a2, a3, a4, a5, a6⟩ := x
  obtain ⟨b0, b1, b2, b3, b4, b5, b6⟩ := y
  simp [eqC]
/-- a control's cells lie at an address. -/
structure CtlAt (w : World) (ad : Addr) (x : Ctl) : Prop where
  c0 : w.cell? ad = some (.int .i64 x.f0)
  c1 : w.cell? ⟨ad.block, ad.off + 1, none⟩ = some (.int .i64 x.f1)
  c2 : w.cell? ⟨ad.block, ad.off + 2, none⟩ = some (.int .i64 x.f2)
  c3 : w.cell? ⟨ad.block, ad.off + 3, none⟩ = some (.int .i64 x.f3)
  c4 : w.cell? ⟨ad.block, ad.off + 4, none⟩ = some (.int .i64 x.f4)
  c5 : w.cell? ⟨ad.block, ad.off + 5, none⟩ = some (.bool x.f5)
  c6 : w.cell? ⟨ad.block, ad.off + 6, none⟩ = some (.bool x.f6)

theorem cl84 (b : Nat) (x y : Ctl) (w : World) (h : CtlAt w ⟨b, 0, none⟩ y) :
    Calls Tryd.prog 84 #[ctlV x, .pointer (some ⟨b, 0, none⟩)] w fun e w' => e = .returned (.bool (!eqC x y)) ∧ w.grownBy w' none := by
  obtain ⟨h0, h1, h2, h3, h4, h5, h6⟩ := h
  have hlt : b < w.heap.size := by
    obtain ⟨o, ho, _⟩ := cells_of_cell h0
    exact (Array.getElem?_eq_some_iff.1 ho).1
  have hu35 := Tryd.underlying35
  have g0 := World.cell?_of_block (w := w) (w' := w.alloc (.cells #[.int .i64 x.f0, .int .i64 x.f1, .int .i64 x.f2, .int .i64 x.f3, .int .i64 x.f4, .bool x.f5, .bool x.f6] 35)) (a := ⟨b, 0, none⟩) (Below.heap_alloc _ _ _ hlt)
  have g1 := World.cell?_of_block (w := w) (w' := w.alloc (.cells #[.int .i64 x.f0, .int .i64 x.f1, .int .i64 x.f2, .int .i64 x.f3, .int .i64 x.f4, .bool x.f5, .bool x.f6] 35)) (a := ⟨b, 1, none⟩) (Below.heap_alloc _ _ _ hlt)
  have g2 := World.cell?_of_block (w := w) (w' := w.alloc (.cells #[.int .i64 x.f0, .int .i64 x.f1, .int .i64 x.f2, .int .i64 x.f3, .int .i64 x.f4, .bool x.f5, .bool x.f6] 35)) (a := ⟨b, 2, none⟩) (Below.heap_alloc _ _ _ hlt)
  have g3 := World.cell?_of_block (w := w) (w' := w.alloc (.cells #[.int .i64 x.f0, .int .i64 x.f1, .int .i64 x.f2, .int .i64 x.f3, .int .i64 x.f4, .bool x.f5, .bool x.f6] 35)) (a := ⟨b, 3, none⟩) (Below.heap_alloc _ _ _ hlt)
  have g4 := World.cell?_of_block (w := w) (w' := w.alloc (.cells #[.int .i64 x.f0, .int .i64 x.f1, .int .i64 x.f2, .int .i64 x.f3, .int .i64 x.f4, .bool x.f5, .bool x.f6] 35)) (a := ⟨b, 4, none⟩) (Below.heap_alloc _ _ _ hlt)
  have g5 := World.cell?_of_block (w := w) (w' := w.alloc (.cells #[.int .i64 x.f0, .int .i64 x.f1, .int .i64 x.f2, .int .i64 x.f3, .int .i64 x.f4, .bool x.f5, .bool x.f6] 35)) (a := ⟨b, 5, none⟩) (Below.heap_alloc _ _ _ hlt)
  have g6 := World.cell?_of_block (w := w) (w' := w.alloc (.cells #[.int .i64 x.f0, .int .i64 x.f1, .int .i64 x.f2, .int .i64 x.f3, .int .i64 x.f4, .bool x.f5, .bool x.f6] 35)) (a := ⟨b, 6, none⟩) (Below.heap_alloc _ _ _ hlt)
  rw [h0] at g0
  rw [h1] at g1
  rw [h2] at g2
  rw [h3] at g3
  rw [h4] at g4
  rw [h5] at g5
  rw [h6] at g6
  clear h0 h1 h2 h3 h4 h5 h6
  unfold ctlV
  go_enter Tryd.func84, Tryd.ntmps84
  go_wp2
  go_ret
  exact ⟨by simp [eqC, Bool.not_and], World.grownBy_alloc _ _ _⟩

theorem CtlAt.grown {w w' : World} {ad : Addr} {x : Ctl} (h : CtlAt w ad x) (hg : w.grownBy w' none) : CtlAt w' ad x :=
  ⟨hg.cell h.c0 (by simp), hg.cell h.c1 (by simp), hg.cell h.c2 (by simp), hg.cell h.c3 (by simp), hg.cell h.c4 (by simp), hg.cell h.c5 (by simp), hg.cell h.c6 (by simp)⟩

/-- the first place of something else. -/
def idxNe (y : Ctl) : List Ctl → Nat → Int
  | [], _ => -1
  | x :: xs, i => if eqC x y then idxNe y xs (i + 1) else i

theorem idxNe_drop (y : Ctl) (xs : List Ctl) (i : Nat) (h : i < xs.length) (k : Nat) : idxNe y (xs.drop i) k = if eqC (PA.rd_T35 xs (i : Int)) y then idxNe y (xs.drop (i + 1)) (k + 1) else k := by
  rw [List.drop_eq_getElem_cons h]
  unfold PA.rd_T35
  rw [Int.toNat_natCast, List.getD_eq_getElem?_getD, List.getElem?_eq_getElem h]
  rfl

def IdxRel (xs : List Ctl) (y : Ctl) (R : Int) (w : World) (kq : Nat) (v8 : Value) (wr : World) : Prop :=
  ∃ i : Nat, i + kq = xs.length ∧ v8 = .int .i64 i ∧ idxNe y (xs.drop i) i = R ∧ w.grownBy wr none

set_option maxRecDepth 100000 in
set_option maxHeartbeats 1000000 in
theorem idx_any (A : Option Addr) (c b : Nat) (xs : List Ctl) (y : Ctl) (w : World) (ok : Nat → Prop) (hF : Kd.F PA.k35 w ok A xs.length xs) (hc : xs.length ≤ c) (hy : CtlAt w ⟨b, 0, none⟩ y) :
    Calls Tryd.prog 80 #[.slice A xs.length c, .func (.func 84) #[] #[.pointer (some ⟨b, 0, none⟩)]] w fun e w' => e = .returned (.int .i64 (idxNe y xs 0)) ∧ w.grownBy w' none := by
  have hmax := Kd.F_max hF
  have hu35 := Tryd.underlying35
  have HF := Lib.hid hF
  have HY := Lib.hid hy
  generalize hR : idxNe y xs 0 = R
  have HR := Lib.hid hR
  clear hR hF hy
  go_enter Tryd.func80, Tryd.ntmps80
  go_wp2_with fail
  go_loopg [8] xs.length (fun kq v8 wr => Hid (IdxRel xs y R w kq v8 wr))
  case atStart => exact ⟨0, by omega, rfl, HR.out, World.grownBy.refl _ _⟩
  case round =>
    have hrel' := hrel.out
    clear hrel
    obtain ⟨i, hi, rfl, hd, hg⟩ := hrel'
    cases gk with
    | zero =>
      have hlt : ((i : Int) < (xs.length : Int)) = False := by simp; omega
      have hlt2 : decide ((i : Int) < (xs.length : Int)) = false := by simp; omega
      have hdd : R = -1 := by rw [← hd, List.drop_of_length_le (by omega)]; rfl
      clear hd
      go_wp2_with fail
      go_ret
      exact ⟨by rw [hdd]; rfl, hg⟩
    | succ k1 =>
      have hlt2 : decide ((i : Int) < (xs.length : Int)) = true := by simp; omega
      have hlt3 : decide ((0 : Int) ≤ (i : Int)) = true := by simp
      have hC : Kd.C PA.k35 wr A xs.length xs := HF.out wr (fun k _ hk => hg.block k hk (by simp))
      obtain ⟨ad, rfl, x0, x1, x2, x3, x4, x5, x6⟩ := PA.at_T35 hC i (by omega) (by omega)
      rw [Int.toNat_natCast] at x0 x1 x2 x3 x4 x5 x6
      rw [idxNe_drop y xs i (by omega)] at hd
      have hcl := cl84 b (PA.rd_T35 xs i) y wr (HY.out.grown hg)
      unfold ctlV at hcl
      clear hC
      go_wp2_with fail
      refine hcl.mono ?_
      rintro e w' ⟨rfl, hg2⟩
      clear hcl x0 x1 x2 x3 x4 x5 x6
      have hg3 : w.grownBy w' none := hg.trans hg2
      by_cases hq : eqC (PA.rd_T35 xs (i : Int)) y = true
      · rw [if_pos hq] at hd
        rw [hq]
        go_wp2_with fail
        go_roundg k1
        case rel => exact ⟨i + 1, by omega, by simp, hd, hg3⟩
        case measure => omega
      · rw [if_neg hq] at hd
        rw [Bool.eq_false_iff.mpr hq]
        go_wp2_with fail
        go_ret
        exact ⟨by rw [← hd]; rfl, hg3⟩
end Go.Proofs.YtbhbpopebmdemaaDoor

namespace Go.Proofs.YtbhbpopebmdemaaDoor
open Go.RowKit Go.Proofs.YtbhbpopebmdemaaDoorW.PrintWords Go.Proofs.YtbhbpopebmdemaaDoorW.PrintLast Go.Proofs.YtbhbpopebmdemaaDoorW.PrintMore
open ChiPure Go.Lib Go.Shelf
set_option linter.unusedVariables false
set_option linter.unusedSimpArgs false
attribute [local go_sem] Oper.semAt_some

/-- how many are the same at the head. -/
def lead (y : Ctl) : List Ctl → Nat
  | [] => 0
  | x :: xs => if eqC x y then lead y xs + 1 else 0
theorem lead_le (y : Ctl) : ∀ xs : List Ctl, lead y xs ≤ xs.length
  | [] => Nat.le_refl _
  | x :: xs => by
    unfold lead
    split
    · have := lead_le y xs; simp; omega
    · simp
theorem idxNe_lead (y : Ctl) : ∀ (xs : List Ctl) (k : Nat), idxNe y xs k = if lead y xs = xs.length then -1 else ((k + lead y xs : Nat) : Int)
  | [], k => by simp [idxNe, lead]
  | x :: xs, k => by
    unfold idxNe lead
    by_cases h : eqC x y = true
    · rw [if_pos h, if_pos h, idxNe_lead y xs (k + 1)]
      by_cases h2 : lead y xs = xs.length
      · rw [if_pos h2, if_pos (by simp [h2])]
      · rw [if_neg h2, if_neg (by simp [h2])]; congr 1; omega
    · rw [if_neg h, if_neg h, if_neg (by simp)]; rfl
theorem eqC_refl (x : Ctl) : eqC x x = true := (eqC_iff x x).2 rfl
theorem lead_pos (x : Ctl) (xs : List Ctl) : 1 ≤ lead x (x :: xs) := by
  unfold lead
  rw [if_pos (eqC_refl x)]
  omega

/-- the runs. -/
def runsF : Nat → List Ctl → List (Ctl × Nat)
  | 0, _ => []
  | _ + 1, [] => []
  | f + 1, x :: xs => (x, lead x (x :: xs)) :: runsF f ((x :: xs).drop (lead x (x :: xs)))
theorem runsF_more : ∀ (f g : Nat) (xs : List Ctl), xs.length ≤ f → xs.length ≤ g → runsF f xs = runsF g xs
  | 0, 0, _, _, _ => rfl
  | 0, g + 1, [], _, _ => rfl
  | 0, g + 1, x :: xs, h, _ => by simp at h
  | f + 1, 0, [], _, _ => rfl
  | f + 1, 0, x :: xs, _, h => by simp at h
  | f + 1, g + 1, [], _, _ => rfl
  | f + 1, g + 1, x :: xs, hf, hg => by
    unfold runsF
    have := lead_pos x xs
    simp only [List.length_cons] at hf hg
    rw [runsF_more f g _ (by rw [List.length_drop, List.length_cons]; omega) (by rw [List.length_drop, List.length_cons]; omega)]
def runsL (xs : List Ctl) : List (Ctl × Nat) := runsF xs.length xs
theorem runsL_cons (x : Ctl) (xs : List Ctl) : runsL (x :: xs) = (x, lead x (x :: xs)) :: runsL ((x :: xs).drop (lead x (x :: xs))) := by
  have := lead_pos x xs
  show runsF (xs.length + 1) (x :: xs) = _
  unfold runsF runsL
  rw [runsF_more xs.length ((x :: xs).drop (lead x (x :: xs))).length _ (by rw [List.length_drop, List.length_cons]; omega) (Nat.le_refl _)]

theorem CtlAt.of_block {w : World} {b : Nat} {x : Ctl} {t : TypeId} (h : w.heap[b]? = some (.cells #[.int .i64 x.f0, .int .i64 x.f1, .int .i64 x.f2, .int .i64 x.f3, .int .i64 x.f4, .bool x.f5, .bool x.f6] t (0, 0))) : CtlAt w ⟨b, 0, none⟩ x := by
  constructor <;> simp [World.cell?, h]

def runEnc (p : Ctl × Nat) : Array Value := #[ctlV p.1, .int .i64 (p.2 : Int)]

def RunRel (n₀ C : Nat) (all : List (Ctl × Nat)) (J : List (Ctl × Nat) → World → Prop) (wr : World) : Prop :=
  ∃ (pre : List (Ctl × Nat)) (cur : List Ctl) (A : Option Addr) (c : Nat), all = pre ++ runsL cur ∧ Boxed wr C 23 (.slice A cur.length c) ∧ cur.length ≤ c ∧ Kd.F PA.k35 wr (fun k => k < n₀) A cur.length cur ∧ J pre wr

def lenAt (C : Nat) (wr : World) : Nat := match wr.cell? ⟨C, 0, none⟩ with | some (.slice _ n _) => n | _ => 0

theorem RunRel.next {n₀ C : Nat} {all : List (Ctl × Nat)} {J : List (Ctl × Nat) → World → Prop} {W3 : World} {pre : List (Ctl × Nat)} {x : Ctl} {rest : List Ctl} {k : Nat} {ad : Addr} {c : Nat} {A2 : Option Addr}
    (hall : all = pre ++ (x, k) :: runsL ((x :: rest).drop k)) (hC : n₀ ≤ C) (hb : Boxed W3 C 23 (.slice (some ad) (rest.length + 1) c)) (hc : rest.length + 1 ≤ c) (hk : k ≤ rest.length + 1)
    (hF : Kd.F PA.k35 W3 (fun k => k < n₀) (some ad) (rest.length + 1) (x :: rest)) (hJ : J (pre ++ [(x, k)]) W3) (hJc : ∀ pre A v, J pre A → J pre (A.setCell ⟨C, 0, none⟩ v))
    (hA : (if c = k then some ad else (some ad).map (·.add (k * 7))) = A2) :
    RunRel n₀ C all J (W3.setCell ⟨C, 0, none⟩ (.slice A2 (rest.length + 1 - k) (c - k))) ∧ lenAt C (W3.setCell ⟨C, 0, none⟩ (.slice A2 (rest.length + 1 - k) (c - k))) = rest.length + 1 - k := by
  have hl : ((x :: rest).drop k).length = rest.length + 1 - k := by simp
  have hb2 := hb.set (.slice A2 (rest.length + 1 - k) (c - k))
  refine ⟨⟨pre ++ [(x, k)], (x :: rest).drop k, A2, c - k, by rw [hall]; simp, by rw [hl]; exact hb2, by rw [hl]; omega, ?_, hJc _ _ _ hJ⟩, ?_⟩
  · refine Kd.F_far (Kd.F_imp hF (fun W' h => ?_)) (fun q hq => by show q ≠ C; omega) _
    rw [← hA]
    exact Kd.C_drop (k := PA.k35) (xs := x :: rest) h (by simpa using hk) (by simpa using hc)
  · unfold lenAt
    rw [hb2.cell]

set_option maxRecDepth 100000 in
set_option maxHeartbeats 2000000 in
theorem runs_seq (n₀ C : Nat) (A : Option Addr) (c : Nat) (xs : List Ctl) (w : World) (hC : n₀ ≤ C) (hb : Boxed w C 23 (.slice A xs.length c)) (hc : xs.length ≤ c) (hF : Kd.F PA.k35 w (fun k => k < n₀) A xs.length xs) (n : Nat) (hn : 1 ≤ n) :
    CellSeq Fence.wide n Tryd.prog 83 #[.pointer (some ⟨C, 0, none⟩)] runEnc (runsL xs) n₀ C w := by
  intro l J W hW hJg hJc hY h0
  have hb' : Boxed W C 23 (.slice A xs.length c) := (hW.block C hb.lt).trans hb
  have hF' : Kd.F PA.k35 W (fun k => k < n₀) A xs.length xs := Kd.F_below hF hW
  have hu35 := Tryd.underlying35
  obtain ⟨i0, hi, hz0, hz1, hz2⟩ := info_parts info35
  clear hb hF hW
  refine callsIn_of_wp Tryd.func83 rfl trivial ?_ rfl
  simp only [Tryd.ntmps83, List.size_toArray, List.length_cons, List.length_nil, Nat.reduceAdd, Nat.reduceSub, Array.replicate_succ, Array.replicate_zero, List.push_toArray, List.append_toArray, List.nil_append, List.cons_append]
  have hc0 := hb'.cell
  gi_wp2_with fail
  gi_loopw [] (fun wr => Hid (RunRel n₀ C (runsL xs) J wr)) (fun wr => lenAt C wr)
  case atStart => exact ⟨[], xs, A, c, rfl, hb', hc, hF', h0⟩
  case round =>
    have hr := hrel.out
    clear hrel hc0 hb' hF' h0 hc
    obtain ⟨pre, cur, A, c, hall, hb, hc, hF, hJ⟩ := hr
    have hc0 := hb.cell
    have HLN := Lib.hid (show lenAt C wr = cur.length by unfold lenAt; rw [hc0])
    cases cur with
    | nil =>
      simp only [List.length_nil] at hc0
      gi_wp2_with fail
      go_end0
      exact ⟨⟨_, rfl⟩, by rw [hall]; simpa [runsL, runsF] using hJ⟩
    | cons x rest =>
      have hC0 := Kd.F_now hF
      obtain ⟨ad, rfl, x0, x1, x2, x3, x4, x5, x6⟩ := PA.at_T35 hC0 0 (by omega) (by simp)
      have hx : PA.rd_T35 (x :: rest) 0 = x := rfl
      have e0 : ad.add ((0 : Int).toNat * 7) = ad := by cases ad; simp [Addr.add]
      rw [hx, e0] at x0 x1 x2 x3 x4 x5 x6
      clear hC0 e0 hx
      have hW1 := hb.alloc (.cells #[.int .i64 x.f0, .int .i64 x.f1, .int .i64 x.f2, .int .i64 x.f3, .int .i64 x.f4, .bool x.f5, .bool x.f6] 35)
      have hF1 := Kd.F_alloc hF (.cells #[.int .i64 x.f0, .int .i64 x.f1, .int .i64 x.f2, .int .i64 x.f3, .int .i64 x.f4, .bool x.f5, .bool x.f6] 35)
      have hg1 := World.grownBy_alloc wr (.cells #[.int .i64 x.f0, .int .i64 x.f1, .int .i64 x.f2, .int .i64 x.f3, .int .i64 x.f4, .bool x.f5, .bool x.f6] 35) none
      have hA1 : CtlAt (wr.alloc (.cells #[.int .i64 x.f0, .int .i64 x.f1, .int .i64 x.f2, .int .i64 x.f3, .int .i64 x.f4, .bool x.f5, .bool x.f6] 35)) ⟨wr.heap.size, 0, none⟩ x := by
        exact CtlAt.of_block (World.alloc_heap_new _ _)
      have hcl := hW1.cell
      simp only [List.length_cons] at hcl
      have hidx := idx_any (some ad) c wr.heap.size (x :: rest) x _ _ hF1 hc hA1
      gi_wp2_with fail
      refine ⟨trivial, (callsIn_wide.2 hidx).mono ?_⟩
      rintro e W2 ⟨rfl, hg2⟩
      clear hidx x0 x1 x2 x3 x4 x5 x6 hc0 hcl
      have hb2 : Boxed W2 C 23 (.slice (some ad) (x :: rest).length c) := hW1.kept hg2 (by simp)
      have hF2 := Kd.F_grown hF1 hg2 (fun k hk => by simp)
      have hA2 := hA1.grown hg2
      have hJ2 := hJg _ _ _ (hJg _ _ _ hJ hg1) hg2
      have hmax := Kd.F_max hF2
      clear hW1 hF1 hA1 hg1 hJ hg2 hb hF
      have hc2 := hb2.cell
      simp only [List.length_cons] at hc2
      rw [idxNe_lead]
      obtain ⟨k, hk⟩ : ∃ k, lead x (x :: rest) = k := ⟨_, rfl⟩
      have hk1 : 1 ≤ k := by rw [← hk]; exact lead_pos x rest
      have hk2 : k ≤ rest.length + 1 := by rw [← hk]; exact lead_le x (x :: rest)
      rw [runsL_cons, hk] at hall
      have hyy := hY pre (x, k) (runsL ((x :: rest).drop k)) W2 hall hJ2
      rw [hk]
      have HALL := Lib.hid hall
      clear hall hk hJ2 hJg hY
      obtain ⟨fn, tmps, assign, body, hy, hR⟩ := hyy
      unfold runEnc ctlV at hy
      dsimp only at hy
      obtain ⟨a0, a1, a2, a3, a4, a5, a6⟩ := hA2
      have hcut := cut_from (P := Tryd.prog) 23 35 .i64 Tryd.underlying23 hi 7 hz1 (some ad) (rest.length + 1) c (k : Int) (by omega) (by omega)
      simp only [Int.toNat_natCast] at hcut
      generalize hA3 : (if c = k then some ad else (some ad).map (·.add (k * 7))) = A3 at hcut
      have HA3 := Lib.hid hA3
      clear hA3
      by_cases hke : k = rest.length + 1
      · subst hke
        rw [if_pos (by simp)]
        rw [Int.natCast_succ] at hy hcut
        gi_wp2_with fail
        clear hy a0 a1 a2 a3 a4 a5 a6 hc2
        refine hR.mono ?_
        rintro e W3 ⟨rfl, hJ3, hK3⟩
        have hb3 : Boxed W3 C 23 (.slice (some ad) (rest.length + 1) c) := hK3.2.trans hb2
        have hF3 := Kd.F_step hF2 (fun q hq _ => hK3.1.block q hq)
        have hnx := RunRel.next HALL.out hC hb3 hc hk2 hF3 hJ3 hJc HA3.out
        rw [Nat.sub_self] at hnx
        have hc3 := hb3.cell
        have hf3 := hb3.frozen
        clear hR hF2 hF3 hb2 hb3
        gi_wp2_with fail
        go_roundw
        case rel => exact hnx.1
        case measure => rw [hnx.2, HLN.out]; simp
      · rw [if_neg (by simp; exact hke), Nat.zero_add]
        have hkl : decide ((k : Int) < 0) = false := by simp
        gi_wp2_with fail
        clear hy a0 a1 a2 a3 a4 a5 a6 hc2
        refine hR.mono ?_
        rintro e W3 ⟨rfl, hJ3, hK3⟩
        have hb3 : Boxed W3 C 23 (.slice (some ad) (rest.length + 1) c) := hK3.2.trans hb2
        have hF3 := Kd.F_step hF2 (fun q hq _ => hK3.1.block q hq)
        have hnx := RunRel.next HALL.out hC hb3 hc hk2 hF3 hJ3 hJc HA3.out
        have hc3 := hb3.cell
        have hf3 := hb3.frozen
        clear hR hF2 hF3 hb2 hb3
        gi_wp2_with fail
        go_roundw
        case rel => exact hnx.1
        case measure => rw [hnx.2, HLN.out]; simp; omega
end Go.Proofs.YtbhbpopebmdemaaDoor

namespace Go.Proofs.YtbhbpopebmdemaaDoor
open Go.RowKit Go.Proofs.YtbhbpopebmdemaaDoorW.PrintWords Go.Proofs.YtbhbpopebmdemaaDoorW.PrintLast Go.Proofs.YtbhbpopebmdemaaDoorW.PrintMore
open ChiPure Go.Lib Go.Shelf
set_option linter.unusedVariables false
set_option linter.unusedSimpArgs false
attribute [local go_sem] Oper.semAt_some

theorem runs_any (v : Value) (A : Option Addr) (n c : Nat) (w : World) (hv : v = .slice A n c) :
    Calls Tryd.prog 46 #[v] w fun e w' => e = .returned (.func (.func 83) #[] #[.pointer (some ⟨w.heap.size, 0, none⟩)]) ∧ w' = w.alloc (.cells #[v] 23) := by
  subst hv
  go_enter Tryd.func46, Tryd.ntmps46
  go_wp2
  go_ret
  exact ⟨rfl, rfl⟩

theorem info3 : (Tryd.prog.info? 3).map (fun i => (i.zero, i.size, i.bytes)) = some (some (.int .i64 0), 1, 8) := by kernel_rfl

theorem runsF_len : ∀ (f : Nat) (xs : List Ctl), (runsF f xs).length ≤ xs.length
  | 0, _ => Nat.zero_le _
  | _ + 1, [] => Nat.zero_le _
  | f + 1, x :: xs => by
    unfold runsF
    have := runsF_len f ((x :: xs).drop (lead x (x :: xs)))
    have := lead_pos x xs
    simp only [List.length_cons, List.length_drop] at *
    omega
theorem runsL_len (xs : List Ctl) : (runsL xs).length ≤ xs.length := runsF_len _ xs

def runN (p : Ctl × Nat) : Value := .int .i64 (p.2 : Int)

/-- what Runs' loop keeps. -/
def CollI (w : World) (B C : Nat) (pre : List (Ctl × Nat)) (W : World) : Prop :=
  (∃ v, Boxed W B 32 v ∧ W.ownsRow w.heap.size 3 1 v pre.length (pre.map runN) ∧ True) ∧ ((∃ u, Boxed W C 23 u) ∧ Below w.heap.size w W)

theorem boxAny_own {β : Type} (C : Nat) (t : TypeId) : Own (fun (_ : β) W => ∃ u, Boxed W C t u) := by
  rintro s X Y row ⟨u, hs⟩ hg hrow
  refine ⟨u, hs.kept hg (fun e' => ?_)⟩
  obtain ⟨o, ho, hc⟩ := hrow C e'.symm
  rw [show X.heap[C]? = _ from hs] at ho
  cases ho
  cases hc

theorem CollI.own (w : World) (B C N : Nat) (hN : w.heap.size ≤ N) : OwnFrom N (CollI w B C) :=
  OwnFrom.and (Own.from (holdsRow_own w.heap.size B 32 3 1 (fun pre : List (Ctl × Nat) => pre.length) (fun pre => pre.map runN) (fun _ _ => True)) _) (OwnFrom.and (Own.from (boxAny_own C 23) _) (ownFrom_below (Nat.le_refl _) hN))

theorem CollI.set {w : World} {B C : Nat} (hBC : B ≠ C) (hC : w.heap.size ≤ C) (pre : List (Ctl × Nat)) (W : World) (u : Value) (h : CollI w B C pre W) : CollI w B C pre (W.setCell ⟨C, 0, none⟩ u) := by
  obtain ⟨⟨v, hv, hr, _⟩, ⟨q, hq⟩, hb⟩ := h
  exact ⟨⟨v, hv.other hBC u, hr.kept (grownBy_setCell' W C u) (.inr (hq.not_row (by decide) hr).symm), trivial⟩, ⟨u, hq.set u⟩, hb.setCell (p := ⟨C, 0, none⟩) hC u⟩

set_option maxRecDepth 100000 in
set_option maxHeartbeats 2000000 in
theorem Runs_any (A : Option Addr) (c : Nat) (xs : List Ctl) (w : World) (hc : xs.length ≤ c) (hF : Kd.F PA.k35 w (fun k => k < w.heap.size) A xs.length xs) (hlen : xs.length ≤ 17592186044416) :
    Calls Tryd.prog 16 #[.slice A xs.length c] w fun e w' => ∃ v, e = .returned v ∧ w'.ownsRow w.heap.size 3 1 v (runsL xs).length ((runsL xs).map runN) ∧ Below w.heap.size w w' := by
  obtain ⟨i0, hi, hz0, hz1, hz2⟩ := info_parts info3
  refine (callsIn_wide (n := 3)).1 ?_
  refine callsIn_of_wp_marks Tryd.func16 rfl trivial ?_ rfl
  simp only [Tryd.ntmps16, List.size_toArray, List.length_cons, List.length_nil, Nat.reduceAdd, Nat.reduceSub, Array.replicate_succ, Array.replicate_zero, List.push_toArray, List.append_toArray, List.nil_append, List.cons_append]
  have hruns := fun w : World => runs_any _ A xs.length c w rfl
  gi_wp2_with fail
  refine ⟨trivial, (callsIn_wide.2 (hruns _)).mono ?_⟩
  rintro e W1 ⟨rfl, rfl⟩
  clear hruns
  gi_wp2_with fail
  have bO := Boxed.new w 32 (.slice none 0 0)
  have bN := Boxed.new (w.alloc (.cells #[.slice none 0 0] 32)) 23 (.slice A xs.length c)
  rw [World.size_alloc] at bN
  have hB0 : Below w.heap.size w ((w.alloc (.cells #[.slice none 0 0] 32)).alloc (.cells #[.slice A xs.length c] 23)) := ((Below.refl _ w).alloc (Nat.le_refl _) _).alloc (by simp) _
  have hseq := runs_seq w.heap.size (w.heap.size + 1) A c xs _ (Nat.le_succ _) bN hc (Kd.F_below hF hB0) 2 (by omega)
  have hfin : (runsL xs).length ≤ xs.length := runsL_len xs
  refine wpIn_rangeFunc_cell rfl (by omega) (gf := 83) (lb := #[.pointer (some ⟨w.heap.size + 1, 0, none⟩)]) rfl trivial (enters_of Tryd.func83 (by kernel_rfl) rfl) hseq (by simp; omega) (by simp) (fun _ => rfl)
    (CollI w w.heap.size (w.heap.size + 1)) (CollI.own _ _ _ _ (by simp; omega)) (fun pre W u h => CollI.set (by omega) (by omega) pre W u h)
    ⟨⟨_, bO.alloc _, World.ownsRow_nil _ _ _ _, trivial⟩, ⟨_, bN⟩, hB0⟩
    (fun x => { tmps := #[.slice A xs.length c, undef, .slice none 0 0, .pointer (some ⟨w.heap.size, 0, none⟩), undef, .int .i64 (x.2 : Int), .slice A xs.length c, .func (.func 83) #[] #[.pointer (some ⟨w.heap.size + 1, 0, none⟩)], ctlV x.1, .int .i64 (x.2 : Int), undef, undef, undef, undef, undef], defers := [] }) ?assign ?body ?done
  case assign =>
    intro l x W K hK
    unfold runEnc
    gi_wp2_with fail
    exact hK
  case body =>
    rintro l pre x rest W hxs ⟨⟨v, hv, hrow, _⟩, ⟨u, hu⟩, hB⟩
    have hc := hv.cell
    have hpl : pre.length + 1 ≤ (runsL xs).length := by rw [hxs]; simp
    unfold ctlV
    gi_wp2_with (gi_at_builtin; refine wpListIn_append_own _ rfl _ _ 32 rfl w.heap.size 3 i0 (.int .i64 0) 1 8 Tryd.underlying32 hi hz0 hz1 hz2 rfl (by decide) _ _ _ rfl (hrow.alloc _) ⟨W.heap.size, 0, none⟩ 1 1 [.int .i64 (x.2 : Int)] rfl rfl (cell_one_new _ _ _) (by simp [Value.oneCell']) (by unfold maxLen; omega) (by omega) (by have := hB.size; simp; omega) ?_; intro v' w1 hown' hgrow _; obtain ⟨g', cap', rfl⟩ := ownsRow_succ hown'; obtain ⟨hv1, hv2, hr2, hk2, hb2⟩ := hv.appended (by decide) hrow hB.size (Nat.le_refl _) hown' hgrow; have hc1 := hv1.cell; have hf1 := hv1.frozen; have hu1 := ((hu.alloc _).kept hgrow (hu.not_row (by decide) hrow)).other (B' := w.heap.size) (by omega) (.slice (some ⟨g', 0, none⟩) (pre.length + 1) cap'))
    refine ⟨hk2.from _, ⟨hb2, hu1.trans hu.symm⟩, ⟨_, hv2, ?_, trivial⟩, ⟨_, hu1⟩, hB.trans hb2⟩
    simpa [runN] using hr2
  case done =>
    rintro D W hD ⟨⟨v, hv, hrow, _⟩, _, hB⟩ hK
    have hc := hv.cell
    gi_wp2
    refine ⟨by simp, .inl ⟨_, _, rfl, run_takeDeferred hK, ?_⟩⟩
    exact ⟨_, results_tmp rfl _ _ _, v, rfl, ownsRow_putObj hrow _ hK rfl, hB.trans (belowK_b (w := w) (Nat.le_refl _) W D _ _ (by simp at hD; omega) hK rfl rfl)⟩
end Go.Proofs.YtbhbpopebmdemaaDoor

namespace Go.Proofs.YtbhbpopebmdemaaDoor
open Go.RowKit Go.Proofs.YtbhbpopebmdemaaDoorW.PrintWords Go.Proofs.YtbhbpopebmdemaaDoorW.PrintLast Go.Proofs.YtbhbpopebmdemaaDoorW.PrintMore
open ChiPure Go.Lib Go.Shelf
set_option linter.unusedVariables false
set_option linter.unusedSimpArgs false

theorem info5 : (Tryd.prog.info? 5).map (fun i => (i.zero, i.size, i.bytes)) = some (some (.int .u8 0), 1, 1) := by kernel_rfl
theorem size63 : (Tryd.prog.info? 63).map (fun i => i.size) = some 2 := by kernel_rfl
theorem lies63 : liesAt Tryd.prog Tryd.prog.depth 63 (2 / Tryd.prog.cellsOf 63) 0 63 1 = true := by kernel_rfl

/-- a builder holds the bytes l (block b; its row from B on). -/
def Bld (B b : Nat) (l : List UInt8) (w : World) : Prop := Lib.IsBuilder 63 5 B b (Lib.byteCells l) w

set_option maxHeartbeats 1000000 in
set_option maxRecDepth 100000 in
theorem cc_used (b : Nat) (w : World) (h0 : w.cell? ⟨b, 0, none⟩ = some (.pointer (some ⟨b, 0, none⟩))) :
    Calls Tryd.prog 82 #[.pointer (some ⟨b, 0, none⟩)] w fun e w' => e = .returned (.tuple #[]) ∧ w' = w := by
  obtain ⟨j, hj, hjs⟩ := Option.map_eq_some_iff.1 size63
  have hneq := Lib.run_neq_ptr_same (P := Tryd.prog) (tp := 60) w ⟨b, 0, none⟩ Tryd.underlying60 hj
  go_enter Tryd.func82, Tryd.ntmps82
  go_wp2
  go_end0
  exact ⟨rfl, rfl⟩

set_option maxHeartbeats 1000000 in
set_option maxRecDepth 100000 in
theorem cc_fresh (b : Nat) (w : World) (h0 : w.cell? ⟨b, 0, none⟩ = some (.pointer none)) (hsh : w.shape? b = some (63, 2)) (hfz : w.frozen? ⟨b, 0, none⟩ = false) :
    Calls Tryd.prog 82 #[.pointer (some ⟨b, 0, none⟩)] w fun e w' => e = .returned (.tuple #[]) ∧ w' = w.setCell ⟨b, 0, none⟩ (.pointer (some ⟨b, 0, none⟩)) := by
  obtain ⟨j, hj, hjs⟩ := Option.map_eq_some_iff.1 size63
  have h1 := Lib.run_to_unsafe (P := Tryd.prog) w ⟨b, 0, none⟩ Tryd.underlying60 Tryd.underlying153 hj (by rw [hjs]; decide) hsh (Nat.zero_lt_succ 1)
  have h2 := Lib.run_from_unsafe (P := Tryd.prog) w ⟨b, 0, none⟩ Tryd.underlying153 Tryd.underlying60 hj hsh lies63
  go_enter Tryd.func82, Tryd.ntmps82
  go_wp2
  rw [run_callFunc_extern Tryd.func110 (by kernel_rfl) (by kernel_rfl) (by kernel_rfl) (e := Extern.AbiNoEscape.same) (by kernel_rfl)]
  rw [Lib.run_noEscape]
  simp only [Result.andThen]
  rw [Oper.upon_value]
  go_wp2
  go_end0
  exact ⟨rfl, rfl⟩

theorem cc_any (B b : Nat) (l : List UInt8) (w : World) (h : Bld B b l w) :
    Calls Tryd.prog 82 #[.pointer (some ⟨b, 0, none⟩)] w fun e w' => e = .returned (.tuple #[]) ∧ (Lib.BuilderAt 63 5 B b (.pointer (some ⟨b, 0, none⟩)) (Lib.byteCells l) w' ∧ Below B w w' ∧ Lib.OthersKept 5 (some b) w w') := by
  rcases h with h | h
  · refine (cc_fresh b w h.cell0 h.shape h.frozen0).mono ?_
    rintro e w' ⟨rfl, rfl⟩
    exact ⟨rfl, h.used _, (Below.refl B w).setCell (p := ⟨b, 0, none⟩) h.1 _, (Lib.OthersKept.refl 5 (some b) w).setCell ⟨b, 0, none⟩ rfl _⟩
  · refine (cc_used b w h.cell0).mono ?_
    rintro e w' ⟨rfl, rfl⟩
    exact ⟨rfl, h, Below.refl B _, Lib.OthersKept.refl 5 (some b) _⟩

theorem byteCells_app (l : List UInt8) (s : ByteArray) : Lib.byteCells l ++ Lib.strCells s = Lib.byteCells (l ++ s.data.toList) := by
  simp [Lib.byteCells, Lib.strCells]

theorem own_kind {w : World} {base : Nat} {e : TypeId} {size : Nat} {v : Value} {n : Nat} {xs : List Value} (h : w.ownsRow base e size v n xs) : ∀ g, v.ownBlock = some g → ∃ c fz, w.heap[g]? = some (.cells c e fz) := by
  intro g hg
  rcases h.2 with ⟨rfl, _⟩ | ⟨g', cap, cur, rfl, _, hgb, _⟩
  · simp [Value.ownBlock] at hg
  · obtain rfl : g' = g := by simpa [Value.ownBlock] using hg
    exact ⟨_, _, hgb⟩

set_option maxHeartbeats 2000000 in
set_option maxRecDepth 100000 in
theorem ws_any (B b : Nat) (l : List UInt8) (s : ByteArray) (w : World) (h : Bld B b l w) (hlen : l.length + s.size ≤ 140737488355328) (hBw : B ≤ w.heap.size) :
    Calls Tryd.prog 45 #[.pointer (some ⟨b, 0, none⟩), .string s] w fun e w' => e = .returned (.tuple #[.int .i64 s.size, .nilIface]) ∧ (Bld B b (l ++ s.data.toList) w' ∧ Below B w w' ∧ Lib.OthersKept 5 (some b) w w') := by
  obtain ⟨i0, hi, hz0, hz1, hz2⟩ := info_parts info5
  have hcc := cc_any B b l w h
  clear h
  go_enter Tryd.func45, Tryd.ntmps45
  go_wp2_with (go_at_call 82; refine hcc.mono ?_)
  rintro e w1 ⟨rfl, h1, hb1, hk1⟩
  clear hcc
  obtain ⟨hB, v, hbk, hown, hne⟩ := h1
  rw [Lib.byteCells_length] at hown
  have c0 : w1.cell? ⟨b, 0, none⟩ = some (.pointer (some ⟨b, 0, none⟩)) := by rw [Lib.cell_of_heap hbk]; rfl
  have c1 : w1.cell? ⟨b, 1, none⟩ = some v := by rw [Lib.cell_of_heap hbk]; rfl
  go_wp2_with (at_builtin; refine Lib.wpList_append_own_string _ rfl _ _ 61 9 rfl B 5 i0 Tryd.underlying61 Tryd.underlying9 hi hz0 hz1 hz2 _ _ _ rfl hown s rfl ?c3 ?c4 ?c5 ?_)
  case c3 => unfold maxLen; omega
  case c4 => omega
  case c5 => have := hb1.size; omega
  intro v' w2 hown' hgrow _
  have hlt : b < w1.heap.size := (Array.getElem?_eq_some_iff.1 hbk).1
  have hb2 : w2.heap[b]? = some (.cells #[.pointer (some ⟨b, 0, none⟩), v] 63 (0, 0)) := by
    rw [hgrow.block b hlt (fun e => hne e.symm)]
    exact hbk
  have d0 : w2.cell? ⟨b, 0, none⟩ = some (.pointer (some ⟨b, 0, none⟩)) := by rw [Lib.cell_of_heap hb2]; rfl
  have d1 : w2.cell? ⟨b, 1, none⟩ = some v := by rw [Lib.cell_of_heap hb2]; rfl
  have f1 : w2.frozen? ⟨b, 1, none⟩ = false := Lib.frozen_of_heap hb2 1
  obtain ⟨ao, n', cap, rfl⟩ : ∃ ao n' cap, v' = .slice ao n' cap := by
    rcases hown'.2 with ⟨hv, _⟩ | ⟨g, cap, cur, hv, _⟩
    · exact ⟨_, _, _, hv⟩
    · exact ⟨_, _, _, hv⟩
  go_wp2
  go_ret2
  refine ⟨rfl, .inr ?_, ?_, (hk1.grown hgrow (own_kind hown)).setCell ⟨b, 1, none⟩ rfl _⟩
  · exact Lib.BuilderAt.put (T := 63) (e := 5) hB hb2 (bs' := Lib.byteCells (l ++ s.data.toList)) (by rw [← byteCells_app]; simpa [Lib.strCells_length, Lib.byteCells_length] using hown') (by decide)
  · exact (hb1.grown hgrow (by have := hb1.size; omega) (fun k hk => (hown.lt k hk).1)).setCell (p := ⟨b, 1, none⟩) hB _
end Go.Proofs.YtbhbpopebmdemaaDoor

namespace Go.Proofs.YtbhbpopebmdemaaDoor
open Go.RowKit Go.Proofs.YtbhbpopebmdemaaDoorW.PrintWords Go.Proofs.YtbhbpopebmdemaaDoorW.PrintLast Go.Proofs.YtbhbpopebmdemaaDoorW.PrintMore
open ChiPure Go.Lib Go.Shelf
set_option linter.unusedVariables false
set_option linter.unusedSimpArgs false

/-- decimal digits ahead of acc. -/
def dec (least : Nat) : Nat → Nat → List Int → List Int
  | 0, _, acc => acc
  | f + 1, u, acc => if 0 < u ∨ acc.length < least then dec least f (u / 10) (((48 + u % 10 : Nat) : Int) :: acc) else acc

theorem dec_drop {cur : List Value} {q1 : Nat} {acc : List Int} {x : Int} (hl : cur.length = 20) (hq : q1 < 20) (h : cur.drop (q1 + 1) = nums .u8 acc) : (cur.set q1 (.int .u8 x)).drop q1 = nums .u8 (x :: acc) := by
  rw [List.drop_eq_getElem_cons (by simp [hl]; exact hq)]
  simp only [List.getElem_set_self]
  rw [List.drop_set_of_lt (by omega), h]
  rfl

theorem und155 : Tryd.prog.underlying 155 = some (.array (Tryd.prog.arrayLen 155) (Tryd.prog.elem 155)) := by kernel_rfl
theorem len155 : Tryd.prog.arrayLen 155 = 20 := by kernel_rfl
theorem elem155 : Tryd.prog.elem 155 = 5 := by kernel_rfl
theorem info5b : (Tryd.prog.info? 5).map (fun i => (i.zero, i.size, i.bytes)) = some (some (.int .u8 0), 1, 1) := by kernel_rfl
theorem slice155 (H q : Nat) (hq : q < 20) (w : World) : (Instr.sliceAt 155 (.pointer (some ⟨H, 0, none⟩)) (some (.int .i64 (q : Int))) none none).run Tryd.prog w = .ok (.slice (some ⟨H, q, none⟩) (20 - q) (20 - q)) w := by
  obtain ⟨i0, hi, _, hz1, _⟩ := info_parts info5b
  rw [run_sliceAt_array_l w 155 ⟨H, 0, none⟩ und155 .i64 (q : Int) (by omega) (by rw [len155]; omega), len155, elem155]
  have hne : ¬ (20 = q) := by omega
  have e : (⟨H, 0, none⟩ : Addr).add (q * 1) = ⟨H, q, none⟩ := by
    rw [Nat.mul_one]
    unfold Addr.add
    split
    · rename_i h0; subst h0; rfl
    · simp
  rw [Nat.mul_one] at e
  simp [sizeOf, typeInfo, hi, hz1, slicedAt, Result.andThen, hne, e]
theorem dec_reads {w : World} {H q : Nat} {cur : List Value} {acc : List Int} (hb : w.heap[H]? = some (.cells cur.toArray 155 (0, 0))) (hd : cur.drop q = nums .u8 acc) (hq : q + acc.length = 20) : ReadsInt w .u8 (some ⟨H, q, none⟩) (20 - q) acc := by
  refine ⟨by omega, by omega, fun hp => ⟨_, rfl, fun j hj => ?_⟩⟩
  have h1 : cur[q + j]? = some (.int .u8 (acc.getD j 0)) := by
    rw [← List.getElem?_drop, hd]
    have : j < acc.length := by omega
    simp [nums, List.getD_eq_getElem?_getD, List.getElem?_eq_getElem this]
  have e : (⟨H, q, none⟩ : Addr).add j = ⟨H, q + j, none⟩ := by
    unfold Addr.add
    split
    · rename_i h0; subst h0; rfl
    · rfl
  rw [e]
  simp only [World.cell?, hb]
  simpa using h1

def DecRel (least : Nat) (R : List Int) (w : World) (kq : Nat) (v0 v6 : Value) (wr : World) : Prop :=
  ∃ (u q : Nat) (acc : List Int) (cur : List Value), v0 = .int .u64 (u : Int) ∧ v6 = .int .i64 (q : Int) ∧ q + acc.length = 20 ∧ u < 10 ^ q ∧ u < 18446744073709551616 ∧ kq = q + 1 ∧ dec least kq u acc = R ∧
    wr.heap[w.heap.size]? = some (.cells cur.toArray 155 (0, 0)) ∧ cur.length = 20 ∧ cur.drop q = nums .u8 acc ∧ Below w.heap.size w wr

set_option maxRecDepth 100000 in
set_option maxHeartbeats 2000000 in
theorem digits_any (u0 least : Nat) (w : World) (hu : u0 < 18446744073709551616) (h1 : 1 ≤ least) (h2 : least ≤ 20) :
    Calls Tryd.prog 86 #[.int .u64 (u0 : Int), .int .i64 (least : Int)] w fun e w' => e = .returned (.string (strOfNums (dec least 21 u0 []))) ∧ Below w.heap.size w w' := by
  generalize hR : dec least 21 u0 [] = R
  have HR := Lib.hid hR
  clear hR
  go_enter Tryd.func86, Tryd.ntmps86
  go_wp2_with fail
  go_loopg [0, 6] 21 (fun kq v0 v6 wr => Hid (DecRel least R w kq v0 v6 wr))
  case atStart =>
    refine ⟨u0, 20, [], List.replicate 20 (.int .u8 0), rfl, rfl, rfl, by omega, hu, rfl, HR.out, ?_, by simp, by simp [nums], ?_⟩
    · exact blk_new _ _
    · exact (Below.refl _ _).alloc (Nat.le_refl _) _
  case round =>
    have hrel' := hrel.out
    clear hrel
    obtain ⟨u, q, acc, cur, rfl, rfl, hq, hu1, hu2, rfl, hd, hb, hcl, hcd, hbw⟩ := hrel'
    unfold dec at hd
    have hfz : ∀ j, wr.frozen? ⟨w.heap.size, j, none⟩ = false := fun j => blk_frozen hb j
    by_cases hc : 0 < u ∨ acc.length < least
    · rw [if_pos hc] at hd
      obtain ⟨q1, rfl⟩ : ∃ q1, q = q1 + 1 := by
        refine ⟨q - 1, ?_⟩
        rcases Nat.eq_zero_or_pos q with h0 | h0
        · subst h0
          simp at hu1
          omega
        · omega
      have hcell : ∃ v, wr.cell? ⟨w.heap.size, q1, none⟩ = some v := by
        have hlt : q1 < cur.length := by omega
        exact ⟨cur[q1], by simp [World.cell?, hb, hlt]⟩
      obtain ⟨v, hv⟩ := hcell
      have hf1 := hfz q1
      rcases Nat.eq_zero_or_pos u with h0 | h0
      · have hl : decide ((20 : Int) - ((q1 + 1 : Nat) : Int) < (least : Int)) = true := by simp; omega
        subst h0
        go_wp2_with fail
        go_roundg (q1 + 1)
        case rel => exact ⟨0, q1, 48 :: acc, cur.set q1 (.int .u8 48), rfl, rfl, by simp; omega, Nat.pow_pos (by omega), by omega, rfl, hd, by rw [blk_set hb]; simp, by simp [hcl], dec_drop hcl (by omega) hcd, hbw.setCell (p := ⟨w.heap.size, q1, none⟩) (Nat.le_refl _) _⟩
        case measure => omega
      · have hl : decide ((0 : Int) < (u : Int)) = true := by simp; omega
        go_wp2_with fail
        go_roundg (q1 + 1)
        case rel =>
          refine ⟨u / 10, q1, ((48 + u % 10 : Nat) : Int) :: acc, cur.set q1 (.int .u8 (48 + (u : Int) % 10)), by simp, rfl, by simp; omega, ?_, by omega, rfl, hd, by rw [blk_set hb]; simp, by simp [hcl], ?_, hbw.setCell (p := ⟨w.heap.size, q1, none⟩) (Nat.le_refl _) _⟩
          · rw [Nat.pow_succ] at hu1; omega
          · rw [show (48 + (u : Int) % 10) = ((48 + u % 10 : Nat) : Int) from by simp]
            exact dec_drop hcl (by omega) hcd
        case measure => omega
    · rw [if_neg hc] at hd
      obtain rfl : u = 0 := by omega
      have hl : decide ((20 : Int) - (q : Int) < (least : Int)) = false := by simp; omega
      have hsl := slice155 w.heap.size q (by omega) wr
      have hcv := string_of_reads (P := Tryd.prog) (src := 61) (dst := 9) (c := 20 - q) Tryd.underlying61 Tryd.underlying5 Tryd.underlying9 (dec_reads hb hcd hq)
      go_wp2_with fail
      go_ret
      exact ⟨by rw [← hd]; rfl, hbw⟩
end Go.Proofs.YtbhbpopebmdemaaDoor

namespace Go.Proofs.YtbhbpopebmdemaaDoor
open Go.RowKit Go.Proofs.YtbhbpopebmdemaaDoorW.PrintWords Go.Proofs.YtbhbpopebmdemaaDoorW.PrintLast Go.Proofs.YtbhbpopebmdemaaDoorW.PrintMore
open ChiPure Go.Lib Go.Shelf
set_option linter.unusedVariables false
set_option linter.unusedSimpArgs false

def signS (n : Int) : ByteArray := if n < 0 then ⟨#[45]⟩ else ⟨#[]⟩
/-- a whole number's text. -/
def wholeS (n : Int) : ByteArray := signS n ++ strOfNums (dec 1 21 n.natAbs [])

theorem dec_len (least : Nat) : ∀ (f u : Nat) (acc : List Int), (dec least f u acc).length ≤ f + acc.length
  | 0, u, acc => by simp [dec]
  | f + 1, u, acc => by
    unfold dec
    split
    · have := dec_len least f (u / 10) (((48 + u % 10 : Nat) : Int) :: acc)
      rw [List.length_cons] at this; omega
    · omega
theorem strOfNums_size (l : List Int) : (strOfNums l).size = l.length := by simp [strOfNums, ByteArray.size]

set_option maxRecDepth 100000 in
set_option maxHeartbeats 1000000 in
theorem whole_any (n : Int) (w : World) (h1 : -9223372036854775808 ≤ n) (h2 : n ≤ 9223372036854775807) :
    Calls Tryd.prog 47 #[.int .i64 n] w fun e w' => e = .returned (.string (wholeS n)) ∧ Below w.heap.size w w' := by
  have hsz : PA.words_size.f n = some ((n.natAbs : Int), signS n) := by
    unfold PA.words_size.f signS
    by_cases h : n < 0
    · rw [if_pos h, if_pos h]
      congr 2
      simp only [IntKind.wrap]
      simp [IntKind.bits, show IntKind.u64.signed = false from rfl]
      omega
    · rw [if_neg h, if_neg h]
      congr 2
      simp only [IntKind.wrap]
      simp [IntKind.bits, show IntKind.u64.signed = false from rfl]
      omega
  have hs := PA.words_size.calls n _ _ w hsz
  have hlen : (strOfNums (dec 1 21 n.natAbs [])).size ≤ 21 := by
    have := dec_len 1 21 n.natAbs []
    rw [strOfNums_size]; simpa using this
  have hsg : (signS n).size ≤ 1 := by unfold signS; split <;> decide
  have hadd : (signS n).size + (strOfNums (dec 1 21 n.natAbs [])).size ≤ 9223372036854775807 := by omega
  have hw : wholeS n = signS n ++ strOfNums (dec 1 21 n.natAbs []) := rfl
  have HW := Lib.hid hw
  clear hw hsz
  go_enter Tryd.func47, Tryd.ntmps47
  go_wp2_with fail
  refine hs.mono ?_
  rintro e w1 ⟨rfl, hd1⟩
  have hb1 := hd1.below
  clear hs
  go_wp2_with fail
  have hdg := digits_any n.natAbs 1 w1 (by omega) (by omega) (by omega)
  refine hdg.mono ?_
  rintro e w2 ⟨rfl, hb2⟩
  clear hdg
  go_wp2_with fail
  go_ret
  exact ⟨by rw [HW.out]; rfl, hb1.trans (hb2.mono hb1.size)⟩
end Go.Proofs.YtbhbpopebmdemaaDoor

namespace Go.Proofs.YtbhbpopebmdemaaDoor
open Go.RowKit Go.Proofs.YtbhbpopebmdemaaDoorW.PrintWords Go.Proofs.YtbhbpopebmdemaaDoorW.PrintLast Go.Proofs.YtbhbpopebmdemaaDoorW.PrintMore
open ChiPure Go.Lib Go.Shelf
set_option linter.unusedVariables false
set_option linter.unusedSimpArgs false


theorem within_any (a lo hi : Int) (r : Bool) (w : World) (hr : decide (lo ≤ a ∧ a ≤ hi) = r) :
    Calls Tryd.prog 81 #[.int .i64 a, .int .i64 lo, .int .i64 hi] w fun e w' => e = .returned (.bool r) ∧ w' = w := by
  by_cases h1 : lo ≤ a
  · have h1b : decide (lo ≤ a) = true := decide_eq_true h1
    have h2 : decide (a ≤ hi) = r := by rw [← hr]; simp [h1]
    clear hr h1
    go_enter Tryd.func81, Tryd.ntmps81
    go_wp2
    go_ret
    exact ⟨by rw [← h2]; rfl, rfl⟩
  · have h1b : decide (lo ≤ a) = false := decide_eq_false h1
    obtain rfl : r = false := by rw [← hr]; simp [h1]
    clear hr h1
    go_enter Tryd.func81, Tryd.ntmps81
    go_wp2
    go_ret
    exact ⟨rfl, rfl⟩

/-- a control that may be. -/
def okC (x : Ctl) : Bool := decide (0 ≤ x.f0 ∧ x.f0 ≤ 255) && (decide (0 ≤ x.f1 ∧ x.f1 ≤ 255) && (decide (0 ≤ x.f2 ∧ x.f2 ≤ 255) && (decide (-127 ≤ x.f3 ∧ x.f3 ≤ 127) && decide (-1 ≤ x.f4 ∧ x.f4 ≤ 8))))
def min3 (a b c : Int) : Int := if c < (if b < a then b else a) then c else (if b < a then b else a)
def max3 (a b c : Int) : Int := if (if a < b then b else a) < c then c else (if a < b then b else a)
theorem min3_run (a b c : Int) (W : World) : (Builtin.min_ #[3, 3, 3] 3 #[.int .i64 a, .int .i64 b, .int .i64 c]).run Tryd.prog W = .ok (.int .i64 (min3 a b c)) W := by
  simp [min_three, min2_int, min3, Sem.run_bind, Result.andThen]
theorem max3_run (a b c : Int) (W : World) : (Builtin.max_ #[3, 3, 3] 3 #[.int .i64 a, .int .i64 b, .int .i64 c]).run Tryd.prog W = .ok (.int .i64 (max3 a b c)) W := by
  simp [max_three, max2_int, max3, Sem.run_bind, Result.andThen]
theorem okC_parts (x : Ctl) : okC x = (decide (0 ≤ min3 x.f0 x.f1 x.f2 ∧ min3 x.f0 x.f1 x.f2 ≤ 255) && (!(decide (255 < max3 x.f0 x.f1 x.f2)) && (decide (-127 ≤ x.f3 ∧ x.f3 ≤ 127) && decide (-1 ≤ x.f4 ∧ x.f4 ≤ 8)))) := by
  rw [Bool.eq_iff_iff]
  simp only [okC, Bool.and_eq_true, decide_eq_true_eq, Bool.not_eq_true', decide_eq_false_iff_not]
  unfold min3 max3
  constructor
  · intro h
    refine ⟨?_, ?_, h.2.2.2.1, h.2.2.2.2⟩ <;> (repeat' split) <;> omega
  · rintro ⟨h1, h2, h3, h4⟩
    refine ⟨?_, ?_, ?_, h3, h4⟩ <;> (repeat' split at h1) <;> (repeat' split at h2) <;> omega

set_option maxRecDepth 100000 in
set_option maxHeartbeats 1000000 in
theorem right_any (x : Ctl) (w : World) :
    Calls Tryd.prog 44 #[ctlV x] w fun e w' => e = .returned (.int .i64 (if okC x then 0 else 40)) ∧ w.grownBy w' none := by
  have hu35 := Tryd.underlying35
  have hcell := CtlAt.of_block (World.alloc_heap_new w (.cells #[.int .i64 x.f0, .int .i64 x.f1, .int .i64 x.f2, .int .i64 x.f3, .int .i64 x.f4, .bool x.f5, .bool x.f6] 35))
  obtain ⟨c0, c1, c2, c3, c4, c5, c6⟩ := hcell
  rw [okC_parts]
  unfold ctlV
  have hg := World.grownBy_alloc w (.cells #[.int .i64 x.f0, .int .i64 x.f1, .int .i64 x.f2, .int .i64 x.f3, .int .i64 x.f4, .bool x.f5, .bool x.f6] 35) none
  have hmin := min3_run x.f0 x.f1 x.f2
  have hmax := max3_run x.f0 x.f1 x.f2
  generalize min3 x.f0 x.f1 x.f2 = mn at *
  generalize max3 x.f0 x.f1 x.f2 = mx at *
  have w1 := within_any mn 0 255 _ (w.alloc (.cells #[.int .i64 x.f0, .int .i64 x.f1, .int .i64 x.f2, .int .i64 x.f3, .int .i64 x.f4, .bool x.f5, .bool x.f6] 35)) rfl
  have w2 := within_any x.f3 (-127) 127 _ (w.alloc (.cells #[.int .i64 x.f0, .int .i64 x.f1, .int .i64 x.f2, .int .i64 x.f3, .int .i64 x.f4, .bool x.f5, .bool x.f6] 35)) rfl
  have w3 := within_any x.f4 (-1) 8 _ (w.alloc (.cells #[.int .i64 x.f0, .int .i64 x.f1, .int .i64 x.f2, .int .i64 x.f3, .int .i64 x.f4, .bool x.f5, .bool x.f6] 35)) rfl
  generalize decide (0 ≤ mn ∧ mn ≤ 255) = b1 at *
  generalize hb2 : decide (255 < mx) = b2 at *
  generalize decide (-127 ≤ x.f3 ∧ x.f3 ≤ 127) = b3 at *
  generalize decide (-1 ≤ x.f4 ∧ x.f4 ≤ 8) = b4 at *
  go_enter Tryd.func44, Tryd.ntmps44
  go_wp2_with fail
  refine w1.mono ?_
  rintro e W1 ⟨rfl, rfl⟩
  clear w1 hmin
  cases b1 with
  | false =>
    go_wp2_with fail
    go_ret
    exact ⟨rfl, hg⟩
  | true =>
    cases b2 with
    | true =>
      have HB := Lib.hid hb2
      go_wp2_with fail
      go_ret
      exact ⟨rfl, hg⟩
    | false =>
      go_wp2_with fail
      refine w2.mono ?_
      rintro e W1 ⟨rfl, rfl⟩
      clear w2 hmax
      cases b3 with
      | false =>
        go_wp2_with fail
        go_ret
        exact ⟨rfl, hg⟩
      | true =>
        go_wp2_with fail
        refine w3.mono ?_
        rintro e W1 ⟨rfl, rfl⟩
        clear w3
        cases b4 with
        | false =>
          go_wp2_with fail
          go_ret
          exact ⟨rfl, hg⟩
        | true =>
          go_wp2_with fail
          go_ret
          exact ⟨rfl, hg⟩
end Go.Proofs.YtbhbpopebmdemaaDoor

namespace Go.Proofs.YtbhbpopebmdemaaDoor
open Go.RowKit Go.Proofs.YtbhbpopebmdemaaDoorW.PrintWords Go.Proofs.YtbhbpopebmdemaaDoorW.PrintLast Go.Proofs.YtbhbpopebmdemaaDoorW.PrintMore
open ChiPure Go.Lib Go.Shelf
set_option linter.unusedVariables false
set_option linter.unusedSimpArgs false

theorem cl43 (x : Ctl) (w : World) :
    Calls Tryd.prog 43 #[ctlV x] w fun e w' => e = .returned (.bool (!okC x)) ∧ w.grownBy w' none := by
  have hu35 := Tryd.underlying35
  have hcell := CtlAt.of_block (World.alloc_heap_new w (.cells #[.int .i64 x.f0, .int .i64 x.f1, .int .i64 x.f2, .int .i64 x.f3, .int .i64 x.f4, .bool x.f5, .bool x.f6] 35))
  obtain ⟨c0, c1, c2, c3, c4, c5, c6⟩ := hcell
  have hg := World.grownBy_alloc w (.cells #[.int .i64 x.f0, .int .i64 x.f1, .int .i64 x.f2, .int .i64 x.f3, .int .i64 x.f4, .bool x.f5, .bool x.f6] 35) none
  have hr := right_any x (w.alloc (.cells #[.int .i64 x.f0, .int .i64 x.f1, .int .i64 x.f2, .int .i64 x.f3, .int .i64 x.f4, .bool x.f5, .bool x.f6] 35))
  unfold ctlV at hr ⊢
  generalize okC x = B at hr ⊢
  go_enter Tryd.func43, Tryd.ntmps43
  go_wp2_with fail
  refine hr.mono ?_
  rintro e w1 ⟨rfl, hg1⟩
  clear hr
  have hg2 := hg.trans hg1
  cases B with
  | true =>
    rw [if_pos rfl]
    go_wp2_with fail
    go_ret
    exact ⟨rfl, hg2⟩
  | false =>
    rw [if_neg (by decide)]
    go_wp2_with fail
    go_ret
    exact ⟨rfl, hg2⟩

/-- the first place of one that may not be. -/
def idxBad : List Ctl → Nat → Int
  | [], _ => -1
  | x :: xs, i => if okC x then idxBad xs (i + 1) else i

theorem idxBad_drop (xs : List Ctl) (i : Nat) (h : i < xs.length) (k : Nat) : idxBad (xs.drop i) k = if okC (PA.rd_T35 xs (i : Int)) then idxBad (xs.drop (i + 1)) (k + 1) else k := by
  rw [List.drop_eq_getElem_cons h]
  unfold PA.rd_T35
  rw [Int.toNat_natCast, List.getD_eq_getElem?_getD, List.getElem?_eq_getElem h]
  rfl
theorem idxBad_all : ∀ (xs : List Ctl) (k : Nat), decide (0 ≤ idxBad xs k) = !(xs.all okC)
  | [], k => by simp [idxBad]
  | x :: xs, k => by
    unfold idxBad
    by_cases h : okC x = true
    · rw [if_pos h, idxBad_all xs (k + 1)]; simp [h]
    · rw [if_neg h]; simp [h]

def BadRel (xs : List Ctl) (R : Int) (w : World) (kq : Nat) (v8 : Value) (wr : World) : Prop :=
  ∃ i : Nat, i + kq = xs.length ∧ v8 = .int .i64 i ∧ idxBad (xs.drop i) i = R ∧ w.grownBy wr none

set_option maxRecDepth 100000 in
set_option maxHeartbeats 1000000 in
theorem bad_any (A : Option Addr) (c : Nat) (xs : List Ctl) (w : World) (ok : Nat → Prop) (hF : Kd.F PA.k35 w ok A xs.length xs) (hc : xs.length ≤ c) :
    Calls Tryd.prog 80 #[.slice A xs.length c, .func (.func 43) #[] #[]] w fun e w' => e = .returned (.int .i64 (idxBad xs 0)) ∧ w.grownBy w' none := by
  have hmax := Kd.F_max hF
  have hu35 := Tryd.underlying35
  have HF := Lib.hid hF
  generalize hR : idxBad xs 0 = R
  have HR := Lib.hid hR
  clear hR hF
  go_enter Tryd.func80, Tryd.ntmps80
  go_wp2_with fail
  go_loopg [8] xs.length (fun kq v8 wr => Hid (BadRel xs R w kq v8 wr))
  case atStart => exact ⟨0, by omega, rfl, HR.out, World.grownBy.refl _ _⟩
  case round =>
    have hrel' := hrel.out
    clear hrel
    obtain ⟨i, hi, rfl, hd, hg⟩ := hrel'
    cases gk with
    | zero =>
      have hlt2 : decide ((i : Int) < (xs.length : Int)) = false := by simp; omega
      have hdd : R = -1 := by rw [← hd, List.drop_of_length_le (by omega)]; rfl
      clear hd
      go_wp2_with fail
      go_ret
      exact ⟨by rw [hdd]; rfl, hg⟩
    | succ k1 =>
      have hlt2 : decide ((i : Int) < (xs.length : Int)) = true := by simp; omega
      have hlt3 : decide ((0 : Int) ≤ (i : Int)) = true := by simp
      have hC : Kd.C PA.k35 wr A xs.length xs := HF.out wr (fun k _ hk => hg.block k hk (by simp))
      obtain ⟨ad, rfl, x0, x1, x2, x3, x4, x5, x6⟩ := PA.at_T35 hC i (by omega) (by omega)
      rw [Int.toNat_natCast] at x0 x1 x2 x3 x4 x5 x6
      rw [idxBad_drop xs i (by omega)] at hd
      have hcl := cl43 (PA.rd_T35 xs i) wr
      unfold ctlV at hcl
      clear hC
      go_wp2_with fail
      refine hcl.mono ?_
      rintro e w' ⟨rfl, hg2⟩
      clear hcl x0 x1 x2 x3 x4 x5 x6
      have hg3 : w.grownBy w' none := hg.trans hg2
      by_cases hq : okC (PA.rd_T35 xs (i : Int)) = true
      · rw [if_pos hq] at hd
        rw [hq]
        go_wp2_with fail
        go_roundg k1
        case rel => exact ⟨i + 1, by omega, by simp, hd, hg3⟩
        case measure => omega
      · rw [if_neg hq] at hd
        rw [Bool.eq_false_iff.mpr hq]
        go_wp2_with fail
        go_ret
        exact ⟨by rw [← hd]; rfl, hg3⟩

theorem contains_any (A : Option Addr) (c : Nat) (xs : List Ctl) (w : World) (ok : Nat → Prop) (hF : Kd.F PA.k35 w ok A xs.length xs) (hc : xs.length ≤ c) :
    Calls Tryd.prog 42 #[.slice A xs.length c, .func (.func 43) #[] #[]] w fun e w' => e = .returned (.bool (!(xs.all okC))) ∧ w.grownBy w' none := by
  have hbad := bad_any A c xs w ok hF hc
  have hall := idxBad_all xs 0
  generalize idxBad xs 0 = R at *
  generalize xs.all okC = B at *
  clear hF
  go_enter Tryd.func42, Tryd.ntmps42
  go_wp2_with fail
  refine hbad.mono ?_
  rintro e w1 ⟨rfl, hg⟩
  clear hbad
  go_wp2_with fail
  go_ret
  exact ⟨by rw [← hall]; rfl, hg⟩
end Go.Proofs.YtbhbpopebmdemaaDoor

namespace Go.Proofs.YtbhbpopebmdemaaDoor
open Go.RowKit
set_option linter.unusedVariables false
variable {F : Fence} {n : Nat} {P : Program}

/-- The same, where the assignments to the loop's left sides may lay blocks. -/
theorem wpIn_rangeFunc_cellH {α : Type} {g : Operand} {ps : Array Tmp} {assign body : Code} {Q : Exit → Act → World → Prop} {a : Act} {w : World}
    (hro : F.round = none) (h1 : 1 ≤ n) {gf : Nat} {lb : Array Value} (hg : a.eval g = .func (.func gf) #[] lb) (hFg : F.fn gf) (eg : ∀ args w, (callFunc gf args).run P w = .ok (.enter gf args) w)
    {encs : α → Array Value} {xs : List α} {n₀ C : Nat} (hseq : CellSeq F (n - 1) P gf lb encs xs n₀ C w) (hn₀ : n₀ ≤ w.heap.size) (hC : C < w.heap.size) (hps : ∀ x, (encs x).size = ps.size)
    (I : List α → World → Prop) (hI : OwnFrom w.heap.size I) (hIc : ∀ pre A v, I pre A → I pre (A.setCell ⟨C, 0, none⟩ v)) (h0 : I [] w) (Ax : α → Act → World → Prop) (hAx : ∀ x a', OwnFrom w.heap.size (fun (_ : Unit) W => Ax x a' W))
    (hassign : ∀ (l : Nat) (pre : List α) (x : α) (W : World) (K : Act → World → Prop), I pre W → (∀ a' W', KeepsFrom w.heap.size W W' → KpC n₀ C W W' → I pre W' → Ax x a' W' → K a' W') →
      assign.wpIn (F.inRound l) (n - 1 - 1) P (Exit.then K (fun _ _ _ => False)) { tmps := (ps.zip (encs x)).foldl (fun t (p, v) => t.setIfInBounds p v) a.tmps, defers := [] } W)
    (hbody : ∀ (l : Nat) (pre : List α) (x : α) (rest : List α) (a' : Act) (W : World), xs = pre ++ x :: rest → I pre W → Ax x a' W → body.wpIn (F.inRound l) (n - 1 - 1) P (cellPost w.heap.size n₀ C I (pre ++ [x]) W) a' W)
    (hdone : ∀ (D : Nat) (W : World), w.heap.size ≤ D → I xs W → W.heap[D]? = some (.deferred (some [])) → Q .normal { a with defers := { target := .collected D, args := #[] } :: a.defers } W) :
    (Code.rangeFunc g ps assign body).wpIn F n P Q a w := by
  refine wpIn_rangeFunc ?_
  intro fn hfn
  rw [hro]
  obtain ⟨mk, hmk⟩ : ∃ mk : LoopState → Option Code → Loop, mk = fun st pe => { state := st, pending := pe, fn, tmps := a.tmps, params := ps, assign, body, defers := w.heap.size } := ⟨_, rfl⟩
  obtain ⟨X, hX⟩ : ∃ X, (w.alloc (.deferred (some []))).alloc (.loop (mk .ready none)) = X := ⟨_, rfl⟩
  have hXl : X.heap[w.heap.size + 1]? = some (.loop (mk .ready none)) := by
    have := World.alloc_heap_new (w.alloc (.deferred (some []))) (.loop (mk .ready none))
    rw [World.size_alloc, hX] at this
    exact this
  have hXd : X.heap[w.heap.size]? = some (.deferred (some [])) := by
    rw [← hX]
    exact (Below.heap_alloc _ _ _ (by simp)).trans (World.alloc_heap_new w _)
  have hXI : I [] X := by
    rw [← hX]
    exact hI.alloc _ (hI.alloc _ h0)
  have hXb : Below w.heap.size w X := by
    rw [← hX]
    exact ((Below.refl _ w).alloc (Nat.le_refl _) _).alloc (by simp) _
  refine ⟨w.heap.size + 1, [{ target := .collected w.heap.size, args := #[] }], X, { target := .fn (.func gf) lb, args := #[.func (.yield (w.heap.size + 1)) #[] #[]] }, X, gf,
    #[.func (.yield (w.heap.size + 1)) #[] #[]] ++ lb, X, ?_, ?_, ?_, ?_, fun _ => h1, ?_⟩
  · rw [← hX, hmk]; exact run_enterLoop_outer _ _ _ _ _
  · simp only [resolve, hg]
    simp [go_sem]
  · intro f' hf'; simp [Target.leads] at hf'; subst hf'; exact hFg
  · simp [invoke, go_sem, eg]
  · refine (hseq (w.heap.size + 1) (fun pre W => I pre W ∧ W.heap[w.heap.size + 1]? = some (.loop (mk .ready none)) ∧ W.heap[w.heap.size]? = some (.deferred (some []))) X hXb ?_ ?_ ?_ ⟨hXI, hXl, hXd⟩).mono ?_
    · rintro pre A A' ⟨hi, hl, hd⟩ hg'
      exact ⟨hI pre A A' none hi hg' (fun r e => by cases e), (hg'.block _ (Array.getElem?_eq_some_iff.1 hl).1 (by simp)).trans hl, (hg'.block _ (Array.getElem?_eq_some_iff.1 hd).1 (by simp)).trans hd⟩
    · rintro pre A v ⟨hi, hl, hd⟩
      exact ⟨hIc pre A v hi, (Below.heap_setCell _ _ _ _ (by show _ ≠ C; omega)).trans hl, (Below.heap_setCell _ _ _ _ (by show _ ≠ C; omega)).trans hd⟩
    · rintro pre x rest V hxs ⟨hi, hl, hd⟩
      have hy := run_yield (P := P) (args := encs x) hl (by rw [hmk]; exact hps x)
      rw [hmk] at hy
      refine ⟨fn, _, assign, body, hy, roundIn_of_wpIn hfn (hassign _ pre x V _ hi ?_)⟩
      clear hy
      intro a' W hkf hkp hi hax
      replace hl := hkf.same _ _ (by omega) hl rfl
      replace hd := hkf.same _ _ (Nat.le_refl _) hd rfl
      have hlt : w.heap.size + 1 < W.heap.size := (Array.getElem?_eq_some_iff.1 hl).1
      refine ⟨_, run_beginRound hl (by rw [hmk]), ?_⟩
      have hl2 : (W.putObj (w.heap.size + 1) (.loop { mk .ready none with state := .busy })).heap[w.heap.size + 1]? = some (.loop { mk .ready none with state := .busy }) := World.putObj_heap_same hlt
      have hd2 : (W.putObj (w.heap.size + 1) (.loop { mk .ready none with state := .busy })).heap[w.heap.size]? = some (.deferred (some [])) := (World.putObj_heap_other (by omega)).trans hd
      have hk2 : KpC n₀ C V (W.putObj (w.heap.size + 1) (.loop { mk .ready none with state := .busy })) := hkp.trans (KpC.put hn₀ hC _ _ _ _ (by omega) hl rfl rfl w rfl)
      refine wpIn_mono (hbody _ pre x rest a' _ hxs (hI.putObj _ hi (by omega) hl rfl) ((hAx x a').putObj (s := ()) _ hax (by omega) hl rfl)) ?_
      intro e a3 W3 hp
      cases e with
      | normal =>
        obtain ⟨hk3, hkp3, hi3⟩ := hp
        have hl3 := hk3.same _ _ (by omega) hl2 rfl
        have hd3 := hk3.same _ _ (Nat.le_refl _) hd2 rfl
        have hr := run_endRound (P := P) none hl3
        refine ⟨_, _, hr, rfl, ⟨hI.putObj _ hi3 (by omega) hl3 rfl, ?_, (World.putObj_heap_other (by omega)).trans hd3⟩, (hk2.trans hkp3).trans (KpC.put hn₀ hC _ _ _ _ (by omega) hl3 rfl rfl w rfl)⟩
        rw [World.putObj_heap_same (Array.getElem?_eq_some_iff.1 hl3).1, hmk]
        rfl
      | ret => exact hp.elim
      | exit id => exact hp.elim
      | goto t => exact hp.elim
      | panic ch => exact hp.elim
      | outgrown => exact hp.elim
    · rintro e W2 ⟨⟨v, rfl⟩, hi, hl, hd⟩
      have hr := run_endLoop (P := P) hl (by rw [hmk]; simp)
      rw [show (mk .ready none).pending = none from by rw [hmk]] at hr
      exact ⟨none, _, hr, hdone _ _ (Nat.le_refl _) (hI.putObj _ hi (by omega) hl rfl) ((World.putObj_heap_other (by omega)).trans hd)⟩
end Go.Proofs.YtbhbpopebmdemaaDoor

namespace Go.Proofs.YtbhbpopebmdemaaDoor
open Go.RowKit Go.Proofs.YtbhbpopebmdemaaDoorW.PrintWords Go.Proofs.YtbhbpopebmdemaaDoorW.PrintLast Go.Proofs.YtbhbpopebmdemaaDoorW.PrintMore
open ChiPure Go.Lib Go.Shelf
set_option linter.unusedVariables false
set_option linter.unusedSimpArgs false

/-! ### plain -/
def fldL (p : Ctl × Nat) : List Int := [(p.2 : Int), p.1.f0, p.1.f1, p.1.f2, p.1.f3, p.1.f4]
def pcB (x : Int) : List UInt8 := 32 :: (wholeS x).data.toList
def autoB (b : Bool) : List UInt8 := if b then [32, 97, 117, 116, 111] else []
def resetB (b : Bool) : List UInt8 := if b then [32, 114, 101, 115, 101, 116] else []
def lineB (p : Ctl × Nat) : List UInt8 := [100, 111] ++ (fldL p).flatMap pcB ++ autoB p.1.f5 ++ resetB p.1.f6 ++ [10]
def headB : List UInt8 := [115, 99, 114, 105, 112, 116, 10]
def printB (xs : List Ctl) : List UInt8 := headB ++ (runsL xs).flatMap lineB ++ [101, 110, 100, 10]
/-- controls' text, or what is wrong. -/
def printS (xs : List Ctl) : ByteArray × Int :=
  if 16777216 < xs.length then (⟨#[]⟩, 42) else if xs.all okC then (⟨(printB xs).toArray⟩, 0) else (⟨#[]⟩, 40)

theorem wholeS_size (n : Int) : (wholeS n).size ≤ 22 := by
  unfold wholeS
  have h1 := dec_len 1 21 n.natAbs []
  have h2 : (signS n).size ≤ 1 := by unfold signS; split <;> decide
  rw [ByteArray.size_append, strOfNums_size]
  simp at h1
  omega
theorem pcB_len (x : Int) : (pcB x).length ≤ 23 := by
  have := wholeS_size x
  simp only [pcB, List.length_cons, Array.length_toList]
  show (wholeS x).size + 1 ≤ 23
  omega
theorem flat_le {α : Type} (f : α → List UInt8) (n : Nat) (h : ∀ x, (f x).length ≤ n) : ∀ l : List α, (l.flatMap f).length ≤ l.length * n
  | [] => by simp
  | x :: l => by
    have h1 := h x
    have h2 := flat_le f n h l
    rw [List.flatMap_cons, List.length_append, List.length_cons, Nat.add_mul]
    omega
theorem lineB_len (p : Ctl × Nat) : (lineB p).length ≤ 160 := by
  have h1 := flat_le pcB 23 pcB_len (fldL p)
  have h2 : (autoB p.1.f5).length ≤ 5 := by unfold autoB; split <;> simp
  have h3 : (resetB p.1.f6).length ≤ 6 := by unfold resetB; split <;> simp
  simp only [lineB, List.length_append, List.length_cons, List.length_nil]
  simp only [fldL, List.length_cons, List.length_nil] at h1
  simp only [fldL]
  omega
theorem runsF_mem : ∀ (f : Nat) (xs : List Ctl) (p : Ctl × Nat), p ∈ runsF f xs → p.1 ∈ xs ∧ p.2 ≤ xs.length
  | 0, _, p, h => by cases h
  | _ + 1, [], p, h => by cases h
  | f + 1, x :: xs, p, h => by
    unfold runsF at h
    rw [List.mem_cons] at h
    rcases h with rfl | h
    · exact ⟨List.mem_cons_self, lead_le _ _⟩
    · have := runsF_mem f _ p h
      refine ⟨List.mem_of_mem_drop this.1, ?_⟩
      have h2 := this.2
      rw [List.length_drop] at h2
      omega
theorem runsL_mem {xs : List Ctl} {p : Ctl × Nat} (h : p ∈ runsL xs) : p.1 ∈ xs ∧ p.2 ≤ xs.length := runsF_mem _ xs p h

/-! ### frames -/
theorem Bld.kept {B b : Nat} {l : List UInt8} {W W' : World} {row : Option Nat} (h : Bld B b l W) (hg : W.grownBy W' row) (hr : ∀ r c t fz, row = some r → W.heap[r]? = some (.cells c t fz) → t ≠ 63 ∧ t ≠ 5) : Bld B b l W' := by
  have key : ∀ p, Lib.BuilderAt 63 5 B b p (Lib.byteCells l) W → Lib.BuilderAt 63 5 B b p (Lib.byteCells l) W' := by
    rintro p ⟨hB, v, hb, hown, hne⟩
    refine ⟨hB, v, (hg.block b (Array.getElem?_eq_some_iff.1 hb).1 (fun e => ?_)).trans hb, hown.kept hg ?_, hne⟩
    · exact (hr b _ _ _ e.symm hb).1 rfl
    · rcases hown.2 with ⟨rfl, _⟩ | ⟨g, cap, cur, rfl, _, hgb, _⟩
      · exact .inl rfl
      · refine .inr fun e => ?_
        obtain rfl : some g = row := by simpa [Value.ownBlock] using e
        exact (hr g _ _ _ rfl hgb).2 rfl
  exact h.elim (fun x => .inl (key _ x)) (fun x => .inr (key _ x))
theorem grownBy_below {W W' : World} (h : Below W.heap.size W W') : W.grownBy W' none := ⟨h.os, h.tape, h.output, h.size, fun k hk _ => h.block k hk⟩
theorem Bld.below {B b : Nat} {l : List UInt8} {W W' : World} (h : Bld B b l W) (hb : Below W.heap.size W W') : Bld B b l W' := h.kept (grownBy_below hb) (fun r c t fz e => by cases e)
theorem Bld.set {B b C : Nat} {l : List UInt8} {W : World} {q : Value} (h : Bld B b l W) (hC : Boxed W C 23 q) (u : Value) : Bld B b l (W.setCell ⟨C, 0, none⟩ u) :=
  h.kept (grownBy_setCell' W C u) (fun r c t fz e hr => by
    cases e
    rw [show W.heap[C]? = _ from hC] at hr
    cases hr
    decide)
theorem Bld.own {β : Type} (B b : Nat) (f : β → List UInt8) : Own (fun s W => Bld B b (f s) W) := fun s X Y row hs hg hrow =>
  hs.kept hg (fun r c t fz e hr => by
    obtain ⟨o, ho, hc⟩ := hrow r e
    rw [hr] at ho
    cases ho
    cases hc)
theorem Bld.block {B b : Nat} {l : List UInt8} {W : World} (h : Bld B b l W) : ∃ c, W.heap[b]? = some (.cells c 63 (0, 0)) := by
  rcases h with ⟨_, v, hb, _⟩ | ⟨_, v, hb, _⟩ <;> exact ⟨_, hb⟩

/-- what a writer keeps. -/
def Fr (B b : Nat) (W W' : World) : Prop := Below B W W' ∧ Lib.OthersKept 5 (some b) W W'
theorem Fr.refl (B b : Nat) (W : World) : Fr B b W W := ⟨Below.refl _ _, Lib.OthersKept.refl _ _ _⟩
theorem Fr.trans {B b : Nat} {X Y Z : World} (h : Fr B b X Y) (k : Fr B b Y Z) : Fr B b X Z := ⟨h.1.trans k.1, h.2.trans k.2⟩
theorem Fr.below {B b : Nat} {W W' : World} (h : Below W.heap.size W W') (hB : B ≤ W.heap.size) : Fr B b W W' := ⟨h.mono hB, fun k o hk _ _ => (h.block k (Array.getElem?_eq_some_iff.1 hk).1).trans hk⟩
theorem Fr.cells {B b k : Nat} {W W' : World} {c : Array Value} {t : TypeId} {fz : Nat × Nat} (h : Fr B b W W') (hk : W.heap[k]? = some (.cells c t fz)) (ht : t ≠ 5) (hkb : k ≠ b) : W'.heap[k]? = some (.cells c t fz) :=
  h.2 k _ hk (by simpa using hkb) (fun c' fz' e => by cases e; exact ht rfl)
theorem Fr.keeps {B b : Nat} {W W' : World} (h : Fr B b W W') (hb : ∃ c, W.heap[b]? = some (.cells c 63 (0, 0))) (N : Nat) : KeepsFrom N W W' := by
  obtain ⟨c, hb⟩ := hb
  refine ⟨h.1.size, fun k o _ hk ho => h.2 k o hk (fun e => ?_) (fun c fz e => by rw [e] at ho; cases ho)⟩
  injection e with e
  rw [e, hb] at hk
  cases hk
  cases ho
end Go.Proofs.YtbhbpopebmdemaaDoor
