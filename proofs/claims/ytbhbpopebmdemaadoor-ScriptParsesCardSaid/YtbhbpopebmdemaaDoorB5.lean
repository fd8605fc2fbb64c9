import Derived.Test.YtbhbpopebmdemaaDoorB4
namespace Go.Proofs.YtbhbpopebmdemaaDoor
open Go.RowKit Go.Proofs.YtbhbpopebmdemaaDoorW.PrintWords Go.Proofs.YtbhbpopebmdemaaDoorW.PrintLast Go.Proofs.YtbhbpopebmdemaaDoorW.PrintMore
open ChiPure Go.Lib Go.Shelf
set_option linter.unusedVariables false
set_option linter.unusedSimpArgs false

theorem bounds_any (w : World) :
    Calls Tryd.prog 72 #[] w fun e w' => e = .returned (.slice (some ⟨w.heap.size, 0, none⟩) 6 6) ∧ w' = w.alloc (.cells #[.int .i64 1, .int .i64 16777216, .int .i64 0, .int .i64 255, .int .i64 0, .int .i64 255, .int .i64 0, .int .i64 255, .int .i64 (-127), .int .i64 127, .int .i64 (-1), .int .i64 8] 112) := by
  go_enter Tryd.func72, Tryd.ntmps72
  go_wp2
  go_ret
  exact ⟨rfl, rfl⟩

/-- one number of a line: the number, and the first error with its place. -/
def intStep (last : Int) (st : Int × Int) (s : ByteArray) (low high : Int) : Int × Int × Int :=
  if st.1 = 0 then ((intR s low high).1, failE 0 (intR s low high).2, failP 0 (intR s low high).2 st.2 last) else (0, st)

theorem int_tot (g M : Nat) (ls : List S107) (all last err place low high : Int) (s : ByteArray) (w : World) (h : BK w g M ls all last err place) :
    Calls Tryd.prog 73 #[.pointer (some ⟨g, 0, none⟩), .string s, .int .i64 low, .int .i64 high] w fun e w' => e = .returned (.int .i64 (intStep last (err, place) s low high).1) ∧
      BK w' g M ls all last (intStep last (err, place) s low high).2.1 (intStep last (err, place) s low high).2.2 ∧ w.grownBy w' (some g) := by
  unfold intStep
  by_cases he : err = 0
  · subst he
    simp only [if_true]
    exact int_any g M ls all last place low high s w h
  · simp only [he, if_false]
    refine (int_err g M ls all last err place low high s w h he).mono ?_
    rintro e w' ⟨rfl, rfl⟩
    exact ⟨rfl, h, grown_refl _ _⟩

def bLow : Nat → Int | 0 => 1 | 1 => 0 | 2 => 0 | 3 => 0 | 4 => -127 | _ => -1
def bHigh : Nat → Int | 0 => 16777216 | 1 => 255 | 2 => 255 | 3 => 255 | 4 => 127 | _ => 8

/-- what is known behind k numbers of a line. -/
def intsSt (last : Int) (st : Int × Int) (p : List ByteArray) : Nat → Int × Int
  | 0 => st
  | k + 1 => (intStep last (intsSt last st p k) (p.getD k ByteArray.empty) (bLow k) (bHigh k)).2
def intsN (last : Int) (st : Int × Int) (p : List ByteArray) (k : Nat) : Int := (intStep last (intsSt last st p k) (p.getD k ByteArray.empty) (bLow k) (bHigh k)).1
/-- the numbers' cells, k of them read. -/
def numCells (last : Int) (st : Int × Int) (p : List ByteArray) (k : Nat) : Array Value :=
  ((List.range 6).map fun j => Value.int .i64 (if j < k then intsN last st p j else 0)).toArray

theorem numCells_set (last : Int) (st : Int × Int) (p : List ByteArray) (k : Nat) (hk : k < 6) : (numCells last st p k).setIfInBounds k (.int .i64 (intsN last st p k)) = numCells last st p (k + 1) := by
  apply Array.ext
  · simp [numCells]
  · intro i h1 h2
    simp only [numCells, List.setIfInBounds_toArray, List.getElem_toArray, List.getElem_set, List.getElem_map, List.getElem_range]
    by_cases e : k = i
    · subst e; simp
    · rw [if_neg e]
      congr 1
      by_cases h : i < k
      · rw [if_pos h, if_pos (by omega)]
      · rw [if_neg h, if_neg (by omega)]

/-- one of some words: which, and the first error with its place. -/
def oneStep (last : Int) (st : Int × Int) (zs : List ByteArray) (x : ByteArray) : Int × Int × Int :=
  if st.1 = 0 then ((oneR zs x).1, failE 0 (oneR zs x).2, failP 0 (oneR zs x).2 st.2 last) else (0, st)

theorem one_tot (g M : Nat) (ls : List S107) (all last err place : Int) (s : ByteArray) (b n c : Nat) (zs : List ByteArray) (w : World) (h : BK w g M ls all last err place) (hn : n = zs.length) (hbig : zs.length ≤ 100)
    (hc : ∀ j, j < zs.length → w.cell? ⟨b, j, none⟩ = some (.string (zs.getD j ByteArray.empty))) :
    Calls Tryd.prog 74 #[.pointer (some ⟨g, 0, none⟩), .string s, .slice (some ⟨b, 0, none⟩) n c] w fun e w' => e = .returned (.int .i64 (oneStep last (err, place) zs s).1) ∧
      BK w' g M ls all last (oneStep last (err, place) zs s).2.1 (oneStep last (err, place) zs s).2.2 ∧ w.grownBy w' (some g) := by
  unfold oneStep
  by_cases he : err = 0
  · subst he
    simp only [if_true]
    exact one_any g M ls all last place s b n c zs w h hn hbig hc
  · simp only [he, if_false]
    refine (one_err g M ls all last err place s _ w h he).mono ?_
    rintro e w' ⟨rfl, rfl⟩
    exact ⟨rfl, h, grown_refl _ _⟩

/-- a block of the call's own that reads as two, or one, words. -/
theorem lit_cells (w : World) (zs : List ByteArray) : ∀ j, j < zs.length → (w.alloc (.cells (zs.map Value.string).toArray 9)).cell? ⟨w.heap.size, j, none⟩ = some (.string (zs.getD j ByteArray.empty)) := by
  intro j hj
  rw [blk_cell (blk_new w _)]
  simp [hj]

def wAuto : ByteArray := ⟨#[97, 117, 116, 111]⟩
def wReset : ByteArray := ⟨#[114, 101, 115, 101, 116]⟩

def zero35 : Array Value := #[.int .i64 0, .int .i64 0, .int .i64 0, .int .i64 0, .int .i64 0, .bool false, .bool false]
def bndCells : Array Value := #[.int .i64 1, .int .i64 16777216, .int .i64 0, .int .i64 255, .int .i64 0, .int .i64 255, .int .i64 0, .int .i64 255, .int .i64 (-127), .int .i64 127, .int .i64 (-1), .int .i64 8]

theorem numCells6 (last : Int) (st : Int × Int) (p : List ByteArray) : numCells last st p 6 = #[.int .i64 (intsN last st p 0), .int .i64 (intsN last st p 1), .int .i64 (intsN last st p 2), .int .i64 (intsN last st p 3), .int .i64 (intsN last st p 4), .int .i64 (intsN last st p 5)] := by
  simp [numCells, List.range, List.range.loop]

theorem bnd_at (k : Nat) (h : k < 6) : bndCells[k * 2]? = some (.int .i64 (bLow k)) ∧ bndCells[k * 2 + 1]? = some (.int .i64 (bHigh k)) := by
  match k, h with
  | 0, _ => exact ⟨rfl, rfl⟩
  | 1, _ => exact ⟨rfl, rfl⟩
  | 2, _ => exact ⟨rfl, rfl⟩
  | 3, _ => exact ⟨rfl, rfl⟩
  | 4, _ => exact ⟨rfl, rfl⟩
  | 5, _ => exact ⟨rfl, rfl⟩

theorem take_rel {g M : Nat} {ls : List S107} {all last err place : Int} {p : List ByteArray} {w wr w2 : World} {k : Nat} (hbnd : g < M ∧ M ≤ w.heap.size) (hk : k < 6)
    (hz : wr.heap[w.heap.size]? = some (.cells zero35 35 (0, 0))) (hn : wr.heap[w.heap.size + 1]? = some (.cells (numCells last (err, place) p k) 71 (0, 0)))
    (hb : wr.heap[w.heap.size + 2]? = some (.cells bndCells 112 (0, 0))) (hG : w.grownBy wr (some g)) (o : Obj)
    (hB2 : BK w2 g M ls all last (intsSt last (err, place) p (k + 1)).1 (intsSt last (err, place) p (k + 1)).2) (hG2 : (wr.alloc o).drew.grownBy w2 (some g)) :
    (w2.setCell ⟨w.heap.size + 1, k, none⟩ (.int .i64 (intsN last (err, place) p k))).heap[w.heap.size]? = some (.cells zero35 35 (0, 0)) ∧
    (w2.setCell ⟨w.heap.size + 1, k, none⟩ (.int .i64 (intsN last (err, place) p k))).heap[w.heap.size + 1]? = some (.cells (numCells last (err, place) p (k + 1)) 71 (0, 0)) ∧
    (w2.setCell ⟨w.heap.size + 1, k, none⟩ (.int .i64 (intsN last (err, place) p k))).heap[w.heap.size + 2]? = some (.cells bndCells 112 (0, 0)) ∧
    BK (w2.setCell ⟨w.heap.size + 1, k, none⟩ (.int .i64 (intsN last (err, place) p k))) g M ls all last (intsSt last (err, place) p (k + 1)).1 (intsSt last (err, place) p (k + 1)).2 ∧
    w.grownBy (w2.setCell ⟨w.heap.size + 1, k, none⟩ (.int .i64 (intsN last (err, place) p k))) (some g) := by
  have hz2 := blk_grown (blk_drew (blk_alloc hz o)) hG2 (by intro he; injection he with he; omega)
  have hn2 := blk_grown (blk_drew (blk_alloc hn o)) hG2 (by intro he; injection he with he; omega)
  have hb2 := blk_grown (blk_drew (blk_alloc hb o)) hG2 (by intro he; injection he with he; omega)
  have hg2 : w.grownBy w2 (some g) := grown_trans (grown_below hG (((Below.refl _ _).alloc (Nat.le_refl _) _).drew)) hG2
  refine ⟨blk_far hz2 (by simp) _, ?_, blk_far hb2 (by simp) _, ?_, ?_⟩
  · rw [← numCells_set _ _ _ _ hk]
    exact blk_set hn2 k _
  · refine hB2.keep ?_ (fun j hj => ?_)
    · have := hB2.bnd.2
      simpa using this
    · exact Below.heap_setCell w2 ⟨w.heap.size + 1, k, none⟩ _ j (by simp; omega)
  · refine ⟨hg2.1, hg2.2, hg2.3, by simpa using hg2.4, fun j hj hne => ?_⟩
    rw [Below.heap_setCell w2 ⟨w.heap.size + 1, k, none⟩ _ j (by simp; omega)]
    exact hg2.5 j hj hne

theorem gcell {w w2 : World} {g : Nat} (h : w.grownBy w2 (some g)) : (∀ b o, b < w.heap.size → b ≠ g → w2.cell? ⟨b, o, none⟩ = w.cell? ⟨b, o, none⟩) ∧ (∀ b o, b < w.heap.size → b ≠ g → w2.frozen? ⟨b, o, none⟩ = w.frozen? ⟨b, o, none⟩) ∧ w.heap.size ≤ w2.heap.size := by
  refine ⟨fun b o h1 h2 => ?_, fun b o h1 h2 => ?_, h.4⟩
  · unfold World.cell?
    rw [h.5 b h1 (fun he => h2 (by injection he))]
  · unfold World.frozen?
    rw [h.5 b h1 (fun he => h2 (by injection he))]

/-- a block of seven cells, written anew; all else stays. -/
theorem fill7 (W : World) (b : Nat) (h : W.heap[b]? = some (.cells zero35 35 (0, 0))) (v0 v1 v2 v3 v4 v5 v6 : Value) :
    (((((((W.setCell ⟨b, 0, none⟩ v0).setCell ⟨b, 1, none⟩ v1).setCell ⟨b, 2, none⟩ v2).setCell ⟨b, 3, none⟩ v3).setCell ⟨b, 4, none⟩ v4).setCell ⟨b, 5, none⟩ v5).setCell ⟨b, 6, none⟩ v6).heap[b]? = some (.cells #[v0, v1, v2, v3, v4, v5, v6] 35 (0, 0)) := by
  rw [blk_set (blk_set (blk_set (blk_set (blk_set (blk_set (blk_set h 0 v0) 1 v1) 2 v2) 3 v3) 4 v4) 5 v5) 6 v6]
  simp [zero35]
theorem size_set (W : World) (p : Addr) (v : Value) : (W.setCell p v).heap.size = W.heap.size := by simp
theorem keep7 (W : World) (b : Nat) (v0 v1 v2 v3 v4 v5 v6 : Value) (k : Nat) (hk : k ≠ b) :
    (((((((W.setCell ⟨b, 0, none⟩ v0).setCell ⟨b, 1, none⟩ v1).setCell ⟨b, 2, none⟩ v2).setCell ⟨b, 3, none⟩ v3).setCell ⟨b, 4, none⟩ v4).setCell ⟨b, 5, none⟩ v5).setCell ⟨b, 6, none⟩ v6).heap[k]? = W.heap[k]? := by
  rw [Below.heap_setCell _ ⟨b, 6, none⟩ _ k hk, Below.heap_setCell _ ⟨b, 5, none⟩ _ k hk, Below.heap_setCell _ ⟨b, 4, none⟩ _ k hk, Below.heap_setCell _ ⟨b, 3, none⟩ _ k hk, Below.heap_setCell _ ⟨b, 2, none⟩ _ k hk, Below.heap_setCell _ ⟨b, 1, none⟩ _ k hk, Below.heap_setCell _ ⟨b, 0, none⟩ _ k hk]
theorem grown_setNew {w w1 : World} {row : Option Nat} (h : w.grownBy w1 row) {b : Nat} (hb : w.heap.size ≤ b) (j : Nat) (u : Value) : w.grownBy (w1.setCell ⟨b, j, none⟩ u) row := by
  obtain ⟨h1, h2, h3, h4, h5⟩ := h
  refine ⟨h1, h2, h3, by simpa using h4, fun k hk hne => ?_⟩
  rw [Below.heap_setCell w1 ⟨b, j, none⟩ u k (by simp; omega)]
  exact h5 k hk hne

/-- the end of a take: the result's block is written, a block is laid, a draw. -/
theorem take_end {g M : Nat} {ls : List S107} {all last err place : Int} {w wr : World} (hbnd : g < M ∧ M ≤ w.heap.size) (hB : BK wr g M ls all last err place) (hG : w.grownBy wr (some g))
    (b : Nat) (hb : w.heap.size ≤ b) (v0 v1 v2 v3 v4 v5 v6 : Value) :
    BK (((((((wr.setCell ⟨b, 0, none⟩ v0).setCell ⟨b, 1, none⟩ v1).setCell ⟨b, 2, none⟩ v2).setCell ⟨b, 3, none⟩ v3).setCell ⟨b, 4, none⟩ v4).setCell ⟨b, 5, none⟩ v5).setCell ⟨b, 6, none⟩ v6) g M ls all last err place ∧
    w.grownBy (((((((wr.setCell ⟨b, 0, none⟩ v0).setCell ⟨b, 1, none⟩ v1).setCell ⟨b, 2, none⟩ v2).setCell ⟨b, 3, none⟩ v3).setCell ⟨b, 4, none⟩ v4).setCell ⟨b, 5, none⟩ v5).setCell ⟨b, 6, none⟩ v6) (some g) := by
  refine ⟨hB.keep (by have := hB.bnd.2; rw [size_set, size_set, size_set, size_set, size_set, size_set, size_set]; exact this) (fun k hk => keep7 _ _ _ _ _ _ _ _ _ k (by omega)), ?_⟩
  exact grown_setNew (grown_setNew (grown_setNew (grown_setNew (grown_setNew (grown_setNew (grown_setNew hG hb 0 v0) hb 1 v1) hb 2 v2) hb 3 v3) hb 4 v4) hb 5 v5) hb 6 v6

theorem cells7 {W : World} {b : Nat} {t : TypeId} {v0 v1 v2 v3 v4 v5 v6 : Value} (h : W.heap[b]? = some (.cells #[v0, v1, v2, v3, v4, v5, v6] t (0, 0))) :
    W.cell? ⟨b, 0, none⟩ = some v0 ∧ W.cell? ⟨b, 1, none⟩ = some v1 ∧ W.cell? ⟨b, 2, none⟩ = some v2 ∧ W.cell? ⟨b, 3, none⟩ = some v3 ∧ W.cell? ⟨b, 4, none⟩ = some v4 ∧ W.cell? ⟨b, 5, none⟩ = some v5 ∧ W.cell? ⟨b, 6, none⟩ = some v6 ∧
    W.frozen? ⟨b, 0, none⟩ = false ∧ W.frozen? ⟨b, 1, none⟩ = false ∧ W.frozen? ⟨b, 2, none⟩ = false ∧ W.frozen? ⟨b, 3, none⟩ = false ∧ W.frozen? ⟨b, 4, none⟩ = false ∧ W.frozen? ⟨b, 5, none⟩ = false ∧ W.frozen? ⟨b, 6, none⟩ = false ∧ b < W.heap.size := by
  exact ⟨by rw [blk_cell h]; rfl, by rw [blk_cell h]; rfl, by rw [blk_cell h]; rfl, by rw [blk_cell h]; rfl, by rw [blk_cell h]; rfl, by rw [blk_cell h]; rfl, by rw [blk_cell h]; rfl,
    blk_frozen h 0, blk_frozen h 1, blk_frozen h 2, blk_frozen h 3, blk_frozen h 4, blk_frozen h 5, blk_frozen h 6, blk_lt h⟩

theorem BK_setNew {W : World} {g M : Nat} {ls : List S107} {all last err place : Int} (h : BK W g M ls all last err place) {b : Nat} (hb : M ≤ b) (j : Nat) (u : Value) : BK (W.setCell ⟨b, j, none⟩ u) g M ls all last err place :=
  h.keep (by have := h.bnd.2; rw [size_set]; exact this) (fun k hk => Below.heap_setCell W ⟨b, j, none⟩ u k (by simp; omega))

/-- behind a look at a flag: what was laid stays. -/
theorem after_one {w wr w2 : World} {g : Nat} {cn c35 lit : Array Value} (hgl : g < w.heap.size) (hz : wr.heap[w.heap.size]? = some (.cells zero35 35 (0, 0))) (hn : wr.heap[w.heap.size + 1]? = some (.cells cn 71 (0, 0)))
    (hG : w.grownBy wr (some g)) (hG2 : ((wr.alloc (.cells c35 35)).alloc (.cells lit 9)).grownBy w2 (some g)) :
    w2.heap[w.heap.size]? = some (.cells zero35 35 (0, 0)) ∧ w2.heap[w.heap.size + 1]? = some (.cells cn 71 (0, 0)) ∧ w2.heap[wr.heap.size]? = some (.cells c35 35 (0, 0)) ∧ w.grownBy w2 (some g) ∧ wr.heap.size + 2 ≤ w2.heap.size := by
  have hs := hG2.4
  have hl := hG.4
  simp only [World.size_alloc] at hs
  refine ⟨blk_grown (blk_alloc (blk_alloc hz _) _) hG2 (by intro he; injection he; omega), blk_grown (blk_alloc (blk_alloc hn _) _) hG2 (by intro he; injection he; omega), blk_grown (blk_alloc (blk_new _ _) _) hG2 (by intro he; injection he; omega),
    grown_trans (grown_below hG (((Below.refl _ _).alloc (Nat.le_refl _) _).alloc (by simp) _)) hG2, by omega⟩

theorem after_two {w wr w2 : World} {g L : Nat} {cn c35 lit : Array Value} (hgl : g < w.heap.size) (hz : wr.heap[w.heap.size]? = some (.cells zero35 35 (0, 0))) (hn : wr.heap[w.heap.size + 1]? = some (.cells cn 71 (0, 0)))
    (hc : wr.heap[L]? = some (.cells c35 35 (0, 0))) (hL : w.heap.size ≤ L)
    (hG : w.grownBy wr (some g)) (hG2 : (wr.alloc (.cells lit 9)).grownBy w2 (some g)) :
    w2.heap[w.heap.size]? = some (.cells zero35 35 (0, 0)) ∧ w2.heap[w.heap.size + 1]? = some (.cells cn 71 (0, 0)) ∧ w2.heap[L]? = some (.cells c35 35 (0, 0)) ∧ w.grownBy w2 (some g) ∧ wr.heap.size + 1 ≤ w2.heap.size := by
  have hs := hG2.4
  have hl := hG.4
  simp only [World.size_alloc] at hs
  refine ⟨blk_grown (blk_alloc hz _) hG2 (by intro he; injection he; omega), blk_grown (blk_alloc hn _) hG2 (by intro he; injection he; omega), blk_grown (blk_alloc hc _) hG2 (by intro he; injection he; omega),
    grown_trans (grown_below hG ((Below.refl _ _).alloc (Nat.le_refl _) _)) hG2, by omega⟩

/-- what is known behind a line's pieces; its two flags. -/
def takeSt (last : Int) (st : Int × Int) (p : List ByteArray) : Int × Int :=
  if p.length = 8 then
    (oneStep last (oneStep last (oneStep last (intsSt last st p 6) [wAuto, wReset] (p.getD 6 ByteArray.empty)).2 [wAuto] (p.getD 6 ByteArray.empty)).2 [wReset] (p.getD 7 ByteArray.empty)).2
  else if p.length = 7 then (oneStep last (intsSt last st p 6) [wAuto, wReset] (p.getD 6 ByteArray.empty)).2
  else intsSt last st p 6
def takeReset (last : Int) (st : Int × Int) (p : List ByteArray) : Bool :=
  if p.length = 8 then true else if p.length = 7 then (oneStep last (intsSt last st p 6) [wAuto, wReset] (p.getD 6 ByteArray.empty)).1 == 1 else false
def takeAuto (last : Int) (st : Int × Int) (p : List ByteArray) : Bool :=
  if p.length = 8 then true else if p.length = 7 then !((oneStep last (intsSt last st p 6) [wAuto, wReset] (p.getD 6 ByteArray.empty)).1 == 1) else false

theorem take_7 (last : Int) (st : Int × Int) (p : List ByteArray) (h : p.length = 7) : takeSt last st p = (oneStep last (intsSt last st p 6) [wAuto, wReset] (p.getD 6 ByteArray.empty)).2 ∧
    takeReset last st p = ((oneStep last (intsSt last st p 6) [wAuto, wReset] (p.getD 6 ByteArray.empty)).1 == 1) ∧ takeAuto last st p = !((oneStep last (intsSt last st p 6) [wAuto, wReset] (p.getD 6 ByteArray.empty)).1 == 1) := by
  unfold takeSt takeReset takeAuto
  rw [h]
  exact ⟨rfl, rfl, rfl⟩
theorem take_8 (last : Int) (st : Int × Int) (p : List ByteArray) (h : p.length = 8) : takeSt last st p = (oneStep last (oneStep last (oneStep last (intsSt last st p 6) [wAuto, wReset] (p.getD 6 ByteArray.empty)).2 [wAuto] (p.getD 6 ByteArray.empty)).2 [wReset] (p.getD 7 ByteArray.empty)).2 ∧
    takeReset last st p = true ∧ takeAuto last st p = true := by
  unfold takeSt takeReset takeAuto
  rw [h]
  exact ⟨rfl, rfl, rfl⟩

def TakePost (g M : Nat) (ls : List S107) (all last err place : Int) (p : List ByteArray) (w : World) (e : Ending) (w' : World) : Prop :=
  e = .returned (.tuple #[.int .i64 (intsN last (err, place) p 0), .agg #[.int .i64 (intsN last (err, place) p 1), .int .i64 (intsN last (err, place) p 2), .int .i64 (intsN last (err, place) p 3),
    .int .i64 (intsN last (err, place) p 4), .int .i64 (intsN last (err, place) p 5), .bool (takeAuto last (err, place) p), .bool (takeReset last (err, place) p)]]) ∧
  BK w' g M ls all last (takeSt last (err, place) p).1 (takeSt last (err, place) p).2 ∧ w.grownBy w' (some g)

set_option maxRecDepth 100000 in
set_option maxHeartbeats 2000000 in
theorem takeL_any (g M : Nat) (ls : List S107) (all last err place : Int) (A : Option Addr) (c : Nat) (p : List ByteArray) (w : World) (h : BK w g M ls all last err place) (hp : 6 ≤ p.length)
    (hF : Kd.F Kd.string w (fun k => k ≠ g) A p.length p) (hc : p.length ≤ c) (h678 : p.length = 6 ∨ p.length = 7 ∨ p.length = 8) :
    Calls Tryd.prog 31 #[.pointer (some ⟨g, 0, none⟩), .slice A p.length c] w (TakePost g M ls all last err place p w) := by
  have hbnd := h.bnd
  have HF := Lib.hid hF
  clear hF
  go_enter Tryd.func31, Tryd.ntmps31
  go_wp2_with (first | (go_at_call 72; refine (bounds_any _).mono ?_; rintro e w' ⟨rfl, rfl⟩))
  go_loopw [13] (fun v wr => ∃ k : Nat, k ≤ 6 ∧ v = .int .i64 k ∧ wr.heap[w.heap.size]? = some (.cells zero35 35 (0, 0)) ∧ wr.heap[w.heap.size + 1]? = some (.cells (numCells last (err, place) p k) 71 (0, 0)) ∧
      wr.heap[w.heap.size + 2]? = some (.cells bndCells 112 (0, 0)) ∧ BK wr g M ls all last (intsSt last (err, place) p k).1 (intsSt last (err, place) p k).2 ∧ w.grownBy wr (some g)) (fun v _ => 6 - (intOf v).toNat)
  case atStart =>
    refine ⟨0, by omega, rfl, ?_, ?_, ?_, ?_, ?_⟩
    · exact blk_alloc (blk_alloc (blk_new _ _) _) _
    · have := blk_alloc (blk_new (w.alloc (.cells zero35 35)) (.cells (numCells last (err, place) p 0) 71)) (.cells bndCells 112)
      rw [World.size_alloc] at this
      exact this
    · have := blk_new ((w.alloc (.cells zero35 35)).alloc (.cells (numCells last (err, place) p 0) 71)) (.cells bndCells 112)
      rw [World.size_alloc, World.size_alloc] at this
      exact this
    · exact h.step (((((Below.refl _ w).alloc (Nat.le_refl _) _).alloc (by simp) _).alloc (by simp; omega) _))
    · exact grown_below (grown_refl _ _) (((((Below.refl _ w).alloc (Nat.le_refl _) _).alloc (by simp) _).alloc (by simp; omega) _))
  case round =>
    obtain ⟨k, hk, rfl, hz, hn, hb, hB, hG⟩ := hrel
    by_cases hlt : k < 6
    · obtain ⟨q0, q1⟩ := bnd_at k hlt
      have b0 : wr.cell? ⟨w.heap.size + 1 + 1, k * 2, none⟩ = some (.int .i64 (bLow k)) := by rw [blk_cell hb]; exact q0
      have b1 : wr.cell? ⟨w.heap.size + 1 + 1, k * 2 + 1, none⟩ = some (.int .i64 (bHigh k)) := by rw [blk_cell hb]; exact q1
      clear q0 q1
      have hne : g ≠ w.heap.size + 1 := by omega
      have hsz := blk_lt hb
      obtain ⟨a, rfl, sk⟩ : ∃ a, A = some a ∧ wr.cell? (a.add k) = some (.string (p.getD k ByteArray.empty)) := by
        obtain ⟨a, rfl, hx⟩ := Kd.at_string (Kd.F_now (Kd.F_step HF.out (fun j hj hlt => hG.block j hlt (fun he => hj (by injection he))))) (k : Int) (by omega) (by omega)
        rw [Int.toNat_natCast] at hx; exact ⟨a, rfl, hx⟩
      have hint : ∀ w1, Below wr.heap.size wr w1 → _ := fun w1 hb => int_tot g M ls all last _ _ (bLow k) (bHigh k) (p.getD k ByteArray.empty) w1 (hB.step hb)
      have ac : ∀ w2, (wr.alloc (.cells #[.int .i64 (bLow k), .int .i64 (bHigh k)] 112)).drew.grownBy w2 (some g) → w2.heap[w.heap.size + 1]? = some (.cells (numCells last (err, place) p k) 71 (0, 0)) := fun w2 hg =>
        blk_grown (blk_drew (blk_alloc hn _)) hg (by intro he; injection he with he; omega)
      have ab := World.block_lt_of_cell? _ _ sk
      rw [add_block] at ab
      have ab' : (a.add k).block ≠ wr.heap.size := by rw [add_block]; omega
      have sk' : (wr.alloc (.cells #[.int .i64 (bLow k), .int .i64 (bHigh k)] 112)).cell? (a.add k) = some (.string (p.getD k ByteArray.empty)) := pw_cell_below ((Below.refl _ _).alloc (Nat.le_refl _) _) sk
      have hn1 : w.heap.size + 1 + 1 ≠ wr.heap.size := by omega
      have hk0 : (0 : Int) ≤ (k : Int) := by omega
      have hk6 : (k : Int) < 6 := by omega
      have hkp : (k : Int) < (p.length : Int) := by omega
      have HNC : (numCells last (err, place) p k)[k]? = some (.int .i64 0) := by simp [numCells, hlt]
      go_wp2
      go_region_with (go_at_call 73; refine (hint _ (((Below.refl _ _).alloc (Nat.le_refl _) _).drew)).mono ?_; rintro e w2 ⟨rfl, hB2, hG2⟩; have hc2 := ac _ hG2; have hcc : w2.cell? ⟨w.heap.size + 1, k, none⟩ = some (.int .i64 0) := (by rw [blk_cell hc2]; exact HNC); have hff := blk_frozen hc2 k)
      all_goals
        go_wp2
        go_roundw
        case rel => exact ⟨k + 1, by omega, by go_num, take_rel hbnd hlt hz hn hb hG _ hB2 hG2⟩
        case measure => simp [intOf]; omega
    · obtain rfl : k = 6 := by omega
      obtain ⟨hg1, hM1⟩ := hbnd
      have hne : g ≠ w.heap.size + 1 := by omega
      have hne0 : g ≠ w.heap.size := by omega
      have hsz := blk_lt hb
      have q0 : w.heap.size < wr.heap.size := by omega
      have q1 : w.heap.size + 1 < wr.heap.size := by omega
      have q2 : w.heap.size ≠ wr.heap.size := by omega
      have q3 : w.heap.size + 1 ≠ wr.heap.size := by omega
      have r0 : wr.cell? ⟨w.heap.size, 0, none⟩ = some (.int .i64 0) := by rw [blk_cell hz]; rfl
      have r1 : wr.cell? ⟨w.heap.size, 1, none⟩ = some (.int .i64 0) := by rw [blk_cell hz]; rfl
      have r2 : wr.cell? ⟨w.heap.size, 2, none⟩ = some (.int .i64 0) := by rw [blk_cell hz]; rfl
      have r3 : wr.cell? ⟨w.heap.size, 3, none⟩ = some (.int .i64 0) := by rw [blk_cell hz]; rfl
      have r4 : wr.cell? ⟨w.heap.size, 4, none⟩ = some (.int .i64 0) := by rw [blk_cell hz]; rfl
      have r5 : wr.cell? ⟨w.heap.size, 5, none⟩ = some (.bool false) := by rw [blk_cell hz]; rfl
      have r6 : wr.cell? ⟨w.heap.size, 6, none⟩ = some (.bool false) := by rw [blk_cell hz]; rfl
      have z0 := blk_frozen hz 0
      have z1 := blk_frozen hz 1
      have z2 := blk_frozen hz 2
      have z3 := blk_frozen hz 3
      have z4 := blk_frozen hz 4
      have z5 := blk_frozen hz 5
      have z6 := blk_frozen hz 6
      rw [numCells6] at hn
      have n0 : wr.cell? ⟨w.heap.size + 1, 0, none⟩ = some (.int .i64 (intsN last (err, place) p 0)) := by rw [blk_cell hn]; rfl
      have n1 : wr.cell? ⟨w.heap.size + 1, 1, none⟩ = some (.int .i64 (intsN last (err, place) p 1)) := by rw [blk_cell hn]; rfl
      have n2 : wr.cell? ⟨w.heap.size + 1, 2, none⟩ = some (.int .i64 (intsN last (err, place) p 2)) := by rw [blk_cell hn]; rfl
      have n3 : wr.cell? ⟨w.heap.size + 1, 3, none⟩ = some (.int .i64 (intsN last (err, place) p 3)) := by rw [blk_cell hn]; rfl
      have n4 : wr.cell? ⟨w.heap.size + 1, 4, none⟩ = some (.int .i64 (intsN last (err, place) p 4)) := by rw [blk_cell hn]; rfl
      have n5 : wr.cell? ⟨w.heap.size + 1, 5, none⟩ = some (.int .i64 (intsN last (err, place) p 5)) := by rw [blk_cell hn]; rfl
      generalize hx0 : intsN last (err, place) p 0 = x0 at *
      generalize hx1 : intsN last (err, place) p 1 = x1 at *
      generalize hx2 : intsN last (err, place) p 2 = x2 at *
      generalize hx3 : intsN last (err, place) p 3 = x3 at *
      generalize hx4 : intsN last (err, place) p 4 = x4 at *
      generalize hx5 : intsN last (err, place) p 5 = x5 at *
      generalize hst : intsSt last (err, place) p 6 = st at *
      have X0 := Lib.hid hx0
      have X1 := Lib.hid hx1
      have X2 := Lib.hid hx2
      have X3 := Lib.hid hx3
      have X4 := Lib.hid hx4
      have X5 := Lib.hid hx5
      have XS := Lib.hid hst
      obtain ⟨e6, p6⟩ := st
      simp only at hB
      clear hx0 hx1 hx2 hx3 hx4 hx5 hst
      have hGH := Lib.hid hG
      obtain ⟨a, rfl, hs6⟩ : ∃ a, A = some a ∧ ∀ W, w.grownBy W (some g) → ∀ j : Nat, j < p.length → W.cell? (a.add j) = some (.string (p.getD j ByteArray.empty)) := by
        have hC := Kd.F_now (Kd.F_step HF.out (fun j hj hlt => hG.block j hlt (fun he => hj (by injection he))))
        obtain ⟨a, rfl, _⟩ := Kd.at_string hC 0 (by omega) (by omega)
        refine ⟨a, rfl, fun W hW j hj => ?_⟩
        have hCW := Kd.F_now (Kd.F_step HF.out (fun j hj hlt => hW.block j hlt (fun he => hj (by injection he))))
        obtain ⟨a', ha, hx⟩ := Kd.at_string hCW (j : Int) (by omega) (by omega)
        cases ha
        rw [Int.toNat_natCast] at hx
        exact hx
      have hag : a.block ≠ g := Kd.F_in HF.out rfl (by omega) (by decide)
      have hs0 := hs6 wr hG 0 (by omega)
      have hab := World.block_lt_of_cell? _ _ hs0
      rw [add_block] at hab
      have S6 := Lib.hid hs6
      clear hs6 hs0
      have ea6 : a.add 6 = ⟨a.block, a.off + 6, none⟩ := by unfold Addr.add; rfl
      have ea7 : a.add 7 = ⟨a.block, a.off + 6 + 1, none⟩ := by unfold Addr.add; rfl
      have EA6 := Lib.hid ea6
      have EA7 := Lib.hid ea7
      clear ea6 ea7
      have hZ := Lib.hid hz
      have hN := Lib.hid hn
      clear hn hz hb hk hlt h hG
      rcases h678 with h6 | h7 | h8
      · go_wp2
        all_goals
          go_region
          go_wp2
          obtain ⟨e1, e2⟩ := take_end ⟨hg1, hM1⟩ hB hGH.out w.heap.size (Nat.le_refl _) (.int .i64 x1) (.int .i64 x2) (.int .i64 x3) (.int .i64 x4) (.int .i64 x5) (.bool false) (.bool false)
          refine bodyPost_ret (results_tc rfl _ _ w.heap.size 35 #[.int .i64 x1, .int .i64 x2, .int .i64 x3, .int .i64 x4, .int .i64 x5, .bool false, .bool false] (0, 0) _ rfl (blk_drew (blk_alloc (fill7 wr w.heap.size hZ.out _ _ _ _ _ _ _) _)) Tryd.underlying35 rfl (by kernel_rfl)) rfl ⟨?_, ?_, ?_⟩
          · rw [X0.out, X1.out, X2.out, X3.out, X4.out, X5.out, takeAuto, takeReset, if_neg (by omega), if_neg (by omega), if_neg (by omega), if_neg (by omega)]; rfl
          · rw [takeSt, if_neg (by omega), if_neg (by omega), XS.out]
            exact e1.step (((Below.refl _ _).alloc (Nat.le_refl _) _).drew)
          · exact grown_below e2 (((Below.refl _ _).alloc (Nat.le_refl _) _).drew)
      · have s6 := S6.out wr hGH.out 6 (by omega)
        rw [EA6.out] at s6
        have u1 : a.block ≠ wr.heap.size := by omega
        have u2 : (1 : Int) ≤ ((c - 6 : Nat) : Int) := by omega
        have X7 := Lib.hid h7
        generalize hy6 : p.getD 6 ByteArray.empty = y6 at s6
        have Y6 := Lib.hid hy6
        clear hy6
        go_wp2_with fail
        refine (one_tot g M ls all last e6 p6 y6 (wr.heap.size + 1) 2 2 [wAuto, wReset] _ (hB.step (((Below.refl _ _).alloc (Nat.le_refl _) _).alloc (by simp) _)) rfl (by decide) (by intro j hj; have := lit_cells (wr.alloc (.cells #[.int .i64 x1, .int .i64 x2, .int .i64 x3, .int .i64 x4, .int .i64 x5, .bool false, .bool false] 35)) [wAuto, wReset] j hj; rw [World.size_alloc] at this; exact this)).mono ?_
        rintro e w2 ⟨rfl, hB2, hG2⟩
        obtain ⟨a0, a1, a2, hg2, hs2⟩ := after_one (by omega) hZ.out hN.out hGH.out hG2
        obtain ⟨b0, b1, b2, b3, b4, b5, b6, k0, k1, k2, k3, k4, k5, k6, lb⟩ := cells7 a0
        obtain ⟨d0, d1, d2, d3, d4, d5, d6, m0, m1, m2, m3, m4, m5, m6, lc⟩ := cells7 a2
        have j0 : w2.cell? ⟨w.heap.size + 1, 0, none⟩ = some (.int .i64 x0) := by rw [blk_cell a1]; rfl
        have A0 := Lib.hid a0
        have A1 := Lib.hid a1
        have A2 := Lib.hid a2
        have HG2 := Lib.hid hg2
        clear a0 a1 a2 hg2 hG2 r0 r1 r2 r3 r4 r5 r6 z0 z1 z2 z3 z4 z5 z6 n0 n1 n2 n3 n4 n5 s6
        generalize hos : oneStep last (e6, p6) [wAuto, wReset] y6 = os at *
        obtain ⟨v7, e7, p7⟩ := os
        have OS := Lib.hid hos
        clear hos
        simp only at hB2
        dsimp only
        go_wp2
        go_region
        go_wp2
        obtain ⟨e1, e2⟩ := take_end (w := w) (wr := (w2.setCell ⟨wr.heap.size, 6, none⟩ (.bool (v7 == 1))).setCell ⟨wr.heap.size, 5, none⟩ (.bool !(v7 == 1))) ⟨hg1, hM1⟩
          (BK_setNew (BK_setNew hB2 (by omega) 6 _) (by omega) 5 _) (grown_setNew (grown_setNew HG2.out (by omega) 6 _) (by omega) 5 _)
          w.heap.size (Nat.le_refl _) (.int .i64 x1) (.int .i64 x2) (.int .i64 x3) (.int .i64 x4) (.int .i64 x5) (.bool !(v7 == 1)) (.bool (v7 == 1))
        refine bodyPost_ret (results_tc rfl _ _ w.heap.size 35 #[.int .i64 x1, .int .i64 x2, .int .i64 x3, .int .i64 x4, .int .i64 x5, .bool !(v7 == 1), .bool (v7 == 1)] (0, 0) _ rfl
          (blk_drew (fill7 _ w.heap.size (blk_far (blk_far A0.out (by simp; omega) _) (by simp; omega) _) _ _ _ _ _ _ _)) Tryd.underlying35 rfl (by kernel_rfl)) rfl ⟨?_, ?_, ?_⟩
        · rw [X0.out, X1.out, X2.out, X3.out, X4.out, X5.out, (take_7 _ _ _ X7.out).2.1, (take_7 _ _ _ X7.out).2.2, XS.out, Y6.out, OS.out]; rfl
        · rw [(take_7 _ _ _ X7.out).1, XS.out, Y6.out, OS.out]
          exact e1.step (Below.refl _ _).drew
        · exact grown_below e2 (Below.refl _ _).drew
      · have s6 := S6.out wr hGH.out 6 (by omega)
        rw [EA6.out] at s6
        have u1 : a.block ≠ wr.heap.size := by omega
        have u2 : (1 : Int) ≤ ((c - 6 : Nat) : Int) := by omega
        have X8 := Lib.hid h8
        generalize hy6 : p.getD 6 ByteArray.empty = y6 at s6
        have Y6 := Lib.hid hy6
        clear hy6
        go_wp2_with fail
        refine (one_tot g M ls all last e6 p6 y6 (wr.heap.size + 1) 2 2 [wAuto, wReset] _ (hB.step (((Below.refl _ _).alloc (Nat.le_refl _) _).alloc (by simp) _)) rfl (by decide) (by intro j hj; have := lit_cells (wr.alloc (.cells #[.int .i64 x1, .int .i64 x2, .int .i64 x3, .int .i64 x4, .int .i64 x5, .bool false, .bool false] 35)) [wAuto, wReset] j hj; rw [World.size_alloc] at this; exact this)).mono ?_
        rintro e w2 ⟨rfl, hB2, hG2⟩
        obtain ⟨a0, a1, a2, hg2, hs2⟩ := after_one (by omega) hZ.out hN.out hGH.out hG2
        have s6 := S6.out w2 hg2 6 (by omega)
        rw [EA6.out, Y6.out] at s6
        have A0 := Lib.hid a0
        have A1 := Lib.hid a1
        have A2 := Lib.hid a2
        have HG2 := Lib.hid hg2
        clear a0 a1 a2 hg2 hG2 r0 r1 r2 r3 r4 r5 r6 z0 z1 z2 z3 z4 z5 z6 n0 n1 n2 n3 n4 n5
        generalize hos : oneStep last (e6, p6) [wAuto, wReset] y6 = os at *
        obtain ⟨v7, e7, p7⟩ := os
        have OS := Lib.hid hos
        clear hos
        simp only at hB2
        dsimp only
        go_wp2_with fail
        refine (one_tot g M ls all last e7 p7 y6 w2.heap.size 1 1 [wAuto] _ (hB2.step ((Below.refl _ _).alloc (Nat.le_refl _) _)) rfl (by decide) (lit_cells w2 [wAuto])).mono ?_
        rintro e w3 ⟨rfl, hB3, hG3⟩
        obtain ⟨a0, a1, a2, hg3, hs3⟩ := after_two (by omega) A0.out A1.out A2.out (by omega) HG2.out hG3
        have s7 := S6.out w3 hg3 7 (by have := X8.out; omega)
        rw [EA7.out] at s7
        generalize hy7 : p.getD 7 ByteArray.empty = y7 at s7
        have Y7 := Lib.hid hy7
        have B0 := Lib.hid a0
        have B1 := Lib.hid a1
        have B2 := Lib.hid a2
        have HG3 := Lib.hid hg3
        clear a0 a1 a2 hg3 hG3 s6 hy7
        generalize hos : oneStep last (e7, p7) [wAuto] y6 = os at *
        obtain ⟨v8, e8, p8⟩ := os
        have OS2 := Lib.hid hos
        clear hos
        simp only at hB3
        dsimp only
        go_wp2_with fail
        refine (one_tot g M ls all last e8 p8 y7 w3.heap.size 1 1 [wReset] _ (hB3.step ((Below.refl _ _).alloc (Nat.le_refl _) _)) rfl (by decide) (lit_cells w3 [wReset])).mono ?_
        rintro e w4 ⟨rfl, hB4, hG4⟩
        obtain ⟨a0, a1, a2, hg4, hs4⟩ := after_two (by omega) B0.out B1.out B2.out (by omega) HG3.out hG4
        obtain ⟨b0, b1, b2, b3, b4, b5, b6, k0, k1, k2, k3, k4, k5, k6, lb⟩ := cells7 a0
        obtain ⟨d0, d1, d2, d3, d4, d5, d6, m0, m1, m2, m3, m4, m5, m6, lc⟩ := cells7 a2
        have j0 : w4.cell? ⟨w.heap.size + 1, 0, none⟩ = some (.int .i64 x0) := by rw [blk_cell a1]; rfl
        have C0 := Lib.hid a0
        have C1 := Lib.hid a1
        have C2 := Lib.hid a2
        have HG4 := Lib.hid hg4
        clear a0 a1 a2 hg4 hG4 s7
        generalize hos : oneStep last (e8, p8) [wReset] y7 = os at *
        obtain ⟨v9, e9, p9⟩ := os
        have OS3 := Lib.hid hos
        clear hos
        simp only at hB4
        dsimp only
        go_wp2
        go_region
        go_wp2
        obtain ⟨e1, e2⟩ := take_end (w := w) (wr := (w4.setCell ⟨wr.heap.size, 5, none⟩ (.bool true)).setCell ⟨wr.heap.size, 6, none⟩ (.bool true)) ⟨hg1, hM1⟩
          (BK_setNew (BK_setNew hB4 (by omega) 5 _) (by omega) 6 _) (grown_setNew (grown_setNew HG4.out (by omega) 5 _) (by omega) 6 _)
          w.heap.size (Nat.le_refl _) (.int .i64 x1) (.int .i64 x2) (.int .i64 x3) (.int .i64 x4) (.int .i64 x5) (.bool true) (.bool true)
        refine bodyPost_ret (results_tc rfl _ _ w.heap.size 35 #[.int .i64 x1, .int .i64 x2, .int .i64 x3, .int .i64 x4, .int .i64 x5, .bool true, .bool true] (0, 0) _ rfl
          (blk_drew (fill7 _ w.heap.size (blk_far (blk_far C0.out (by simp; omega) _) (by simp; omega) _) _ _ _ _ _ _ _)) Tryd.underlying35 rfl (by kernel_rfl)) rfl ⟨?_, ?_, ?_⟩
        · rw [X0.out, X1.out, X2.out, X3.out, X4.out, X5.out, (take_8 _ _ _ X8.out).2.1, (take_8 _ _ _ X8.out).2.2]; rfl
        · rw [(take_8 _ _ _ X8.out).1, XS.out, Y6.out, Y7.out, OS.out]
          simp only [OS2.out, OS3.out]
          exact e1.step (Below.refl _ _).drew
        · exact grown_below e2 (Below.refl _ _).drew
end Go.Proofs.YtbhbpopebmdemaaDoor
