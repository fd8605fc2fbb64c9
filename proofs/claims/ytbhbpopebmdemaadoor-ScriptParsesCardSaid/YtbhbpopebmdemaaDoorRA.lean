import Derived.Test.YtbhbpopebmdemaaDoorB1
import Derived.Test.YtbhbpopebmdemaaDoorU3
import Derived.Test.YtbhbpopebmdemaaDoorPAx8
import Derived.Test.YtbhbpopebmdemaaDoorPAx9
import Derived.Test.YtbhbpopebmdemaaDoorC1
import Derived.Test.YtbhbpopebmdemaaDoorPAx14
import Derived.Test.YtbhbpopebmdemaaDoorPAx15
import Derived.Deep.RegionHeld3
import Derived.Test.YtbhbpopebmdemaaDoorB9
import Derived.Maps.AppendAt
namespace Go.Proofs.YtbhbpopebmdemaaDoor
open Go.RowKit Go.Proofs.YtbhbpopebmdemaaDoorW.PrintWords Go.Proofs.YtbhbpopebmdemaaDoorW.PrintLast Go.Proofs.YtbhbpopebmdemaaDoorW.PrintMore
open ChiPure Go.Lib
set_option linter.unusedVariables false
set_option linter.unusedSimpArgs false

/-! ### the reference's pieces -/
theorem r_toList_mk (w : List UInt8) : (mkS w).toList = w := by rw [ByteArray.toList_eq]; rfl
theorem r_toNat_eq {c : UInt8} {n : Nat} (hn : n < 256) : ((c.toNat : Int) = (n : Int)) ↔ c = UInt8.ofNat n := by
  constructor
  · intro h
    apply UInt8.toNat_inj.1
    rw [UInt8.toNat_ofNat']
    omega
  · intro h
    subst h
    rw [UInt8.toNat_ofNat']
    omega
theorem r_take_one (l : List UInt8) (i : Nat) (c : UInt8) (r : List UInt8) (h : l.drop i = c :: r) : (l.drop i).take (i + 1 - i) = [c] := by
  rw [h, Nat.add_sub_cancel_left]; rfl
theorem r_mk_app (a b : List UInt8) : mkS a ++ mkS b = mkS (a ++ b) := by
  apply ByteArray.ext
  simp [mkS]
theorem rpieces_l (s : ByteArray) (hs : s.size ≤ 8000000000000) : ∀ (d i k : Nat) (out : List ByteArray) (w : List UInt8), i + d = s.size → 3 * d + 3 ≤ k → out.length ≤ i → w.length ≤ i →
    PA.chicaneref36_Pieces.l0 k s out (mkS w) (i : Int) = some (out ++ (pcl w (s.data.toList.drop i)).map mkS)
  | 0, i, k, out, w, hi, hk, ho, hw => by
    obtain ⟨k1, rfl⟩ : ∃ k1, k = k1 + 1 + 1 := ⟨k - 2, by omega⟩
    have hd : s.data.toList.drop i = [] := by rw [List.drop_eq_nil_iff, data_len]; omega
    unfold PA.chicaneref36_Pieces.l0
    rw [if_neg (by omega)]
    unfold PA.chicaneref36_Pieces.j1
    rw [if_neg (by simp), r_toList_mk, hd]
    unfold pcl
    cases w with
    | nil => simp
    | cons b w' =>
      rw [if_neg (by simp), if_pos (by omega)]
      simp
  | d + 1, i, k, out, w, hi, hk, ho, hw => by
    obtain ⟨k1, rfl⟩ : ∃ k1, k = k1 + 1 + 1 + 1 := ⟨k - 3, by omega⟩
    have hlt : i < s.size := by omega
    have hb := bt_get s i hlt
    have hdr := bt_drop s i hlt
    generalize s.get! i = c at *
    have ih := fun (o : List ByteArray) (v : List UInt8) => rpieces_l s hs d (i + 1) k1 o v (by omega) (by omega)
    have hx : s.extract (i : Int).toNat ((i + 1 : Nat) : Int).toNat = mkS [c] := by
      rw [Int.toNat_natCast, Int.toNat_natCast, extract_data', r_take_one _ _ _ _ hdr]
    have h35 : ((c.toNat : Int) = 35) ↔ c = 35 := r_toNat_eq (n := 35) (by decide)
    have h32 : ((c.toNat : Int) = 32) ↔ c = 32 := r_toNat_eq (n := 32) (by decide)
    have h9 : ((c.toNat : Int) = 9) ↔ c = 9 := r_toNat_eq (n := 9) (by decide)
    have hsep : isSep c = true ↔ c = 32 ∨ c = 9 := by simp [isSep]
    have hwr : wrap64 ((i : Int) + 1) = ((i + 1 : Nat) : Int) := by unfold wrap64; omega
    rw [hdr]
    unfold PA.chicaneref36_Pieces.l0
    rw [if_pos (by omega), if_pos (by omega), hb]
    unfold PA.chicaneref36_Pieces.j1 pcl
    by_cases e35 : c = 35
    · rw [if_neg (by simp [h35.2 e35]), if_pos e35, r_toList_mk]
      cases w with
      | nil => simp
      | cons b w' =>
        rw [if_neg (by simp), if_pos (by omega)]
        simp
    · rw [if_pos (by simp; exact fun h => e35 (h35.1 h)), if_neg e35, if_pos (by omega), if_pos (by omega), hb]
      have hj2 : ∀ x : Bool, x = isSep c → PA.chicaneref36_Pieces.j2 (k1 + 1) s out (mkS w) (i : Int) x = some (out ++ ((if isSep c = true then (if w.isEmpty = true then pcl [] (s.data.toList.drop (i + 1)) else w :: pcl [] (s.data.toList.drop (i + 1))) else pcl (w ++ [c]) (s.data.toList.drop (i + 1)))).map mkS) := by
        intro x hxe
        subst hxe
        unfold PA.chicaneref36_Pieces.j2
        rw [hwr]
        by_cases hse : isSep c = true
        · rw [if_pos hse, if_pos hse, r_toList_mk]
          cases w with
          | nil =>
            rw [if_pos rfl, show (⟨#[]⟩ : ByteArray) = mkS [] from rfl, ih out [] (by omega) (by simp)]
            rfl
          | cons b w' =>
            rw [if_neg (by simp), if_pos (by omega), show (⟨#[]⟩ : ByteArray) = mkS [] from rfl, ih _ [] (by simp; omega) (by simp)]
            simp
        · rw [if_neg hse, if_neg hse, if_pos (by omega), if_pos (by omega), if_pos (by omega), hx, if_pos (by show w.length + 1 ≤ _; omega), r_mk_app, ih out _ (by omega) (by simp; omega)]
      by_cases e32 : c = 32
      · rw [if_pos (h32.2 e32)]
        exact hj2 true (hsep.2 (.inl e32)).symm
      · rw [if_neg (fun h => e32 (h32.1 h))]
        refine hj2 _ ?_
        by_cases e9 : c = 9
        · rw [hsep.2 (.inr e9)]
          simp [h9.2 e9]
        · have : isSep c = false := by
            rw [Bool.eq_false_iff]
            intro h
            rcases hsep.1 h with h | h
            · exact e32 h
            · exact e9 h
          rw [this, beq_eq_false_iff_ne]
          exact fun h => e9 (h9.1 h)
theorem rpieces_spec (s : ByteArray) (hs : s.size ≤ 8000000000000) : PA.chicaneref36_Pieces.f (3 * s.size + 3) s = some (pcs s) := by
  unfold PA.chicaneref36_Pieces.f pcs
  rw [show (⟨#[]⟩ : ByteArray) = mkS [] from rfl]
  exact rpieces_l s hs s.size 0 (3 * s.size + 3) [] [] (by omega) (by omega) (by simp) (by simp)
theorem rpieces_any (s : ByteArray) (hs : s.size ≤ 8000000000000) (w : World) :
    Calls Tryd.prog 24 #[.string s] w fun e w' => ∃ v0_ : Value, e = .returned (v0_) ∧ Kd.R Kd.string 9 w' w.heap.size (fun _ => True) v0_ (pcs s) ∧ Below w.heap.size w w' :=
  PA.chicaneref36_Pieces.calls _ s (pcs s) w (rpieces_spec s hs)

/-! ### the reference's lines -/
theorem rlines_l (s : ByteArray) (hs : s.size ≤ 8000000000000) : ∀ (d i a k : Nat) (out : List ByteArray), i + d = s.size → a ≤ i → 2 * d + 4 ≤ k → out.length ≤ i →
    PA.chicaneref36_Lines.l0 k s out (a : Int) (i : Int) = some (out ++ (lnl ((s.data.toList.drop a).take (i - a)) (s.data.toList.drop i)).map mkS)
  | 0, i, a, k, out, hi, ha, hk, ho => by
    obtain ⟨k1, rfl⟩ : ∃ k1, k = k1 + 1 + 1 + 1 := ⟨k - 3, by omega⟩
    have hd : s.data.toList.drop i = [] := by rw [List.drop_eq_nil_iff, data_len]; omega
    have hwr : wrap64 ((i : Int) + 1) = ((i + 1 : Nat) : Int) := by unfold wrap64; omega
    have hl : ((s.data.toList.drop a).take (i - a)).length = i - a := by rw [List.length_take, List.length_drop, data_len]; omega
    unfold PA.chicaneref36_Lines.l0
    rw [if_pos (by omega), if_pos (by omega), hd]
    unfold PA.chicaneref36_Lines.j1 lnl
    by_cases e : a = s.size
    · have he : ((a : Int) == (s.size : Int)) = true := by simp [e]
      have hw : (s.data.toList.drop a).take (i - a) = [] := by rw [← List.length_eq_zero_iff, hl]; omega
      rw [if_pos he, hw]
      simp
    · have he : ¬ ((a : Int) == (s.size : Int)) = true := by simp; omega
      have hw : ((s.data.toList.drop a).take (i - a)).isEmpty = false := by
        rw [List.isEmpty_eq_false_iff]
        intro h
        rw [h] at hl
        simp at hl
        omega
      rw [if_neg he, if_pos (by omega), if_pos (by omega), if_pos (by omega), if_pos (by omega), if_pos (by omega), hwr, hw]
      unfold PA.chicaneref36_Lines.l0
      rw [if_neg (by omega), Int.toNat_natCast, Int.toNat_natCast, extract_data']
      simp
  | d + 1, i, a, k, out, hi, ha, hk, ho => by
    obtain ⟨k1, rfl⟩ : ∃ k1, k = k1 + 1 + 1 := ⟨k - 2, by omega⟩
    have hlt : i < s.size := by omega
    have hb := bt_get s i hlt
    have hdr := bt_drop s i hlt
    generalize s.get! i = c at *
    have h10 : ((c.toNat : Int) = 10) ↔ c = 10 := r_toNat_eq (n := 10) (by decide)
    have hwr : wrap64 ((i : Int) + 1) = ((i + 1 : Nat) : Int) := by unfold wrap64; omega
    rw [hdr]
    unfold PA.chicaneref36_Lines.l0
    rw [if_pos (by omega), if_neg (by omega)]
    unfold PA.chicaneref36_Lines.j1 lnl
    rw [if_neg (by simp), if_neg (by omega), if_pos (by omega), if_pos (by omega), hb, hwr]
    by_cases e : c = 10
    · rw [if_pos (h10.2 e), if_pos e, if_pos (by omega), if_pos (by omega), if_pos (by omega), if_pos (by omega), Int.toNat_natCast, Int.toNat_natCast, extract_data',
        rlines_l s hs d (i + 1) (i + 1) k1 _ (by omega) (by omega) (by omega) (by simp; omega)]
      simp
    · rw [if_neg (fun h => e (h10.1 h)), if_neg e, rlines_l s hs d (i + 1) a k1 out (by omega) (by omega) (by omega) (by omega)]
      have : (s.data.toList.drop a).take (i + 1 - a) = (s.data.toList.drop a).take (i - a) ++ [c] := by
        rw [show i + 1 - a = (i - a) + 1 by omega, List.take_add_one, List.getElem?_drop, show a + (i - a) = i by omega]
        have hg := congrArg List.head? hdr
        rw [List.head?_drop, List.head?_cons] at hg
        rw [hg]
        rfl
      rw [this]
theorem rlines_spec (s : ByteArray) (hs : s.size ≤ 8000000000000) : PA.chicaneref36_Lines.f (2 * s.size + 4) s = some (lns s) := by
  unfold PA.chicaneref36_Lines.f lns
  exact rlines_l s hs s.size 0 0 (2 * s.size + 4) [] (by omega) (by omega) (by omega) (by simp)
theorem rlines_any (s : ByteArray) (hs : s.size ≤ 8000000000000) (w : World) :
    Calls Tryd.prog 26 #[.string s] w fun e w' => ∃ v0_ : Value, e = .returned (v0_) ∧ Kd.R Kd.string 9 w' w.heap.size (fun _ => True) v0_ (lns s) ∧ Below w.heap.size w w' :=
  PA.chicaneref36_Lines.calls _ s (lns s) w (rlines_spec s hs)
end Go.Proofs.YtbhbpopebmdemaaDoor

namespace Go.Proofs.YtbhbpopebmdemaaDoor
open Go.RowKit Go.Proofs.YtbhbpopebmdemaaDoorW.PrintWords Go.Proofs.YtbhbpopebmdemaaDoorW.PrintLast Go.Proofs.YtbhbpopebmdemaaDoorW.PrintMore
open ChiPure Go.Lib Go.Shelf
set_option linter.unusedVariables false
set_option linter.unusedSimpArgs false

/-! ### the reference's book -/
/-- the next line with pieces, from p on. -/
def skipF (L : List ByteArray) : Nat → Nat → Nat
  | 0, p => p
  | f + 1, p => if pcs (L.getD p ByteArray.empty) = [] then skipF L f (p + 1) else p
theorem skipF_le (L : List ByteArray) : ∀ f p, p ≤ skipF L f p ∧ skipF L f p ≤ p + f
  | 0, p => ⟨Nat.le_refl _, Nat.le_refl _⟩
  | f + 1, p => by
    unfold skipF
    split
    · have := skipF_le L f (p + 1); omega
    · omega
/-- The reference's book in memory: its lines came in by w0. -/
def RB (w0 W : World) (g : Nat) (L : List ByteArray) (pos : Nat) (last err place : Int) : Prop :=
  PA.IsS56 w0 W g L (pos : Int) last err place ∧ Below w0.heap.size w0 W ∧ pos ≤ L.length
theorem RB.keep {w0 W W1 : World} {g : Nat} {L : List ByteArray} {pos : Nat} {last err place : Int} (h : RB w0 W g L pos last err place) (hb : Below W.heap.size W W1) : RB w0 W1 g L pos last err place :=
  ⟨h.1.below hb, h.2.1.trans (hb.mono h.2.1.size), h.2.2⟩
theorem RB.lt {w0 W : World} {g : Nat} {L : List ByteArray} {pos : Nat} {last err place : Int} (h : RB w0 W g L pos last err place) : g < W.heap.size := h.1.lt
/-- a line's cell. -/
theorem RB.line {w0 W : World} {g : Nat} {L : List ByteArray} {pos : Nat} {last err place : Int} (h : RB w0 W g L pos last err place) (hp : pos < L.length) :
    ∃ ad c, W.cell? ⟨g, 0, none⟩ = some (.slice (some ad) L.length c) ∧ W.cell? ⟨g, 1, none⟩ = some (.int .i64 (pos : Int)) ∧ W.cell? (ad.add pos) = some (.string (L.getD pos ByteArray.empty)) := by
  obtain ⟨⟨A0, c0, HG, hg, hC⟩, hB, _⟩ := h
  obtain ⟨ad, rfl, hx⟩ := Kd.at_string hC (pos : Int) (by omega) (by omega)
  rw [Int.toNat_natCast] at hx
  have hlt := World.block_lt_of_cell? w0 _ hx
  refine ⟨ad, c0, PA.cellS56_0 HG, PA.cellS56_1 HG, (hB.cell (p := ad.add pos) hlt).trans ?_⟩
  rw [hx]
  unfold rdOf
  rw [Int.toNat_natCast]

def SkR (w0 w : World) (g : Nat) (L : List ByteArray) (tgt : Nat) (last err place : Int) (kq : Nat) (wr : World) : Prop :=
  ∃ q, kq + q = L.length ∧ skipF L kq q = tgt ∧ RB w0 wr g L q last err place ∧ KeepBut w wr g none

theorem wrapI' (n : Int) (h1 : -9223372036854775808 ≤ n) (h2 : n ≤ 9223372036854775807) : IntKind.i64.wrap n = n := by
  simp only [IntKind.wrap, show IntKind.i64.signed = true from rfl, show IntKind.i64.bits = 64 from rfl, Bool.true_and, decide_eq_true_eq]
  split <;> omega
set_option maxRecDepth 100000 in
set_option maxHeartbeats 4000000 in
theorem skip_any (w0 w : World) (g : Nat) (L : List ByteArray) (hLl : L.length ≤ 4294967296) (hL : ∀ k, k < L.length → (L.getD k ByteArray.empty).size ≤ 8000000000000) (pos : Nat) (last err place : Int) (h : RB w0 w g L pos last err place) :
    Calls Tryd.prog 76 #[.pointer (some ⟨g, 0, none⟩)] w fun e w' => e = .returned (.tuple #[]) ∧ RB w0 w' g L (skipF L (L.length - pos) pos) last err place ∧ KeepBut w w' g none := by
  have hpl := h.2.2
  have H := Lib.hid h
  clear h
  go_enter Tryd.func76, Tryd.ntmps76
  go_wp2_with fail
  go_loopg [] (L.length - pos) (fun kq wr => Hid (SkR w0 w g L (skipF L (L.length - pos) pos) last err place kq wr))
  case atStart => exact ⟨pos, by omega, rfl, H.out, KeepBut.refl w g none⟩
  case round =>
    have hrel' := hrel.out
    clear hrel
    obtain ⟨q, hq, hsk, hRB, hKB⟩ := hrel'
    cases gk with
    | zero =>
      have hq0 : q = L.length := by omega
      have hRB0 := hRB
      obtain ⟨⟨A0, c0, HG, hg, hC⟩, hB, _⟩ := hRB
      have x0 := PA.cellS56_0 HG
      have x1 := PA.cellS56_1 HG
      have hlt1 : decide ((q : Int) < (L.length : Int)) = false := by simp; omega
      have hlt2 : decide (q < L.length) = false := by simp; omega
      have HR := Lib.hid hRB0
      have HK := Lib.hid hKB
      have HSK := Lib.hid hsk
      clear hRB0 hKB HG hC hB hsk hq0
      go_wp2_with fail
      go_quiet (fail)
      go_wp2_with fail
      go_end0
      refine ⟨rfl, ?_, ?_⟩
      · rw [← HSK.out]
        exact HR.out.keep (pw_below_drewN (Below.refl _ _) _)
      · exact keep_drewN HK.out _
    | succ k1 => 
      obtain ⟨ad, c, x0, x1, x2⟩ := hRB.line (by omega)
      have hlt1 : decide ((q : Int) < (L.length : Int)) = true := by simp; omega
      have hlt2 : decide (q < L.length) = true := by simp; omega
      have hltq : (q : Int) < (L.length : Int) := by omega
      have hq0 : (0 : Int) ≤ (q : Int) := by omega
      have hlt3 : decide ((0 : Int) ≤ (q : Int)) = true := by simp
      have hsz := hL q (by omega)
      generalize hs : L.getD q ByteArray.empty = s at *
      have HR := Lib.hid hRB
      have HK := Lib.hid hKB
      have HSK := Lib.hid hsk
      have HS := Lib.hid hs
      clear hRB hKB hsk hs
      have l0 := World.block_lt_of_cell? wr _ x0
      have l2 := World.block_lt_of_cell? wr _ x2
      have hcall := fun W => rpieces_any s hsz W
      have hpn : (pcs s = []) ∨ ¬ (pcs s = []) := Classical.em _
      have HP : ∃ P, pcs s = P := ⟨_, rfl⟩
      obtain ⟨P, hP⟩ := HP
      rw [hP] at hpn hcall
      rcases hpn with hpn | hpn
      · have hz : (((P.length : Nat) : Int) == 0) = true := by simp [hpn]
        have HPE := Lib.hid hpn
        have HPP := Lib.hid hP
        clear hP hpn
        go_wp2_with fail
        go_region_held3 (fun w' => w'.cell? ⟨g, 0, none⟩ = some (.slice (some ad) L.length c) ∧ w'.cell? ⟨g, 1, none⟩ = some (.int .i64 (q : Int)) ∧ w'.cell? (ad.add q) = some (.string s) ∧ Below wr.heap.size wr w') (first
            | exact ⟨x0, x1, x2, below_drew (Below.refl _ _)⟩
            | exact ⟨(hb.cell (p := ⟨g, 0, none⟩) l0).trans x0, (hb.cell (p := ⟨g, 1, none⟩) l0).trans x1, (hb.cell (p := ad.add q) l2).trans x2, (below_drew (Below.refl _ _)).trans hb⟩) (first | (go_at_call 24; refine (hcall _).mono ?_; rintro e w' ⟨v, rfl, hR, hb⟩; obtain ⟨Ap, cp, rfl⟩ := Kd.R_slice hR; clear hR))
        have hbw : Below wr.heap.size wr w' := (below_drew (Below.refl _ _)).trans hb
        have hRB2 := HR.out.keep hbw
        have hKB2 := HK.out.trans (KeepBut.of_below hbw g none) (.inl rfl)
        have hRB3 := hRB2
        obtain ⟨⟨A1, c1, HG1, hg1, hC1⟩, hB1, hl1⟩ := hRB3
        have y1 := PA.cellS56_1 HG1
        have f1 := blk_frozen HG1 1
        have HR2 := Lib.hid hRB2
        have HK2 := Lib.hid hKB2
        clear hRB2 hKB2 HG1 hg1 hC1 hB1 hl1 hb hbw
        go_wp2_with fail
        go_roundg k1
        case measure => omega
        case rel =>
          have hst : IntKind.i64.wrap ((q : Int) + 1) = ((q + 1 : Nat) : Int) := by rw [wrapI' _ (by omega) (by omega)]; omega
          have hr := HR2.out
          refine ⟨q + 1, by omega, ?_, ⟨?_, ?_, by omega⟩, ?_⟩
          · rw [← HSK.out]
            conv => rhs; unfold skipF
            rw [HS.out, HPP.out, if_pos HPE.out]
          · first
              | exact hr.1.set_1 _
              | (rw [← hst]; exact hr.1.set_1 _)
          · exact below_set hr.2.1 hr.1.ge
          · exact HK2.out.set_ _ _
      · have hz : (((P.length : Nat) : Int) == 0) = false := by simp [hpn]
        have HPE := Lib.hid hpn
        have HPP := Lib.hid hP
        clear hP hpn
        go_wp2_with fail
        go_region_held3 (fun w' => w'.cell? ⟨g, 0, none⟩ = some (.slice (some ad) L.length c) ∧ w'.cell? ⟨g, 1, none⟩ = some (.int .i64 (q : Int)) ∧ w'.cell? (ad.add q) = some (.string s) ∧ Below wr.heap.size wr w') (first
            | exact ⟨x0, x1, x2, below_drew (Below.refl _ _)⟩
            | exact ⟨(hb.cell (p := ⟨g, 0, none⟩) l0).trans x0, (hb.cell (p := ⟨g, 1, none⟩) l0).trans x1, (hb.cell (p := ad.add q) l2).trans x2, (below_drew (Below.refl _ _)).trans hb⟩) (first | (go_at_call 24; refine (hcall _).mono ?_; rintro e w' ⟨v, rfl, hR, hb⟩; obtain ⟨Ap, cp, rfl⟩ := Kd.R_slice hR; clear hR))
        have hbw : Below wr.heap.size wr w' := (below_drew (Below.refl _ _)).trans hb
        have hRB2 := HR.out.keep hbw
        have hKB2 := HK.out.trans (KeepBut.of_below hbw g none) (.inl rfl)
        have HR2 := Lib.hid hRB2
        have HK2 := Lib.hid hKB2
        clear hRB2 hKB2 hb hbw
        go_wp2_with fail
        go_end0
        refine ⟨rfl, ?_, HK2.out⟩
        rw [← HSK.out]
        have : skipF L (k1 + 1) q = q := by
          unfold skipF
          rw [HS.out, HPP.out, if_neg HPE.out]
        rw [this]
        exact HR2.out
end Go.Proofs.YtbhbpopebmdemaaDoor

namespace Go.Proofs.YtbhbpopebmdemaaDoor
open Go.RowKit Go.Proofs.YtbhbpopebmdemaaDoorW.PrintWords Go.Proofs.YtbhbpopebmdemaaDoorW.PrintLast Go.Proofs.YtbhbpopebmdemaaDoorW.PrintMore
open ChiPure Go.Lib Go.Shelf
set_option linter.unusedVariables false
set_option linter.unusedSimpArgs false

/-! ### the lines that are left -/
def bkF (L : List ByteArray) : Nat → Nat → List S107
  | 0, _ => []
  | f + 1, p => if pcs (L.getD p ByteArray.empty) = [] then bkF L f (p + 1) else ⟨(p : Int) + 1, pcs (L.getD p ByteArray.empty)⟩ :: bkF L f (p + 1)
theorem bkF_snoc (L : List ByteArray) : ∀ f p, bkF L (f + 1) p = bkF L f p ++ (if pcs (L.getD (p + f) ByteArray.empty) = [] then [] else [⟨((p + f : Nat) : Int) + 1, pcs (L.getD (p + f) ByteArray.empty)⟩])
  | 0, p => by
    simp only [bkF, Nat.add_zero, List.nil_append]
  | f + 1, p => by
    conv => lhs; unfold bkF
    rw [bkF_snoc L f (p + 1)]
    conv => rhs; unfold bkF
    rw [show p + 1 + f = p + (f + 1) by omega]
    split <;> simp
theorem bkTo_bkF (L : List ByteArray) : ∀ k, bkTo L k = bkF L k 0
  | 0 => rfl
  | k + 1 => by
    rw [bkF_snoc, ← bkTo_bkF L k]
    simp only [bkTo, Nat.zero_add]
theorem bkF_skip (L : List ByteArray) : ∀ f p, bkF L f p = bkF L (p + f - skipF L f p) (skipF L f p) ∧ (skipF L f p < p + f → pcs (L.getD (skipF L f p) ByteArray.empty) ≠ [])
  | 0, p => by simp [bkF, skipF]
  | f + 1, p => by
    by_cases h : pcs (L.getD p ByteArray.empty) = []
    · have e1 : bkF L (f + 1) p = bkF L f (p + 1) := by conv => lhs; unfold bkF; rw [if_pos h]
      have e2 : skipF L (f + 1) p = skipF L f (p + 1) := by conv => lhs; unfold skipF; rw [if_pos h]
      rw [e1, e2, show p + (f + 1) = p + 1 + f by omega]
      exact bkF_skip L f (p + 1)
    · have e2 : skipF L (f + 1) p = p := by unfold skipF; rw [if_neg h]
      rw [e2]
      exact ⟨by rw [Nat.add_sub_cancel_left], fun _ => h⟩

/-- The reference's book is this book. -/
def RS (w0 W : World) (g : Nat) (L : List ByteArray) (b : BS) : Prop := ∃ pos, RB w0 W g L pos b.last b.err b.place ∧ b.ls = bkF L (L.length - pos) pos

/-- lines that may be. -/
def LOk (L : List ByteArray) : Prop := L.length ≤ 4294967296 ∧ ∀ k, k < L.length → (L.getD k ByteArray.empty).size ≤ 8000000000000

theorem skip_end {L : List ByteArray} {pos : Nat} (hp : pos ≤ L.length) (h : bkF L (L.length - pos) pos = []) : skipF L (L.length - pos) pos = L.length := by
  obtain ⟨h1, h2⟩ := bkF_skip L (L.length - pos) pos
  obtain ⟨h3, h4⟩ := skipF_le L (L.length - pos) pos
  generalize skipF L (L.length - pos) pos = q at *
  rw [show pos + (L.length - pos) = L.length by omega] at *
  by_cases hq : q = L.length
  · exact hq
  · rw [h] at h1
    obtain ⟨f, hf⟩ : ∃ f, L.length - q = f + 1 := ⟨L.length - q - 1, by omega⟩
    rw [hf] at h1
    unfold bkF at h1
    rw [if_neg (h2 (by omega))] at h1
    cases h1
theorem skip_at {L : List ByteArray} {pos : Nat} {x : S107} {r : List S107} (hp : pos ≤ L.length) (h : bkF L (L.length - pos) pos = x :: r) :
    ∃ q, skipF L (L.length - pos) pos = q ∧ q < L.length ∧ x = ⟨(q : Int) + 1, pcs (L.getD q ByteArray.empty)⟩ ∧ r = bkF L (L.length - (q + 1)) (q + 1) ∧ x.f1 ≠ [] := by
  obtain ⟨h1, h2⟩ := bkF_skip L (L.length - pos) pos
  obtain ⟨h3, h4⟩ := skipF_le L (L.length - pos) pos
  refine ⟨_, rfl, ?_⟩
  generalize skipF L (L.length - pos) pos = q at *
  rw [show pos + (L.length - pos) = L.length by omega] at *
  rw [h] at h1
  have hq : q < L.length := by
    by_cases hq : q = L.length
    · subst hq; rw [Nat.sub_self] at h1; cases h1
    · omega
  obtain ⟨f, hf⟩ : ∃ f, L.length - q = f + 1 := ⟨L.length - q - 1, by omega⟩
  have hne := h2 hq
  rw [hf] at h1
  unfold bkF at h1
  rw [if_neg hne] at h1
  injection h1 with e1 e2
  subst e1
  exact ⟨hq, rfl, by rw [e2, show L.length - (q + 1) = f by omega], hne⟩

/-! ### Take -/
/-- what a line that was asked for is. -/
def RTake (g : Nat) (r : Option (List ByteArray)) (w' : World) (e : Ending) : Prop :=
  ∃ A c, e = .returned (.slice A (r.getD []).length c) ∧ (r.getD []).length ≤ c ∧ Kd.C Kd.string w' A (r.getD []).length (r.getD []) ∧ (∀ ad, A = some ad → 0 < (r.getD []).length → ad.block ≠ g)
theorem RTake.none_ (g : Nat) (w' : World) : RTake g none w' (.returned (.slice none 0 0)) := ⟨none, 0, rfl, Nat.le_refl _, Kd.C_nil _ _, fun ad h => by cases h⟩

theorem rtake_err (w0 w : World) (g : Nat) (L : List ByteArray) (pos : Nat) (last err place least most : Int) (word : ByteArray) (h : RB w0 w g L pos last err place) (he : err ≠ 0) :
    Calls Tryd.prog 37 #[.pointer (some ⟨g, 0, none⟩), .string word, .int .i64 least, .int .i64 most] w fun e w' => e = .returned (.slice none 0 0) ∧ w' = w := by
  obtain ⟨⟨A0, c0, HG, hg, hC⟩, hB, hp⟩ := h
  have x3 := PA.cellS56_3 HG
  have b1 : (err != 0) = true := by simp [he]
  clear he HG hg hC hB hp
  go_enter Tryd.func37, Tryd.ntmps37
  go_wp2_with fail
  go_ret
  exact ⟨rfl, rfl⟩

set_option maxRecDepth 100000 in
set_option maxHeartbeats 4000000 in
theorem rtake_short (w0 w : World) (g : Nat) (L : List ByteArray) (hL : LOk L) (pos : Nat) (last place least most : Int) (word : ByteArray) (h : RB w0 w g L pos last 0 place) (hls : bkF L (L.length - pos) pos = []) :
    Calls Tryd.prog 37 #[.pointer (some ⟨g, 0, none⟩), .string word, .int .i64 least, .int .i64 most] w fun e w' => e = .returned (.slice none 0 0) ∧ RB w0 w' g L L.length last 20 ((L.length : Int) + 1) ∧ KeepBut w w' g none := by
  have hsk := skip_any w0 w g L hL.1 hL.2 pos last 0 place h
  rw [skip_end h.2.2 hls] at hsk
  have hlen := hL.1
  obtain ⟨⟨A0, c0, HG, hg, hC⟩, hB, hp⟩ := h
  have x3 := PA.cellS56_3 HG
  clear HG hg hC hB hls hL
  go_enter Tryd.func37, Tryd.ntmps37
  go_wp2_with fail
  refine hsk.mono ?_
  rintro e w1 ⟨rfl, hRB, hK⟩
  clear hsk x3
  have hfl := PA.chicaneref36_B_fail.calls g L (L.length : Int) last 0 place 20 ((L.length : Int) + 1) (L.length : Int) last 20 ((L.length : Int) + 1) w0
  have hRB1 := hRB
  obtain ⟨⟨A0, c0, HG, hg, hC⟩, hB, hp⟩ := hRB
  have x0 := PA.cellS56_0 HG
  have x1 := PA.cellS56_1 HG
  have hle : decide (L.length ≤ L.length) = true := by simp
  have hle2 : decide ((L.length : Int) ≤ (L.length : Int)) = true := by simp
  have HR := Lib.hid hRB1
  have HK := Lib.hid hK
  have HL := Lib.hid hlen
  clear hRB1 hK HG hg hC hB hp hlen
  have hl0 : (0 : Int) ≤ (L.length : Int) := by omega
  have hl1 : (L.length : Int) ≤ 4294967296 := by have := HL.out; omega
  go_wp2_with fail
  go_quiet (fail)
  go_wp2_with fail
  have hr := HR.out.keep (pw_below_drewN (Below.refl _ _) nq)
  refine (hfl _ hr.1 hr.2.1 rfl).mono ?_
  rintro e w2 ⟨rfl, hI, hB2, hK2⟩
  clear hfl
  go_wp2_with fail
  go_ret
  exact ⟨rfl, ⟨hI, hB2, Nat.le_refl _⟩, (keep_drewN HK.out _).trans hK2 (.inl rfl)⟩

set_option maxRecDepth 100000 in
set_option maxHeartbeats 4000000 in
theorem rtake_magic (w0 w : World) (g : Nat) (L : List ByteArray) (hL : LOk L) (pos : Nat) (last place least most : Int) (word : ByteArray) (h : RB w0 w g L pos last 0 place) (q : Nat) (hsq : skipF L (L.length - pos) pos = q) (hq : q < L.length) (p : ByteArray) (ps : List ByteArray)
    (hP : pcs (L.getD q ByteArray.empty) = p :: ps) (hpl : ps.length ≤ 4294967296) (hw : p ≠ word) :
    Calls Tryd.prog 37 #[.pointer (some ⟨g, 0, none⟩), .string word, .int .i64 least, .int .i64 most] w fun e w' => e = .returned (.slice none 0 0) ∧ RB w0 w' g L q last 21 ((q : Int) + 1) ∧ KeepBut w w' g none := by
  have hsk := skip_any w0 w g L hL.1 hL.2 pos last 0 place h
  rw [hsq] at hsk
  have hlen := hL.1
  have hsz := hL.2 q hq
  have hwb : (p.toList == word.toList) = false := by
    rw [beq_eq_false_iff_ne]; intro he; apply hw; rw [ByteArray.toList_eq, ByteArray.toList_eq] at he; exact ByteArray.ext (Array.ext' he)
  have hwc : (p.toList != word.toList) = true := by rw [bne, hwb]; rfl
  clear hw
  obtain ⟨⟨A0, c0, HG, hg, hC⟩, hB, hp⟩ := h
  have x3 := PA.cellS56_3 HG
  clear HG hg hC hB hL hsq
  go_enter Tryd.func37, Tryd.ntmps37
  go_wp2_with fail
  refine hsk.mono ?_
  rintro e w1 ⟨rfl, hRB, hK⟩
  clear hsk x3
  obtain ⟨ad, c, x0, x1, x2⟩ := hRB.line hq
  have hcall := fun W => rpieces_any (L.getD q ByteArray.empty) hsz W
  rw [hP] at hcall
  generalize L.getD q ByteArray.empty = s at *
  have hlt2 : decide (L.length ≤ q) = false := by simp; omega
  have hlt3 : decide ((L.length : Int) ≤ (q : Int)) = false := by simp; omega
  have hltq : (q : Int) < (L.length : Int) := by omega
  have hq0 : (0 : Int) ≤ (q : Int) := by omega
  have hqb : (q : Int) ≤ 4294967296 := by omega
  have hpb : ((ps.length : Nat) : Int) ≤ 4294967296 := by omega
  have hpb0 : (0 : Int) ≤ ((ps.length : Nat) : Int) := by omega
  have l0 := World.block_lt_of_cell? w1 _ x0
  have l2 := World.block_lt_of_cell? w1 _ x2
  have HR := Lib.hid hRB
  have HK := Lib.hid hK
  have HP := Lib.hid hP
  clear hRB hK hP hlen hsz
  go_wp2_with fail
  go_quiet (fail)
  go_wp2_with fail
  go_region_held3 (fun w' => w'.cell? ⟨g, 0, none⟩ = some (.slice (some ad) L.length c) ∧ w'.cell? ⟨g, 1, none⟩ = some (.int .i64 (q : Int)) ∧ w'.cell? (ad.add q) = some (.string s) ∧ Below w1.heap.size w1 w')
    (first
      | exact ⟨x0, x1, x2, below_drew (pw_below_drewN (Below.refl _ _) _)⟩
      | exact ⟨(hb.cell (p := ⟨g, 0, none⟩) l0).trans x0, (hb.cell (p := ⟨g, 1, none⟩) l0).trans x1, (hb.cell (p := ad.add q) l2).trans x2, (below_drew (pw_below_drewN (Below.refl _ _) _)).trans hb⟩)
    (first | (go_at_call 24; refine (hcall _).mono ?_; rintro e w' ⟨v, rfl, hR, hb⟩; obtain ⟨Ap, cp, rfl, hcp, hCp⟩ := Kd.R_reads hR))
  have hFp : Kd.F Kd.string w' (fun k => w1.heap.size ≤ k) Ap (p :: ps).length (p :: ps) := Kd.F_mono (Kd.R_F (Kd.R_bound hR)) (fun k hk => hk.2.1)
  have hbw : Below w1.heap.size w1 w' := (below_drew (pw_below_drewN (Below.refl _ _) _)).trans hb
  have hRB2 := HR.out.keep hbw
  have hKB2 := HK.out.trans (KeepBut.of_below hbw g none) (.inl rfl)
  have hRB3 := hRB2
  obtain ⟨⟨A1, c1, HG1, hg1, hC1⟩, hB1, hl1⟩ := hRB3
  have y1 := PA.cellS56_1 HG1
  have y2 := PA.cellS56_2 HG1
  have f1 := blk_frozen HG1 1
  have f2 := blk_frozen HG1 2
  obtain ⟨ap, rfl, z0⟩ := Kd.at_string hCp 0 (by omega) (by simp only [List.length_cons]; omega)
  have z1 : w'.cell? ap = some (.string p) := by
    have e0 : ap.add (0 : Int).toNat = ap := rfl
    rw [e0] at z0
    exact z0
  have HR2 := Lib.hid hRB2
  have HK2 := Lib.hid hKB2
  have HFP := Lib.hid hFp
  have HHB := Lib.hid hbw
  clear hRB2 hKB2 HG1 hg1 hC1 hB1 hl1 hb hbw hFp hCp hR z0
  simp only [List.length_cons] at hcp ⊢
  have hfl := PA.chicaneref36_B_fail.calls g L (q : Int) last 0 place 21 ((q : Int) + 1) (q : Int) last 21 ((q : Int) + 1) w0 w' HR2.out.1 HR2.out.2.1 rfl
  go_wp2_with fail
  refine hfl.mono ?_
  rintro e w2 ⟨rfl, hI, hB2, hK2⟩
  clear hfl
  go_wp2_with fail
  go_ret
  exact ⟨rfl, ⟨hI, hB2, by omega⟩, HK2.out.trans hK2 (.inl rfl)⟩

set_option maxRecDepth 100000 in
set_option maxHeartbeats 4000000 in
theorem rtake_few (w0 w : World) (g : Nat) (L : List ByteArray) (hL : LOk L) (pos : Nat) (last place least most : Int) (word : ByteArray) (h : RB w0 w g L pos last 0 place) (q : Nat) (hsq : skipF L (L.length - pos) pos = q) (hq : q < L.length) (p : ByteArray) (ps : List ByteArray)
    (hP : pcs (L.getD q ByteArray.empty) = p :: ps) (hpl : ps.length ≤ 4294967296) (hw : p = word) (hlo : (ps.length : Int) < least) :
    Calls Tryd.prog 37 #[.pointer (some ⟨g, 0, none⟩), .string word, .int .i64 least, .int .i64 most] w fun e w' => e = .returned (.slice none 0 0) ∧ RB w0 w' g L q last 22 ((q : Int) + 1) ∧ KeepBut w w' g none := by
  have hsk := skip_any w0 w g L hL.1 hL.2 pos last 0 place h
  rw [hsq] at hsk
  have hlen := hL.1
  have hsz := hL.2 q hq
  subst hw
  have hlo2 : decide ((ps.length : Int) < least) = true := by simp; omega
  obtain ⟨⟨A0, c0, HG, hg, hC⟩, hB, hp⟩ := h
  have x3 := PA.cellS56_3 HG
  clear HG hg hC hB hL hsq
  go_enter Tryd.func37, Tryd.ntmps37
  go_wp2_with fail
  refine hsk.mono ?_
  rintro e w1 ⟨rfl, hRB, hK⟩
  clear hsk x3
  obtain ⟨ad, c, x0, x1, x2⟩ := hRB.line hq
  have hcall := fun W => rpieces_any (L.getD q ByteArray.empty) hsz W
  rw [hP] at hcall
  generalize L.getD q ByteArray.empty = s at *
  have hlt2 : decide (L.length ≤ q) = false := by simp; omega
  have hlt3 : decide ((L.length : Int) ≤ (q : Int)) = false := by simp; omega
  have hltq : (q : Int) < (L.length : Int) := by omega
  have hq0 : (0 : Int) ≤ (q : Int) := by omega
  have hqb : (q : Int) ≤ 4294967296 := by omega
  have hpb : ((ps.length : Nat) : Int) ≤ 4294967296 := by omega
  have hpb0 : (0 : Int) ≤ ((ps.length : Nat) : Int) := by omega
  have l0 := World.block_lt_of_cell? w1 _ x0
  have l2 := World.block_lt_of_cell? w1 _ x2
  have HR := Lib.hid hRB
  have HK := Lib.hid hK
  have HP := Lib.hid hP
  clear hRB hK hP hlen hsz
  go_wp2_with fail
  go_quiet (fail)
  go_wp2_with fail
  go_region_held3 (fun w' => w'.cell? ⟨g, 0, none⟩ = some (.slice (some ad) L.length c) ∧ w'.cell? ⟨g, 1, none⟩ = some (.int .i64 (q : Int)) ∧ w'.cell? (ad.add q) = some (.string s) ∧ Below w1.heap.size w1 w')
    (first
      | exact ⟨x0, x1, x2, below_drew (pw_below_drewN (Below.refl _ _) _)⟩
      | exact ⟨(hb.cell (p := ⟨g, 0, none⟩) l0).trans x0, (hb.cell (p := ⟨g, 1, none⟩) l0).trans x1, (hb.cell (p := ad.add q) l2).trans x2, (below_drew (pw_below_drewN (Below.refl _ _) _)).trans hb⟩)
    (first | (go_at_call 24; refine (hcall _).mono ?_; rintro e w' ⟨v, rfl, hR, hb⟩; obtain ⟨Ap, cp, rfl, hcp, hCp⟩ := Kd.R_reads hR))
  have hFp : Kd.F Kd.string w' (fun k => w1.heap.size ≤ k) Ap (p :: ps).length (p :: ps) := Kd.F_mono (Kd.R_F (Kd.R_bound hR)) (fun k hk => hk.2.1)
  have hbw : Below w1.heap.size w1 w' := (below_drew (pw_below_drewN (Below.refl _ _) _)).trans hb
  have hRB2 := HR.out.keep hbw
  have hKB2 := HK.out.trans (KeepBut.of_below hbw g none) (.inl rfl)
  have hRB3 := hRB2
  obtain ⟨⟨A1, c1, HG1, hg1, hC1⟩, hB1, hl1⟩ := hRB3
  have y1 := PA.cellS56_1 HG1
  have y2 := PA.cellS56_2 HG1
  have f1 := blk_frozen HG1 1
  have f2 := blk_frozen HG1 2
  obtain ⟨ap, rfl, z0⟩ := Kd.at_string hCp 0 (by omega) (by simp only [List.length_cons]; omega)
  have z1 : w'.cell? ap = some (.string p) := by
    have e0 : ap.add (0 : Int).toNat = ap := rfl
    rw [e0] at z0
    exact z0
  have HR2 := Lib.hid hRB2
  have HK2 := Lib.hid hKB2
  have HFP := Lib.hid hFp
  have HHB := Lib.hid hbw
  clear hRB2 hKB2 HG1 hg1 hC1 hB1 hl1 hb hbw hFp hCp hR z0
  simp only [List.length_cons] at hcp ⊢
  have hfl := PA.chicaneref36_B_fail.calls g L (q : Int) last 0 place 22 ((q : Int) + 1) (q : Int) last 22 ((q : Int) + 1) w0 w' HR2.out.1 HR2.out.2.1 rfl
  go_wp2_with fail
  refine hfl.mono ?_
  rintro e w2 ⟨rfl, hI, hB2, hK2⟩
  clear hfl
  go_wp2_with fail
  go_ret
  exact ⟨rfl, ⟨hI, hB2, by omega⟩, HK2.out.trans hK2 (.inl rfl)⟩

set_option maxRecDepth 100000 in
set_option maxHeartbeats 4000000 in
theorem rtake_many (w0 w : World) (g : Nat) (L : List ByteArray) (hL : LOk L) (pos : Nat) (last place least most : Int) (word : ByteArray) (h : RB w0 w g L pos last 0 place) (q : Nat) (hsq : skipF L (L.length - pos) pos = q) (hq : q < L.length) (p : ByteArray) (ps : List ByteArray)
    (hP : pcs (L.getD q ByteArray.empty) = p :: ps) (hpl : ps.length ≤ 4294967296) (hw : p = word) (hlo : ¬ (ps.length : Int) < least) (hhi : most < (ps.length : Int)) :
    Calls Tryd.prog 37 #[.pointer (some ⟨g, 0, none⟩), .string word, .int .i64 least, .int .i64 most] w fun e w' => e = .returned (.slice none 0 0) ∧ RB w0 w' g L q last 22 ((q : Int) + 1) ∧ KeepBut w w' g none := by
  have hsk := skip_any w0 w g L hL.1 hL.2 pos last 0 place h
  rw [hsq] at hsk
  have hlen := hL.1
  have hsz := hL.2 q hq
  subst hw
  have hlo2 : decide ((ps.length : Int) < least) = false := by simp; omega
  have hhi2 : decide (most < (ps.length : Int)) = true := by simp; omega
  obtain ⟨⟨A0, c0, HG, hg, hC⟩, hB, hp⟩ := h
  have x3 := PA.cellS56_3 HG
  clear HG hg hC hB hL hsq
  go_enter Tryd.func37, Tryd.ntmps37
  go_wp2_with fail
  refine hsk.mono ?_
  rintro e w1 ⟨rfl, hRB, hK⟩
  clear hsk x3
  obtain ⟨ad, c, x0, x1, x2⟩ := hRB.line hq
  have hcall := fun W => rpieces_any (L.getD q ByteArray.empty) hsz W
  rw [hP] at hcall
  generalize L.getD q ByteArray.empty = s at *
  have hlt2 : decide (L.length ≤ q) = false := by simp; omega
  have hlt3 : decide ((L.length : Int) ≤ (q : Int)) = false := by simp; omega
  have hltq : (q : Int) < (L.length : Int) := by omega
  have hq0 : (0 : Int) ≤ (q : Int) := by omega
  have hqb : (q : Int) ≤ 4294967296 := by omega
  have hpb : ((ps.length : Nat) : Int) ≤ 4294967296 := by omega
  have hpb0 : (0 : Int) ≤ ((ps.length : Nat) : Int) := by omega
  have l0 := World.block_lt_of_cell? w1 _ x0
  have l2 := World.block_lt_of_cell? w1 _ x2
  have HR := Lib.hid hRB
  have HK := Lib.hid hK
  have HP := Lib.hid hP
  clear hRB hK hP hlen hsz
  go_wp2_with fail
  go_quiet (fail)
  go_wp2_with fail
  go_region_held3 (fun w' => w'.cell? ⟨g, 0, none⟩ = some (.slice (some ad) L.length c) ∧ w'.cell? ⟨g, 1, none⟩ = some (.int .i64 (q : Int)) ∧ w'.cell? (ad.add q) = some (.string s) ∧ Below w1.heap.size w1 w')
    (first
      | exact ⟨x0, x1, x2, below_drew (pw_below_drewN (Below.refl _ _) _)⟩
      | exact ⟨(hb.cell (p := ⟨g, 0, none⟩) l0).trans x0, (hb.cell (p := ⟨g, 1, none⟩) l0).trans x1, (hb.cell (p := ad.add q) l2).trans x2, (below_drew (pw_below_drewN (Below.refl _ _) _)).trans hb⟩)
    (first | (go_at_call 24; refine (hcall _).mono ?_; rintro e w' ⟨v, rfl, hR, hb⟩; obtain ⟨Ap, cp, rfl, hcp, hCp⟩ := Kd.R_reads hR))
  have hFp : Kd.F Kd.string w' (fun k => w1.heap.size ≤ k) Ap (p :: ps).length (p :: ps) := Kd.F_mono (Kd.R_F (Kd.R_bound hR)) (fun k hk => hk.2.1)
  have hbw : Below w1.heap.size w1 w' := (below_drew (pw_below_drewN (Below.refl _ _) _)).trans hb
  have hRB2 := HR.out.keep hbw
  have hKB2 := HK.out.trans (KeepBut.of_below hbw g none) (.inl rfl)
  have hRB3 := hRB2
  obtain ⟨⟨A1, c1, HG1, hg1, hC1⟩, hB1, hl1⟩ := hRB3
  have y1 := PA.cellS56_1 HG1
  have y2 := PA.cellS56_2 HG1
  have f1 := blk_frozen HG1 1
  have f2 := blk_frozen HG1 2
  obtain ⟨ap, rfl, z0⟩ := Kd.at_string hCp 0 (by omega) (by simp only [List.length_cons]; omega)
  have z1 : w'.cell? ap = some (.string p) := by
    have e0 : ap.add (0 : Int).toNat = ap := rfl
    rw [e0] at z0
    exact z0
  have HR2 := Lib.hid hRB2
  have HK2 := Lib.hid hKB2
  have HFP := Lib.hid hFp
  have HHB := Lib.hid hbw
  clear hRB2 hKB2 HG1 hg1 hC1 hB1 hl1 hb hbw hFp hCp hR z0
  simp only [List.length_cons] at hcp ⊢
  have hfl := PA.chicaneref36_B_fail.calls g L (q : Int) last 0 place 22 ((q : Int) + 1) (q : Int) last 22 ((q : Int) + 1) w0 w' HR2.out.1 HR2.out.2.1 rfl
  go_wp2_with fail
  refine hfl.mono ?_
  rintro e w2 ⟨rfl, hI, hB2, hK2⟩
  clear hfl
  go_wp2_with fail
  go_ret
  exact ⟨rfl, ⟨hI, hB2, by omega⟩, HK2.out.trans hK2 (.inl rfl)⟩

set_option maxRecDepth 100000 in
set_option maxHeartbeats 4000000 in
theorem rtake_ok (w0 w : World) (g : Nat) (L : List ByteArray) (hL : LOk L) (pos : Nat) (last place least most : Int) (word : ByteArray) (h : RB w0 w g L pos last 0 place) (q : Nat) (hsq : skipF L (L.length - pos) pos = q) (hq : q < L.length) (p : ByteArray) (ps : List ByteArray)
    (hP : pcs (L.getD q ByteArray.empty) = p :: ps) (hpl : ps.length ≤ 4294967296) (hw : p = word) (hlo : ¬ (ps.length : Int) < least) (hhi : ¬ most < (ps.length : Int)) :
    Calls Tryd.prog 37 #[.pointer (some ⟨g, 0, none⟩), .string word, .int .i64 least, .int .i64 most] w fun e w' => RTake g (some ps) w' e ∧ RB w0 w' g L (q + 1) ((q : Int) + 1) 0 place ∧ KeepBut w w' g none := by
  have hsk := skip_any w0 w g L hL.1 hL.2 pos last 0 place h
  rw [hsq] at hsk
  have hlen := hL.1
  have hsz := hL.2 q hq
  subst hw
  have hlo2 : decide ((ps.length : Int) < least) = false := by simp; omega
  have hhi2 : decide (most < (ps.length : Int)) = false := by simp; omega
  obtain ⟨⟨A0, c0, HG, hg, hC⟩, hB, hp⟩ := h
  have x3 := PA.cellS56_3 HG
  clear HG hg hC hB hL hsq
  go_enter Tryd.func37, Tryd.ntmps37
  go_wp2_with fail
  refine hsk.mono ?_
  rintro e w1 ⟨rfl, hRB, hK⟩
  clear hsk x3
  obtain ⟨ad, c, x0, x1, x2⟩ := hRB.line hq
  have hcall := fun W => rpieces_any (L.getD q ByteArray.empty) hsz W
  rw [hP] at hcall
  generalize L.getD q ByteArray.empty = s at *
  have hlt2 : decide (L.length ≤ q) = false := by simp; omega
  have hlt3 : decide ((L.length : Int) ≤ (q : Int)) = false := by simp; omega
  have hltq : (q : Int) < (L.length : Int) := by omega
  have hq0 : (0 : Int) ≤ (q : Int) := by omega
  have hqb : (q : Int) ≤ 4294967296 := by omega
  have hpb : ((ps.length : Nat) : Int) ≤ 4294967296 := by omega
  have hpb0 : (0 : Int) ≤ ((ps.length : Nat) : Int) := by omega
  have l0 := World.block_lt_of_cell? w1 _ x0
  have l2 := World.block_lt_of_cell? w1 _ x2
  have HR := Lib.hid hRB
  have HK := Lib.hid hK
  have HP := Lib.hid hP
  clear hRB hK hP hlen hsz
  go_wp2_with fail
  go_quiet (fail)
  go_wp2_with fail
  go_region_held3 (fun w' => w'.cell? ⟨g, 0, none⟩ = some (.slice (some ad) L.length c) ∧ w'.cell? ⟨g, 1, none⟩ = some (.int .i64 (q : Int)) ∧ w'.cell? (ad.add q) = some (.string s) ∧ Below w1.heap.size w1 w')
    (first
      | exact ⟨x0, x1, x2, below_drew (pw_below_drewN (Below.refl _ _) _)⟩
      | exact ⟨(hb.cell (p := ⟨g, 0, none⟩) l0).trans x0, (hb.cell (p := ⟨g, 1, none⟩) l0).trans x1, (hb.cell (p := ad.add q) l2).trans x2, (below_drew (pw_below_drewN (Below.refl _ _) _)).trans hb⟩)
    (first | (go_at_call 24; refine (hcall _).mono ?_; rintro e w' ⟨v, rfl, hR, hb⟩; obtain ⟨Ap, cp, rfl, hcp, hCp⟩ := Kd.R_reads hR))
  have hFp : Kd.F Kd.string w' (fun k => w1.heap.size ≤ k) Ap (p :: ps).length (p :: ps) := Kd.F_mono (Kd.R_F (Kd.R_bound hR)) (fun k hk => hk.2.1)
  have hbw : Below w1.heap.size w1 w' := (below_drew (pw_below_drewN (Below.refl _ _) _)).trans hb
  have hRB2 := HR.out.keep hbw
  have hKB2 := HK.out.trans (KeepBut.of_below hbw g none) (.inl rfl)
  have hRB3 := hRB2
  obtain ⟨⟨A1, c1, HG1, hg1, hC1⟩, hB1, hl1⟩ := hRB3
  have y1 := PA.cellS56_1 HG1
  have y2 := PA.cellS56_2 HG1
  have f1 := blk_frozen HG1 1
  have f2 := blk_frozen HG1 2
  obtain ⟨ap, rfl, z0⟩ := Kd.at_string hCp 0 (by omega) (by simp only [List.length_cons]; omega)
  have z1 : w'.cell? ap = some (.string p) := by
    have e0 : ap.add (0 : Int).toNat = ap := rfl
    rw [e0] at z0
    exact z0
  have HR2 := Lib.hid hRB2
  have HK2 := Lib.hid hKB2
  have HFP := Lib.hid hFp
  have HHB := Lib.hid hbw
  clear hRB2 hKB2 HG1 hg1 hC1 hB1 hl1 hb hbw hFp hCp hR z0
  simp only [List.length_cons] at hcp ⊢
  have hge : w1.heap.size ≤ ap.block := Kd.F_in HFP.out rfl (by simp) (by decide)
  have hcut := Kd.F_cut (m := 1) (c := cp) (xs := p :: ps) HFP.out (by simp) (by simpa using hcp)
  have hcut2 := Kd.F_now (Kd.F_far (Kd.F_far hcut (p := ⟨g, 1, none⟩) (fun k hk => by have : g < k := Nat.lt_of_lt_of_le l0 hk; show k ≠ g; omega) (.int .i64 ((q : Int) + 1))) (p := ⟨g, 2, none⟩) (fun k hk => by have : g < k := Nat.lt_of_lt_of_le l0 hk; show k ≠ g; omega) (.int .i64 ((q : Int) + 1)))
  have HCUT := Lib.hid hcut2
  have hapg : ap.block ≠ g := by omega
  clear hcut hcut2 hge
  go_wp2_with fail
  all_goals
    go_ret
    have hc := HCUT.out
    have hi := HR2.out.1
    have e1 : ((q + 1 : Nat) : Int) = (q : Int) + 1 := by omega
    refine ⟨⟨_, _, rfl, by simp only [Option.getD_some]; omega, ?_, ?_⟩, ⟨by rw [e1]; exact (hi.set_1 _).set_2 _, below_set (below_set HR2.out.2.1 hi.ge) hi.ge, by omega⟩, (HK2.out.set_ _ _).set_ _ _⟩
    · first
        | (rw [if_pos ‹cp = 1›] at hc; exact hc)
        | (rw [if_neg ‹¬ cp = 1›] at hc; exact hc)
    · intro ad1 had1 _
      cases had1
      exact hapg
end Go.Proofs.YtbhbpopebmdemaaDoor

namespace Go.Proofs.YtbhbpopebmdemaaDoor
open Go.RowKit Go.Proofs.YtbhbpopebmdemaaDoorW.PrintWords Go.Proofs.YtbhbpopebmdemaaDoorW.PrintLast Go.Proofs.YtbhbpopebmdemaaDoorW.PrintMore
open ChiPure Go.Lib Go.Shelf
set_option linter.unusedVariables false
set_option linter.unusedSimpArgs false

def LSm (L : List ByteArray) : Prop := L.length ≤ 4294967296 ∧ ∀ k, k < L.length → (L.getD k ByteArray.empty).size < 4294967281
theorem LSm.ok {L : List ByteArray} (h : LSm L) : LOk L := ⟨h.1, fun k hk => by have := h.2 k hk; omega⟩
theorem LSm.pcs {L : List ByteArray} (h : LSm L) {q : Nat} (hq : q < L.length) {p : ByteArray} {ps : List ByteArray} (hP : pcs (L.getD q ByteArray.empty) = p :: ps) : ps.length ≤ 4294967296 := by
  have h1 := h.2 q hq
  have h2 := pcl_len (L.getD q ByteArray.empty).data.toList []
  have h3 := congrArg List.length hP
  unfold YtbhbpopebmdemaaDoor.pcs at h3
  rw [List.length_map, List.length_cons] at h3
  rw [data_len] at h2
  omega

theorem rtake_any (w0 w : World) (g : Nat) (L : List ByteArray) (hL : LSm L) (least most : Int) (word : ByteArray) (b : BS) (h : RS w0 w g L b) :
    Calls Tryd.prog 37 #[.pointer (some ⟨g, 0, none⟩), .string word, .int .i64 least, .int .i64 most] w fun e w' => RTake g (tk (L.length : Int) word least most b).1 w' e ∧ RS w0 w' g L (tk (L.length : Int) word least most b).2 ∧ KeepBut w w' g none := by
  obtain ⟨ls, last, err, place⟩ := b
  obtain ⟨pos, hRB, hls⟩ := h
  simp only at hRB hls
  by_cases he : err = 0
  · subst he
    cases ls with
    | nil =>
      refine (rtake_short w0 w g L hL.ok pos last place least most word hRB hls.symm).mono ?_
      rintro e w' ⟨rfl, hr, hk⟩
      simp only [tk, if_true]
      refine ⟨RTake.none_ _ _, ⟨L.length, hr, ?_⟩, hk⟩
      rw [Nat.sub_self]; rfl
    | cons x r =>
      obtain ⟨q, hsq, hq, hx, hr, hne⟩ := skip_at hRB.2.2 hls.symm
      cases hP : x.f1 with
      | nil => exact absurd hP hne
      | cons p ps =>
        have hP2 : pcs (L.getD q ByteArray.empty) = p :: ps := by rw [hx] at hP; exact hP
        have hx0 : x.f0 = (q : Int) + 1 := by rw [hx]
        have hpl := hL.pcs hq hP2
        have hbk : x :: r = bkF L (L.length - q) q := by
          have h1 := (bkF_skip L (L.length - pos) pos).1
          rw [hsq, show pos + (L.length - pos) = L.length by have := hRB.2.2; omega] at h1
          rw [hls, h1]
        by_cases hw : p = word
        · by_cases hlo : (ps.length : Int) < least
          · refine (rtake_few w0 w g L hL.ok pos last place least most word hRB q hsq hq p ps hP2 hpl hw hlo).mono ?_
            rintro e w' ⟨rfl, hr2, hk⟩
            have ht : tk (L.length : Int) word least most ⟨x :: r, last, 0, place⟩ = (none, ⟨x :: r, last, 22, x.f0⟩) := by
              simp only [tk, if_true, hP]; rw [if_pos hw, if_pos (.inl hlo)]
            rw [ht]
            exact ⟨RTake.none_ _ _, ⟨q, by rw [hx0]; exact hr2, hbk⟩, hk⟩
          · by_cases hhi : most < (ps.length : Int)
            · refine (rtake_many w0 w g L hL.ok pos last place least most word hRB q hsq hq p ps hP2 hpl hw hlo hhi).mono ?_
              rintro e w' ⟨rfl, hr2, hk⟩
              have ht : tk (L.length : Int) word least most ⟨x :: r, last, 0, place⟩ = (none, ⟨x :: r, last, 22, x.f0⟩) := by
                simp only [tk, if_true, hP]; rw [if_pos hw, if_pos (.inr hhi)]
              rw [ht]
              exact ⟨RTake.none_ _ _, ⟨q, by rw [hx0]; exact hr2, hbk⟩, hk⟩
            · refine (rtake_ok w0 w g L hL.ok pos last place least most word hRB q hsq hq p ps hP2 hpl hw hlo hhi).mono ?_
              rintro e w' ⟨hT, hr2, hk⟩
              have ht : tk (L.length : Int) word least most ⟨x :: r, last, 0, place⟩ = (some ps, ⟨r, x.f0, 0, place⟩) := by
                simp only [tk, if_true, hP]; rw [if_pos hw, if_neg (by omega)]
              rw [ht]
              exact ⟨hT, ⟨q + 1, by rw [hx0]; exact hr2, hr⟩, hk⟩
        · refine (rtake_magic w0 w g L hL.ok pos last place least most word hRB q hsq hq p ps hP2 hpl hw).mono ?_
          rintro e w' ⟨rfl, hr2, hk⟩
          have ht : tk (L.length : Int) word least most ⟨x :: r, last, 0, place⟩ = (none, ⟨x :: r, last, 21, x.f0⟩) := by
            simp only [tk, if_true, hP]; rw [if_neg hw]
          rw [ht]
          exact ⟨RTake.none_ _ _, ⟨q, by rw [hx0]; exact hr2, hbk⟩, hk⟩
  · refine (rtake_err w0 w g L pos last err place least most word hRB he).mono ?_
    rintro e w' ⟨rfl, rfl⟩
    have ht : tk (L.length : Int) word least most ⟨ls, last, err, place⟩ = (none, ⟨ls, last, err, place⟩) := by
      simp only [tk, he, if_false]
    rw [ht]
    exact ⟨RTake.none_ _ _, ⟨pos, hRB, hls⟩, KeepBut.refl _ _ _⟩

/-! ### Next -/
set_option maxRecDepth 100000 in
set_option maxHeartbeats 4000000 in
theorem rnext_any (w0 w : World) (g : Nat) (L : List ByteArray) (hL : LSm L) (word : ByteArray) (b : BS) (h : RS w0 w g L b) :
    Calls Tryd.prog 38 #[.pointer (some ⟨g, 0, none⟩), .string word] w fun e w' => e = .returned (.bool (nx word b)) ∧ RS w0 w' g L b ∧ KeepBut w w' g none := by
  obtain ⟨ls, last, err, place⟩ := b
  obtain ⟨pos, hRB, hls⟩ := h
  simp only at hRB hls
  have hRB0 := hRB
  obtain ⟨⟨A0, c0, HG, hg, hC⟩, hB, hp⟩ := hRB0
  have x3 := PA.cellS56_3 HG
  clear HG hg hC hB
  by_cases he : err = 0
  · subst he
    have hlen := hL.1
    have hsk := skip_any w0 w g L hL.ok.1 hL.ok.2 pos last 0 place hRB
    have hq1 := skipF_le L (L.length - pos) pos
    have hbk : ls = bkF L (L.length - skipF L (L.length - pos) pos) (skipF L (L.length - pos) pos) := by
      have h1 := (bkF_skip L (L.length - pos) pos).1
      rw [show pos + (L.length - pos) = L.length by omega] at h1
      rw [hls, h1]
    cases hc : ls with
    | nil =>
      rw [hc] at hls hbk
      rw [skip_end hp hls.symm] at hsk
      have hnx : nx word ⟨[], last, 0, place⟩ = false := rfl
      rw [hnx]
      clear hbk hq1 hRB hls hL hc
      go_enter Tryd.func38, Tryd.ntmps38
      go_wp2_with fail
      refine hsk.mono ?_
      rintro e w1 ⟨rfl, hRB, hK⟩
      clear hsk x3
      have hRB1 := hRB
      obtain ⟨⟨A0, c0, HG, hg, hC⟩, hB, hp⟩ := hRB
      have x0 := PA.cellS56_0 HG
      have x1 := PA.cellS56_1 HG
      have hlt1 : decide ((L.length : Int) < (L.length : Int)) = false := by simp
      have hlt2 : decide (L.length < L.length) = false := by simp
      have HR := Lib.hid hRB1
      have HK := Lib.hid hK
      clear hRB1 hK HG hg hC hB hp
      go_wp2_with fail
      go_quiet (fail)
      go_wp2_with fail
      go_ret
      refine ⟨rfl, ⟨L.length, HR.out.keep (pw_below_drewN (Below.refl _ _) _), ?_⟩, keep_drewN HK.out _⟩
      rw [Nat.sub_self]; rfl
    | cons x r =>
      rw [hc] at hls hbk
      obtain ⟨q, hsq, hq, hx, hr, hne⟩ := skip_at hp hls.symm
      rw [hsq] at hsk hbk
      cases hP : x.f1 with
      | nil => exact absurd hP hne
      | cons p ps =>
        have hP2 : pcs (L.getD q ByteArray.empty) = p :: ps := by rw [hx] at hP; exact hP
        have hnx : nx word ⟨x :: r, last, 0, place⟩ = (p.toList == word.toList) := by simp only [nx, if_true, hP]
        rw [hnx]
        have hsz := hL.ok.2 q hq
        have HBK := Lib.hid hbk
        clear hbk hq1 hRB hls hL hc hnx hr hx hne hP hsq
        go_enter Tryd.func38, Tryd.ntmps38
        go_wp2_with fail
        refine hsk.mono ?_
        rintro e w1 ⟨rfl, hRB, hK⟩
        clear hsk x3
        obtain ⟨ad, c, x0, x1, x2⟩ := hRB.line hq
        have hcall := fun W => rpieces_any (L.getD q ByteArray.empty) hsz W
        rw [hP2] at hcall
        clear hP2
        generalize L.getD q ByteArray.empty = s at *
        have hlt2 : decide (q < L.length) = true := by simp; omega
        have hlt3 : decide ((q : Int) < (L.length : Int)) = true := by simp; omega
        have hltq : (q : Int) < (L.length : Int) := by omega
        have hq0 : (0 : Int) ≤ (q : Int) := by omega
        have hpb0 : (0 : Int) < ((ps.length : Nat) : Int) + 1 := by omega
        have l0 := World.block_lt_of_cell? w1 _ x0
        have l2 := World.block_lt_of_cell? w1 _ x2
        have HR := Lib.hid hRB
        have HK := Lib.hid hK
        clear hRB hK hsz hlen
        go_wp2_with fail
        refine start_ (n := 28) (S := fun w' => w'.cell? ⟨g, 0, none⟩ = some (.slice (some ad) L.length c) ∧ w'.cell? ⟨g, 1, none⟩ = some (.int .i64 (q : Int)) ∧ w'.cell? (ad.add q) = some (.string s)) (ds := []) #[false, false, false, false, false, false, false, false, false, false, false, false, false, false, false, false, false, false, false, false, false, false, false, false, false, false, false, false] (by kernel_rfl) rfl rfl ⟨x0, x1, x2⟩ (fun hHeld => ?_)
        refine pure_ (i := 0) (N := some 12) (v := ?_) (a' := ?_) #[true, false, false, false, false, false, false, false, false, false, false, false, false, false, false, false, false, false, false, false, false, false, false, false, false, false, false, false] rfl rfl (by kernel_rfl) (fun _ _ _ h => h) (Or.inl ⟨by rfl, ?_⟩) ?_ ?_
        rotate_left
        · intro w'
          go_simp
          try with_reducible rfl
        rotate_left
        · simp only [Act.put, List.setIfInBounds_toArray, List.set_cons_zero, List.set_cons_succ]
          rfl
        refine pure_ (i := 1) (N := some 13) (v := ?_) (a' := ?_) #[true, true, false, false, false, false, false, false, false, false, false, false, false, false, false, false, false, false, false, false, false, false, false, false, false, false, false, false] rfl rfl (by kernel_rfl) (fun _ _ _ h => h) (Or.inl ⟨by rfl, ?_⟩) ?_ ?_
        rotate_left
        · intro w'
          go_simp
          try with_reducible rfl
        rotate_left
        · simp only [Act.put, List.setIfInBounds_toArray, List.set_cons_zero, List.set_cons_succ]
          rfl
        refine pure_ (i := 2) (N := some 14) (v := ?_) (a' := ?_) #[true, true, true, false, false, false, false, false, false, false, false, false, false, false, false, false, false, false, false, false, false, false, false, false, false, false, false, false] rfl rfl (by kernel_rfl) (fun _ _ _ h => h) (Or.inl ⟨by rfl, ?_⟩) ?_ ?_
        rotate_left
        · intro w'
          go_simp
          try with_reducible rfl
        rotate_left
        · simp only [Act.put, List.setIfInBounds_toArray, List.set_cons_zero, List.set_cons_succ]
          rfl
        refine pure_ (i := 4) (N := some 16) (v := ?_) (a' := ?_) #[true, true, true, false, true, false, false, false, false, false, false, false, false, false, false, false, false, false, false, false, false, false, false, false, false, false, false, false] rfl rfl (by kernel_rfl) (fun _ _ _ h => h) (Or.inl ⟨by rfl, ?_⟩) ?_ ?_
        rotate_left
        · intro w'
          go_simp
          try with_reducible rfl
        rotate_left
        · simp only [Act.put, List.setIfInBounds_toArray, List.set_cons_zero, List.set_cons_succ]
          rfl
        refine pure_ (i := 5) (N := some 17) (v := ?_) (a' := ?_) #[true, true, true, false, true, true, false, false, false, false, false, false, false, false, false, false, false, false, false, false, false, false, false, false, false, false, false, false] rfl rfl (by kernel_rfl) (fun _ _ _ h => h) (Or.inl ⟨by rfl, ?_⟩) ?_ ?_
        rotate_left
        · intro w'
          go_simp
          try with_reducible rfl
        rotate_left
        · simp only [Act.put, List.setIfInBounds_toArray, List.set_cons_zero, List.set_cons_succ]
          rfl
        refine pure_ (i := 6) (N := some 18) (v := ?_) (a' := ?_) #[true, true, true, false, true, true, true, false, false, false, false, false, false, false, false, false, false, false, false, false, false, false, false, false, false, false, false, false] rfl rfl (by kernel_rfl) (fun _ _ _ h => h) (Or.inl ⟨by rfl, ?_⟩) ?_ ?_
        rotate_left
        · intro w'
          go_simp
          try with_reducible rfl
        rotate_left
        · simp only [Act.put, List.setIfInBounds_toArray, List.set_cons_zero, List.set_cons_succ]
          rfl
        refine take_ (i := 3) (N := some 15) (v := ?_) (a' := ?_) #[true, true, true, true, true, true, true, false, false, false, false, false, false, false, false, false, false, false, false, false, false, false, false, false, false, false, false, false] rfl rfl (by kernel_rfl) (fun _ _ _ h => h) (Or.inl ⟨by rfl, ?_⟩) hHeld ?_ ?_
        rotate_left
        · intro w' hSw
          try dsimp only at hSw
          go_split_ands
          go_simp
          try with_reducible rfl
        rotate_left
        · simp only [Act.put, List.setIfInBounds_toArray, List.set_cons_zero, List.set_cons_succ]
          rfl
        refine take_ (i := 7) (N := some 19) (v := ?_) (a' := ?_) #[true, true, true, true, true, true, true, true, false, false, false, false, false, false, false, false, false, false, false, false, false, false, false, false, false, false, false, false] rfl rfl (by kernel_rfl) (fun _ _ _ h => h) (Or.inl ⟨by rfl, ?_⟩) hHeld ?_ ?_
        rotate_left
        · intro w' hSw
          try dsimp only at hSw
          go_split_ands
          go_simp
          try with_reducible rfl
        rotate_left
        · simp only [Act.put, List.setIfInBounds_toArray, List.set_cons_zero, List.set_cons_succ]
          rfl
        refine pure_ (i := 8) (N := some 20) (v := ?_) (a' := ?_) #[true, true, true, true, true, true, true, true, true, false, false, false, false, false, false, false, false, false, false, false, false, false, false, false, false, false, false, false] rfl rfl (by kernel_rfl) (fun _ _ _ h => h) (Or.inl ⟨by rfl, ?_⟩) ?_ ?_
        rotate_left
        · intro w'
          go_simp
          try with_reducible rfl
        rotate_left
        · simp only [Act.put, List.setIfInBounds_toArray, List.set_cons_zero, List.set_cons_succ]
          rfl
        refine pure_ (i := 9) (N := some 21) (v := ?_) (a' := ?_) #[true, true, true, true, true, true, true, true, true, true, false, false, false, false, false, false, false, false, false, false, false, false, false, false, false, false, false, false] rfl rfl (by kernel_rfl) (fun _ _ _ h => h) (Or.inl ⟨by rfl, ?_⟩) ?_ ?_
        rotate_left
        · intro w'
          go_simp
          try with_reducible rfl
        rotate_left
        · simp only [Act.put, List.setIfInBounds_toArray, List.set_cons_zero, List.set_cons_succ]
          rfl
        refine pure_ (i := 10) (N := some 22) (v := ?_) (a' := ?_) #[true, true, true, true, true, true, true, true, true, true, true, false, false, false, false, false, false, false, false, false, false, false, false, false, false, false, false, false] rfl rfl (by kernel_rfl) (fun _ _ _ h => h) (Or.inl ⟨by rfl, ?_⟩) ?_ ?_
        rotate_left
        · intro w'
          go_simp
          try with_reducible rfl
        rotate_left
        · simp only [Act.put, List.setIfInBounds_toArray, List.set_cons_zero, List.set_cons_succ]
          rfl
        refine pure_ (i := 11) (N := some 23) (v := ?_) (a' := ?_) #[true, true, true, true, true, true, true, true, true, true, true, true, false, false, false, false, false, false, false, false, false, false, false, false, false, false, false, false] rfl rfl (by kernel_rfl) (fun _ _ _ h => h) (Or.inl ⟨by rfl, ?_⟩) ?_ ?_
        rotate_left
        · intro w'
          go_simp
          try with_reducible rfl
        rotate_left
        · simp only [Act.put, List.setIfInBounds_toArray, List.set_cons_zero, List.set_cons_succ]
          rfl
        refine pure_ (i := 12) (N := some 24) (v := ?_) (a' := ?_) #[true, true, true, true, true, true, true, true, true, true, true, true, true, false, false, false, false, false, false, false, false, false, false, false, false, false, false, false] rfl rfl (by kernel_rfl) (fun _ _ _ h => h) (Or.inl ⟨by rfl, ?_⟩) ?_ ?_
        rotate_left
        · intro w'
          go_simp
          try with_reducible rfl
        rotate_left
        · simp only [Act.put, List.setIfInBounds_toArray, List.set_cons_zero, List.set_cons_succ]
          rfl
        refine pure_ (i := 13) (N := some 25) (v := ?_) (a' := ?_) #[true, true, true, true, true, true, true, true, true, true, true, true, true, true, false, false, false, false, false, false, false, false, false, false, false, false, false, false] rfl rfl (by kernel_rfl) (fun _ _ _ h => h) (Or.inl ⟨by rfl, ?_⟩) ?_ ?_
        rotate_left
        · intro w'
          go_simp
          try with_reducible rfl
        rotate_left
        · simp only [Act.put, List.setIfInBounds_toArray, List.set_cons_zero, List.set_cons_succ]
          rfl
        refine pure_ (i := 15) (N := some 27) (v := ?_) (a' := ?_) #[true, true, true, true, true, true, true, true, true, true, true, true, true, true, false, true, false, false, false, false, false, false, false, false, false, false, false, false] rfl rfl (by kernel_rfl) (fun _ _ _ h => h) (Or.inl ⟨by rfl, ?_⟩) ?_ ?_
        rotate_left
        · intro w'
          go_simp
          try with_reducible rfl
        rotate_left
        · simp only [Act.put, List.setIfInBounds_toArray, List.set_cons_zero, List.set_cons_succ]
          rfl
        refine pure_ (i := 16) (N := some 28) (v := ?_) (a' := ?_) #[true, true, true, true, true, true, true, true, true, true, true, true, true, true, false, true, true, false, false, false, false, false, false, false, false, false, false, false] rfl rfl (by kernel_rfl) (fun _ _ _ h => h) (Or.inl ⟨by rfl, ?_⟩) ?_ ?_
        rotate_left
        · intro w'
          go_simp
          try with_reducible rfl
        rotate_left
        · simp only [Act.put, List.setIfInBounds_toArray, List.set_cons_zero, List.set_cons_succ]
          rfl
        refine pure_ (i := 17) (N := some 29) (v := ?_) (a' := ?_) #[true, true, true, true, true, true, true, true, true, true, true, true, true, true, false, true, true, true, false, false, false, false, false, false, false, false, false, false] rfl rfl (by kernel_rfl) (fun _ _ _ h => h) (Or.inl ⟨by rfl, ?_⟩) ?_ ?_
        rotate_left
        · intro w'
          go_simp
          try with_reducible rfl
        rotate_left
        · simp only [Act.put, List.setIfInBounds_toArray, List.set_cons_zero, List.set_cons_succ]
          rfl
        refine take_ (i := 14) (N := some 26) (v := ?_) (a' := ?_) #[true, true, true, true, true, true, true, true, true, true, true, true, true, true, true, true, true, true, false, false, false, false, false, false, false, false, false, false] rfl rfl (by kernel_rfl) (fun _ _ _ h => h) (Or.inl ⟨by rfl, ?_⟩) hHeld ?_ ?_
        rotate_left
        · intro w' hSw
          try dsimp only at hSw
          go_split_ands
          go_simp
          try with_reducible rfl
        rotate_left
        · simp only [Act.put, List.setIfInBounds_toArray, List.set_cons_zero, List.set_cons_succ]
          rfl
        refine take_ (i := 18) (N := some 30) (v := ?_) (a' := ?_) #[true, true, true, true, true, true, true, true, true, true, true, true, true, true, true, true, true, true, true, false, false, false, false, false, false, false, false, false] rfl rfl (by kernel_rfl) (fun _ _ _ h => h) (Or.inl ⟨by rfl, ?_⟩) hHeld ?_ ?_
        rotate_left
        · intro w' hSw
          try dsimp only at hSw
          go_split_ands
          go_simp
          try with_reducible rfl
        rotate_left
        · simp only [Act.put, List.setIfInBounds_toArray, List.set_cons_zero, List.set_cons_succ]
          rfl
        refine pure_ (i := 19) (N := some 31) (v := ?_) (a' := ?_) #[true, true, true, true, true, true, true, true, true, true, true, true, true, true, true, true, true, true, true, true, false, false, false, false, false, false, false, false] rfl rfl (by kernel_rfl) (fun _ _ _ h => h) (Or.inl ⟨by rfl, ?_⟩) ?_ ?_
        rotate_left
        · intro w'
          go_simp
          try with_reducible rfl
        rotate_left
        · simp only [Act.put, List.setIfInBounds_toArray, List.set_cons_zero, List.set_cons_succ]
          rfl
        refine take_ (i := 20) (N := some 32) (v := ?_) (a' := ?_) #[true, true, true, true, true, true, true, true, true, true, true, true, true, true, true, true, true, true, true, true, true, false, false, false, false, false, false, false] rfl rfl (by kernel_rfl) (fun _ _ _ h => h) (Or.inl ⟨by rfl, ?_⟩) hHeld ?_ ?_
        rotate_left
        · intro w' hSw
          try dsimp only at hSw
          go_split_ands
          go_simp
          try with_reducible rfl
        rotate_left
        · simp only [Act.put, List.setIfInBounds_toArray, List.set_cons_zero, List.set_cons_succ]
          rfl
        refine pure_ (i := 24) (N := some 36) (v := ?_) (a' := ?_) #[true, true, true, true, true, true, true, true, true, true, true, true, true, true, true, true, true, true, true, true, true, false, false, false, true, false, false, false] rfl rfl (by kernel_rfl) (fun _ _ _ h => h) (Or.inl ⟨by rfl, ?_⟩) ?_ ?_
        rotate_left
        · intro w'
          go_simp
          try with_reducible rfl
        rotate_left
        · simp only [Act.put, List.setIfInBounds_toArray, List.set_cons_zero, List.set_cons_succ]
          rfl
        refine one_ (i := 21) (N := some 33) #[true, true, true, true, true, true, true, true, true, true, true, true, true, true, true, true, true, true, true, true, true, true, false, false, true, false, false, false] rfl rfl (by kernel_rfl) (by decide) (fun K hK => ?_)
        refine goes_ Tryd.func24 (by kernel_rfl) rfl #[.string s] (by rfl) rfl rfl (by (try simp only [List.map_toArray, List.map_cons, List.map_nil]); first | done | rfl | (simp [Act.eval])) ?_
        refine (hcall _).mono ?_
        rintro e w' ⟨v, rfl, hR, hb⟩
        obtain ⟨Ap, cp, rfl, hcp, hCp⟩ := Kd.R_reads hR
        obtain ⟨ap, rfl, z0⟩ := Kd.at_string hCp 0 (by omega) (by simp only [List.length_cons]; omega)
        have z1 : w'.cell? ap = some (.string p) := z0
        clear z0 hCp hR
        simp only [List.length_cons] at hcp ⊢
        refine ⟨_, rfl, ?_⟩
        refine hK.out _ _ ⟨(hb.cell (p := ⟨g, 0, none⟩) l0).trans x0, (hb.cell (p := ⟨g, 1, none⟩) l0).trans x1, (hb.cell (p := ad.add q) l2).trans x2⟩ (fun hHeld => ?_)
        clear hK K
        refine norm_ (a' := ?_) ?_ ?_
        rotate_left
        · show Act.put _ (some 33) _ = _
          simp only [Act.put, List.setIfInBounds_toArray, List.set_cons_zero, List.set_cons_succ]
          rfl
        refine pure_ (i := 22) (N := some 34) (v := ?_) (a' := ?_) #[true, true, true, true, true, true, true, true, true, true, true, true, true, true, true, true, true, true, true, true, true, true, true, false, true, false, false, false] rfl rfl (by kernel_rfl) (fun _ _ _ h => h) (Or.inl ⟨by rfl, ?_⟩) ?_ ?_
        rotate_left
        · intro w'
          go_simp
          try with_reducible rfl
        rotate_left
        · simp only [Act.put, List.setIfInBounds_toArray, List.set_cons_zero, List.set_cons_succ]
          rfl
        refine one_ (i := 23) (N := some 35) #[true, true, true, true, true, true, true, true, true, true, true, true, true, true, true, true, true, true, true, true, true, true, true, true, true, false, false, false] rfl rfl (by kernel_rfl) (by decide) (fun K hK => ?_)
        refine value_ (v := .string p) (w1 := w') (by rfl) rfl (by go_simp; try with_reducible rfl) ?_
        refine hK.out _ _ hHeld (fun hHeld => ?_)
        clear hK K
        refine norm_ (a' := ?_) ?_ ?_
        rotate_left
        · show Act.put _ (some 35) _ = _
          simp only [Act.put, List.setIfInBounds_toArray, List.set_cons_zero, List.set_cons_succ]
          rfl
        refine pure_ (i := 25) (N := some 37) (v := ?_) (a' := ?_) #[true, true, true, true, true, true, true, true, true, true, true, true, true, true, true, true, true, true, true, true, true, true, true, true, true, true, false, false] rfl rfl (by kernel_rfl) (fun _ _ _ h => h) (Or.inl ⟨by rfl, ?_⟩) ?_ ?_
        rotate_left
        · intro w'
          go_simp
          try with_reducible rfl
        rotate_left
        · simp only [Act.put, List.setIfInBounds_toArray, List.set_cons_zero, List.set_cons_succ]
          rfl
        refine pure_ (i := 26) (N := some 38) (v := ?_) (a' := ?_) #[true, true, true, true, true, true, true, true, true, true, true, true, true, true, true, true, true, true, true, true, true, true, true, true, true, true, true, false] rfl rfl (by kernel_rfl) (fun _ _ _ h => h) (Or.inl ⟨by rfl, ?_⟩) ?_ ?_
        rotate_left
        · intro w'
          go_simp
          try with_reducible rfl
        rotate_left
        · simp only [Act.put, List.setIfInBounds_toArray, List.set_cons_zero, List.set_cons_succ]
          rfl
        refine pure_ (i := 27) (N := some 4) (v := ?_) (a' := ?_) #[true, true, true, true, true, true, true, true, true, true, true, true, true, true, true, true, true, true, true, true, true, true, true, true, true, true, true, true] rfl rfl (by kernel_rfl) (fun _ _ _ h => h) (Or.inl ⟨by rfl, ?_⟩) ?_ ?_
        rotate_left
        · intro w'
          go_simp
          try with_reducible rfl
        rotate_left
        · simp only [Act.put, List.setIfInBounds_toArray, List.set_cons_zero, List.set_cons_succ]
          rfl
        refine done_ (by kernel_rfl) ?_
        have hbw : Below w1.heap.size w1 w' := (below_drew (Below.refl _ _)).trans hb
        have hRB2 := HR.out.keep hbw
        have hKB2 := HK.out.trans (KeepBut.of_below hbw g none) (.inl rfl)
        go_wp2_with fail
        go_ret
        exact ⟨rfl, ⟨q, hRB2, HBK.out⟩, hKB2⟩
  · have hnx : nx word ⟨ls, last, err, place⟩ = false := by simp only [nx, he, if_false]
    have b1 : (err != 0) = true := by simp [he]
    rw [hnx]
    clear hL he hnx hp
    have HR := Lib.hid hRB
    have HL := Lib.hid hls
    clear hRB hls
    go_enter Tryd.func38, Tryd.ntmps38
    go_wp2_with fail
    go_ret
    exact ⟨rfl, ⟨pos, HR.out, HL.out⟩, KeepBut.refl _ _ _⟩
end Go.Proofs.YtbhbpopebmdemaaDoor

namespace Go.Proofs.YtbhbpopebmdemaaDoor
open Go.RowKit Go.Proofs.YtbhbpopebmdemaaDoorW.PrintWords Go.Proofs.YtbhbpopebmdemaaDoorW.PrintLast Go.Proofs.YtbhbpopebmdemaaDoorW.PrintMore
open ChiPure Go.Lib
set_option linter.unusedVariables false
set_option linter.unusedSimpArgs false

/-! ### a line's control, as the reference reads it -/
theorem j0_eq (k : Nat) (x9 x10 : Int) (x32 : Bool) (x1000 : List ByteArray) (x1001 x1002 x1003 x1004 : Int) : PA.chicaneref36_B_Int.j0 (k + 1) x9 x10 x32 x1000 x1001 x1002 x1003 x1004 = if x32 = true then (if 40 = 0 then (some (x9, x1001, x1002, x1003, x1004)) else ((PA.chicaneref36_B_fail.f x1000 x1001 x1002 x1003 x1004 40 x1002).bind fun bt144 => (some (0, bt144.1, bt144.2.1, bt144.2.2.1, bt144.2.2.2)))) else (if x10 = 0 then (some (x9, x1001, x1002, x1003, x1004)) else ((PA.chicaneref36_B_fail.f x1000 x1001 x1002 x1003 x1004 x10 x1002).bind fun bt148 => (some (0, bt148.1, bt148.2.1, bt148.2.2.1, bt148.2.2.2)))) := rfl
theorem rint_spec (k : Nat) (hk : 21 < k) (L : List ByteArray) (pos last : Int) (st : Int × Int) (s : ByteArray) (lo hi : Int) :
    PA.chicaneref36_B_Int.f k L pos last st.1 st.2 s lo hi = some ((intStep last st s lo hi).1, pos, last, (intStep last st s lo hi).2.1, (intStep last st s lo hi).2.2) := by
  obtain ⟨err, place⟩ := st
  obtain ⟨k1, rfl⟩ : ∃ k1, k = k1 + 1 := ⟨k - 1, by omega⟩
  unfold PA.chicaneref36_B_Int.f intStep intR
  simp only
  by_cases he : err = 0
  · subst he
    rw [if_pos rfl, if_pos rfl, rreadWhole_spec s (k1 + 1) (by omega), Option.bind_some]
    generalize hr : rdW s.data.toList = r
    obtain ⟨n, e⟩ := r
    have h24 : e ≠ 0 → n = 0 := by
      intro h
      unfold rdW at hr
      split at hr
      · split at hr
        · injection hr with _ h2; exact absurd h2.symm h
        · injection hr with h1 _; exact h1.symm
      · split at hr
        · injection hr with _ h2; exact absurd h2.symm h
        · injection hr with h1 _; exact h1.symm
    simp only
    by_cases h0 : e = 0
    · subst h0
      rw [if_pos rfl]
      by_cases h1 : n < lo
      · rw [if_pos h1, if_pos ⟨rfl, Or.inl h1⟩]
        rw [j0_eq, if_pos rfl, if_neg (by decide)]
        simp [PA.chicaneref36_B_fail.f, failE, failP]
      · rw [if_neg h1]
        by_cases h2 : n > hi
        · rw [if_pos ⟨rfl, Or.inr h2⟩]
          rw [j0_eq, if_pos (by simpa using h2), if_neg (by decide)]
          simp [PA.chicaneref36_B_fail.f, failE, failP]
        · rw [if_neg (by rintro ⟨_, h | h⟩; exact h1 h; exact h2 h)]
          rw [j0_eq, if_neg (by simpa using h2), if_pos rfl]
          simp [failE, failP]
    · have hn := h24 h0
      subst hn
      rw [if_neg h0, if_neg (fun h => h0 h.1)]
      rw [j0_eq, if_neg (by simp), if_neg h0]
      simp [PA.chicaneref36_B_fail.f, failE, failP, h0]
  · rw [if_neg he, if_neg he]

theorem rone_l (x : ByteArray) (zs : List ByteArray) (hz : zs.length ≤ 1000) (L : List ByteArray) (pos last place : Int) : ∀ (d i k : Nat), i + d = zs.length → d < k →
    PA.chicaneref36_B_One.l0 k x zs (i : Int) L pos last 0 place = some (if Lib.idxFromS (zs.drop i) x i < 0 then (0, pos, last, 24, last) else (Lib.idxFromS (zs.drop i) x i, pos, last, 0, place))
  | 0, i, k, hi, hk => by
    obtain ⟨k1, rfl⟩ : ∃ k1, k = k1 + 1 := ⟨k - 1, by omega⟩
    have hd : zs.drop i = [] := List.drop_eq_nil_iff.2 (by omega)
    unfold PA.chicaneref36_B_One.l0
    rw [if_neg (by omega), hd]
    simp [PA.chicaneref36_B_fail.f, Lib.idxFromS]
  | d + 1, i, k, hi, hk => by
    obtain ⟨k1, rfl⟩ : ∃ k1, k = k1 + 1 := ⟨k - 1, by omega⟩
    have hlt : i < zs.length := by omega
    have hw : wrap64 ((i : Int) + 1) = ((i + 1 : Nat) : Int) := by unfold wrap64; omega
    have hrd : rdOf ByteArray.empty zs (i : Int) = zs[i] := by
      unfold rdOf
      rw [Int.toNat_natCast, List.getD_eq_getElem?_getD, List.getElem?_eq_getElem hlt]
      rfl
    have heq : (zs[i].toList = x.toList) ↔ zs[i] = x := by
      constructor
      · intro he; rw [ByteArray.toList_eq, ByteArray.toList_eq] at he; exact ByteArray.ext (Array.ext' he)
      · intro he; rw [he]
    have ih := rone_l x zs hz L pos last place d (i + 1) k1 (by omega) (by omega)
    unfold PA.chicaneref36_B_One.l0
    rw [if_pos (by omega), if_pos (by omega), hrd, hw, List.drop_eq_getElem_cons hlt]
    unfold Lib.idxFromS
    by_cases h : zs[i] = x
    · rw [if_pos (heq.2 h), if_pos h, if_neg (by omega)]
    · rw [if_neg (fun he => h (heq.1 he)), if_neg h]
      exact ih
theorem rone_spec (k : Nat) (L : List ByteArray) (pos last : Int) (st : Int × Int) (s : ByteArray) (zs : List ByteArray) (hz : zs.length ≤ 1000) (hk : zs.length < k) :
    PA.chicaneref36_B_One.f k L pos last st.1 st.2 s zs = some ((oneStep last st zs s).1, pos, last, (oneStep last st zs s).2.1, (oneStep last st zs s).2.2) := by
  obtain ⟨err, place⟩ := st
  unfold PA.chicaneref36_B_One.f oneStep oneR
  simp only
  by_cases he : err = 0
  · subst he
    rw [if_pos rfl, if_pos rfl]
    have := rone_l s zs hz L pos last place zs.length 0 k (by omega) hk
    rw [show ((0 : Nat) : Int) = 0 from rfl, List.drop_zero] at this
    rw [this]
    show some (if Lib.idxOfS zs s < 0 then _ else _) = _
    unfold Lib.idxOfS
    split <;> simp [failE, failP]
  · rw [if_neg he, if_neg he]

theorem oneR_two (x : ByteArray) : (x = wAuto ∧ oneR [wAuto, wReset] x = (0, 0)) ∨ (x = wReset ∧ oneR [wAuto, wReset] x = (1, 0)) ∨ (x ≠ wAuto ∧ x ≠ wReset ∧ oneR [wAuto, wReset] x = (0, 24)) := by
  by_cases h1 : x = wAuto
  · left; subst h1; exact ⟨rfl, by decide⟩
  · right
    by_cases h2 : x = wReset
    · left; subst h2; exact ⟨rfl, by decide⟩
    · right
      refine ⟨h1, h2, ?_⟩
      have hi : Lib.idxOfS [wAuto, wReset] x = -1 := by
        simp only [Lib.idxOfS, Lib.idxFromS]
        rw [if_neg (fun h => h1 h.symm), if_neg (fun h => h2 h.symm)]
      unfold oneR
      rw [hi]
      rfl
theorem j0o_eq (k : Nat) (x1 : List ByteArray) (x7 : Int) (x1000 : List ByteArray) (x1001 x1002 x1003 x1004 a b c d e : Int) (f g : Bool) (hk : 2 ≤ k) (hl : x1.length = 8) :
    PA.chicaneref39_one.j0 (k + 1) x1 x7 x1000 x1001 x1002 x1003 x1004 a b c d e f g = (if g = true then
      some (x7, a, b, c, d, e, f, true, x1001, x1002, (oneStep x1002 (oneStep x1002 (x1003, x1004) [wAuto] ⟨#[]⟩).2 [wReset] (x1.getD 7 ByteArray.empty)).2.1, (oneStep x1002 (oneStep x1002 (x1003, x1004) [wAuto] ⟨#[]⟩).2 [wReset] (x1.getD 7 ByteArray.empty)).2.2)
      else some (x7, a, b, c, d, e, f, true, x1001, x1002, (oneStep x1002 (x1003, x1004) [wReset] (x1.getD 7 ByteArray.empty)).2.1, (oneStep x1002 (x1003, x1004) [wReset] (x1.getD 7 ByteArray.empty)).2.2)) := by
  have h1 := rone_spec k x1000 x1001 x1002 (x1003, x1004) ⟨#[]⟩ [wAuto] (by decide) (by simp; omega)
  have h2 := rone_spec k x1000 x1001 x1002 (oneStep x1002 (x1003, x1004) [wAuto] ⟨#[]⟩).2 (x1.getD 7 ByteArray.empty) [wReset] (by decide) (by simp; omega)
  have h3 := rone_spec k x1000 x1001 x1002 (x1003, x1004) (x1.getD 7 ByteArray.empty) [wReset] (by decide) (by simp; omega)
  have hrd : rdOf ByteArray.empty x1 7 = x1.getD 7 ByteArray.empty := rfl
  simp only [PA.chicaneref39_one.j0]
  rw [if_pos (by omega), hrd, show (⟨#[97, 117, 116, 111]⟩ : ByteArray) = wAuto from rfl, show (⟨#[114, 101, 115, 101, 116]⟩ : ByteArray) = wReset from rfl]
  simp only at h1 h3
  cases g with
  | true =>
    rw [if_pos rfl, if_pos rfl, h1]
    simp only [Option.bind_some]
    rw [if_pos (by omega), h2]
    simp only [Option.bind_some]
  | false =>
    rw [if_neg (show ¬ (false = true) by simp), if_neg (show ¬ (false = true) by simp), if_pos (by omega), h3]
    simp only [Option.bind_some]
theorem j0o_short (k : Nat) (x1 : List ByteArray) (x7 : Int) (x1000 : List ByteArray) (x1001 x1002 x1003 x1004 a b c d e : Int) (f g : Bool) (hl : x1.length ≤ 7) :
    PA.chicaneref39_one.j0 (k + 1) x1 x7 x1000 x1001 x1002 x1003 x1004 a b c d e f g = some (x7, a, b, c, d, e, f, g, x1001, x1002, x1003, x1004) := by
  simp only [PA.chicaneref39_one.j0]
  rw [if_neg (by omega)]

theorem rtakeL_spec (k : Nat) (hk : 40 < k) (L : List ByteArray) (pos last : Int) (st : Int × Int) (p : List ByteArray) (h6 : 6 ≤ p.length) (h8 : p.length ≤ 8) :
    ∃ au re, PA.chicaneref39_one.f k L pos last st.1 st.2 p = some (intsN last st p 0, intsN last st p 1, intsN last st p 2, intsN last st p 3, intsN last st p 4, intsN last st p 5, au, re, pos, last, (takeSt last st p).1, (takeSt last st p).2) ∧
      ((takeSt last st p).1 = 0 → au = takeAuto last st p ∧ re = takeReset last st p) := by
  obtain ⟨k1, rfl⟩ : ∃ k1, k = k1 + 1 := ⟨k - 1, by omega⟩
  have i0 : PA.chicaneref36_B_Int.f (k1 + 1) L pos last st.1 st.2 (rdOf ByteArray.empty p 0) 1 16777216 = some (intsN last st p 0, pos, last, (intsSt last st p 1).1, (intsSt last st p 1).2) := rint_spec (k1 + 1) (by omega) L pos last st _ _ _
  have i1 : PA.chicaneref36_B_Int.f (k1 + 1) L pos last (intsSt last st p 1).1 (intsSt last st p 1).2 (rdOf ByteArray.empty p 1) 0 255 = some (intsN last st p 1, pos, last, (intsSt last st p 2).1, (intsSt last st p 2).2) := rint_spec (k1 + 1) (by omega) L pos last (intsSt last st p 1) _ _ _
  have i2 : PA.chicaneref36_B_Int.f (k1 + 1) L pos last (intsSt last st p 2).1 (intsSt last st p 2).2 (rdOf ByteArray.empty p 2) 0 255 = some (intsN last st p 2, pos, last, (intsSt last st p 3).1, (intsSt last st p 3).2) := rint_spec (k1 + 1) (by omega) L pos last (intsSt last st p 2) _ _ _
  have i3 : PA.chicaneref36_B_Int.f (k1 + 1) L pos last (intsSt last st p 3).1 (intsSt last st p 3).2 (rdOf ByteArray.empty p 3) 0 255 = some (intsN last st p 3, pos, last, (intsSt last st p 4).1, (intsSt last st p 4).2) := rint_spec (k1 + 1) (by omega) L pos last (intsSt last st p 3) _ _ _
  have i4 : PA.chicaneref36_B_Int.f (k1 + 1) L pos last (intsSt last st p 4).1 (intsSt last st p 4).2 (rdOf ByteArray.empty p 4) (-127) 127 = some (intsN last st p 4, pos, last, (intsSt last st p 5).1, (intsSt last st p 5).2) := rint_spec (k1 + 1) (by omega) L pos last (intsSt last st p 4) _ _ _
  have i5 : PA.chicaneref36_B_Int.f (k1 + 1) L pos last (intsSt last st p 5).1 (intsSt last st p 5).2 (rdOf ByteArray.empty p 5) (-1) 8 = some (intsN last st p 5, pos, last, (intsSt last st p 6).1, (intsSt last st p 6).2) := rint_spec (k1 + 1) (by omega) L pos last (intsSt last st p 5) _ _ _
  have o6 : PA.chicaneref36_B_One.f (k1 + 1) L pos last (intsSt last st p 6).1 (intsSt last st p 6).2 (rdOf ByteArray.empty p 6) [wAuto, wReset] = _ := rone_spec (k1 + 1) L pos last (intsSt last st p 6) (p.getD 6 ByteArray.empty) [wAuto, wReset] (by decide) (by simp; omega)
  have key : PA.chicaneref39_one.f (k1 + 1) L pos last st.1 st.2 p = (if (p.length : Int) > 6 then PA.chicaneref39_one.j0 (k1 + 1) p (intsN last st p 0) L pos last (oneStep last (intsSt last st p 6) [wAuto, wReset] (p.getD 6 ByteArray.empty)).2.1 (oneStep last (intsSt last st p 6) [wAuto, wReset] (p.getD 6 ByteArray.empty)).2.2 (intsN last st p 1) (intsN last st p 2) (intsN last st p 3) (intsN last st p 4) (intsN last st p 5)
        (!((oneStep last (intsSt last st p 6) [wAuto, wReset] (p.getD 6 ByteArray.empty)).1 == 1)) ((oneStep last (intsSt last st p 6) [wAuto, wReset] (p.getD 6 ByteArray.empty)).1 == 1)
      else PA.chicaneref39_one.j0 (k1 + 1) p (intsN last st p 0) L pos last (intsSt last st p 6).1 (intsSt last st p 6).2 (intsN last st p 1) (intsN last st p 2) (intsN last st p 3) (intsN last st p 4) (intsN last st p 5) false false) := by
    unfold PA.chicaneref39_one.f
    rw [if_pos (by omega), i0]
    simp only [Option.bind_some]
    rw [if_pos (by omega), i1]
    simp only [Option.bind_some]
    rw [if_pos (by omega), i2]
    simp only [Option.bind_some]
    rw [if_pos (by omega), i3]
    simp only [Option.bind_some]
    rw [if_pos (by omega), i4]
    simp only [Option.bind_some]
    rw [if_pos (by omega), i5]
    simp only [Option.bind_some]
    rw [show (⟨#[97, 117, 116, 111]⟩ : ByteArray) = wAuto from rfl, show (⟨#[114, 101, 115, 101, 116]⟩ : ByteArray) = wReset from rfl, o6]
    simp only [Option.bind_some]
    by_cases h : (p.length : Int) > 6
    · rw [if_pos h, if_pos h, if_pos h]
    · rw [if_neg h, if_neg h]
  rw [key]
  clear key i0 i1 i2 i3 i4 i5 o6
  have h678 : p.length = 6 ∨ p.length = 7 ∨ p.length = 8 := by omega
  rcases h678 with h | h | h
  · rw [if_neg (by omega), j0o_short _ _ _ _ _ _ _ _ _ _ _ _ _ _ _ (by omega)]
    have t1 : takeSt last st p = intsSt last st p 6 := by unfold takeSt; rw [if_neg (by omega), if_neg (by omega)]
    have t2 : takeAuto last st p = false := by unfold takeAuto; rw [if_neg (by omega), if_neg (by omega)]
    have t3 : takeReset last st p = false := by unfold takeReset; rw [if_neg (by omega), if_neg (by omega)]
    rw [t1, t2, t3]
    exact ⟨_, _, rfl, fun _ => ⟨rfl, rfl⟩⟩
  · rw [if_pos (by omega), j0o_short _ _ _ _ _ _ _ _ _ _ _ _ _ _ _ (by omega)]
    obtain ⟨t1, t3, t2⟩ := take_7 last st p h
    rw [t1, t2, t3]
    exact ⟨_, _, rfl, fun _ => ⟨rfl, rfl⟩⟩
  · rw [if_pos (by omega), j0o_eq _ _ _ _ _ _ _ _ _ _ _ _ _ _ _ (by omega) h]
    have t1 : takeSt last st p = (oneStep last (oneStep last (oneStep last (intsSt last st p 6) [wAuto, wReset] (p.getD 6 ByteArray.empty)).2 [wAuto] (p.getD 6 ByteArray.empty)).2 [wReset] (p.getD 7 ByteArray.empty)).2 := by unfold takeSt; rw [if_pos h]
    have t2 : takeAuto last st p = true := by unfold takeAuto; rw [if_pos h]
    have t3 : takeReset last st p = true := by unfold takeReset; rw [if_pos h]
    rw [t1, t2, t3]
    generalize intsSt last st p 6 = s6
    generalize p.getD 6 ByteArray.empty = x
    generalize p.getD 7 ByteArray.empty = y
    obtain ⟨e6, p6⟩ := s6
    by_cases he : e6 = 0
    · subst he
      have a1 : oneR [wAuto] wAuto = (0, 0) := by decide
      have a2 : oneR [wAuto] wReset = (0, 24) := by decide
      have a3 : oneR [wAuto] ⟨#[]⟩ = (0, 24) := by decide
      rcases oneR_two x with ⟨rfl, h1⟩ | ⟨rfl, h1⟩ | ⟨hn1, hn2, h1⟩
      · have e1 : oneStep last (0, p6) [wAuto, wReset] wAuto = (0, 0, p6) := by unfold oneStep; rw [if_pos rfl, h1]; simp [failE, failP]
        have e2 : oneStep last (0, p6) [wAuto] wAuto = (0, 0, p6) := by unfold oneStep; rw [if_pos rfl, a1]; simp [failE, failP]
        rw [e1]
        simp only
        rw [e2, if_neg (by decide)]
        exact ⟨_, _, rfl, fun _ => ⟨by decide, rfl⟩⟩
      · have e1 : oneStep last (0, p6) [wAuto, wReset] wReset = (1, 0, p6) := by unfold oneStep; rw [if_pos rfl, h1]; simp [failE, failP]
        have e2 : oneStep last (0, p6) [wAuto] wReset = (0, 24, last) := by unfold oneStep; rw [if_pos rfl, a2]; simp [failE, failP]
        have e3 : oneStep last (0, p6) [wAuto] ⟨#[]⟩ = (0, 24, last) := by unfold oneStep; rw [if_pos rfl, a3]; simp [failE, failP]
        rw [e1]
        simp only
        rw [e2, e3, if_pos (by decide)]
        refine ⟨_, _, rfl, fun h => ?_⟩
        have := oneStep_zero h
        exact absurd this (show ¬ ((24 : Int) = 0) by decide)
      · have e1 : oneStep last (0, p6) [wAuto, wReset] x = (0, 24, last) := by unfold oneStep; rw [if_pos rfl, h1]; simp [failE, failP]
        have e2 : oneStep last (24, last) [wAuto] x = (0, 24, last) := by unfold oneStep; rw [if_neg (show ¬ ((24 : Int) = 0) by decide)]
        rw [e1]
        simp only
        rw [e2, if_neg (by decide)]
        refine ⟨_, _, rfl, fun h => ?_⟩
        have := oneStep_zero h
        exact absurd this (show ¬ ((24 : Int) = 0) by decide)
    · have e1 : ∀ zs z, oneStep last (e6, p6) zs z = (0, e6, p6) := by intro zs z; unfold oneStep; rw [if_neg he]
      simp only [e1]
      rw [if_neg (by decide)]
      exact ⟨_, _, rfl, fun h => absurd h he⟩
end Go.Proofs.YtbhbpopebmdemaaDoor

namespace Go.Proofs.YtbhbpopebmdemaaDoor
open Go.RowKit Go.Proofs.YtbhbpopebmdemaaDoorW.PrintWords Go.Proofs.YtbhbpopebmdemaaDoorW.PrintLast Go.Proofs.YtbhbpopebmdemaaDoorW.PrintMore
open ChiPure Go.Lib Go.Shelf
set_option linter.unusedVariables false
set_option linter.unusedSimpArgs false

/-! ### End -/
set_option maxRecDepth 100000 in
set_option maxHeartbeats 4000000 in
theorem rend_any (w0 w : World) (g : Nat) (L : List ByteArray) (hL : LSm L) (b : BS) (h : RS w0 w g L b) :
    Calls Tryd.prog 41 #[.pointer (some ⟨g, 0, none⟩)] w fun e w' => e = .returned (.tuple #[.int .i64 (endR b).1, .int .i64 (endR b).2]) ∧ Below w0.heap.size w0 w' ∧ KeepBut w w' g none := by
  obtain ⟨ls, last, err, place⟩ := b
  obtain ⟨pos, hRB, hls⟩ := h
  simp only at hRB hls
  have hp := hRB.2.2
  have hlen := hL.1
  have hsk := skip_any w0 w g L hL.ok.1 hL.ok.2 pos last err place hRB
  by_cases he : err = 0
  · subst he
    cases ls with
    | nil =>
      rw [skip_end hp hls.symm] at hsk
      have hE : endR ⟨[], last, 0, place⟩ = (0, place) := rfl
      rw [hE]
      clear hRB hls hL hE
      go_enter Tryd.func41, Tryd.ntmps41
      go_wp2_with fail
      refine hsk.mono ?_
      rintro e w1 ⟨rfl, hRB, hK⟩
      clear hsk
      have hRB1 := hRB
      obtain ⟨⟨A0, c0, HG, hg, hC⟩, hB, hp⟩ := hRB
      have x0 := PA.cellS56_0 HG
      have x1 := PA.cellS56_1 HG
      have x3 := PA.cellS56_3 HG
      have x4 := PA.cellS56_4 HG
      have hlt1 : decide ((L.length : Int) < (L.length : Int)) = false := by simp
      have hlt2 : decide (L.length < L.length) = false := by simp
      have HR := Lib.hid hRB1
      have HK := Lib.hid hK
      clear hRB1 hK HG hg hC hB hp
      go_wp2_with fail
      go_quiet (fail)
      go_wp2_with fail
      go_quiet (fail)
      go_wp2_with fail
      go_ret2
      exact ⟨rfl, pw_below_drewN (pw_below_drewN HR.out.2.1 _) _, keep_drewN (keep_drewN HK.out _) _⟩
    | cons x r =>
      obtain ⟨q, hsq, hq, hx, hr, hne⟩ := skip_at hp hls.symm
      rw [hsq] at hsk
      have hE : endR ⟨x :: r, last, 0, place⟩ = (23, (q : Int) + 1) := by rw [hx]; rfl
      rw [hE]
      clear hRB hls hL hE hsq hx hr hne
      go_enter Tryd.func41, Tryd.ntmps41
      go_wp2_with fail
      refine hsk.mono ?_
      rintro e w1 ⟨rfl, hRB, hK⟩
      clear hsk
      have hfl := PA.chicaneref36_B_fail.calls g L (q : Int) last 0 place 23 ((q : Int) + 1) (q : Int) last 23 ((q : Int) + 1) w0
      have hRB1 := hRB
      obtain ⟨⟨A0, c0, HG, hg, hC⟩, hB, hp⟩ := hRB
      have x0 := PA.cellS56_0 HG
      have x1 := PA.cellS56_1 HG
      have x3 := PA.cellS56_3 HG
      have x4 := PA.cellS56_4 HG
      have hlt1 : decide ((q : Int) < (L.length : Int)) = true := by simp; omega
      have hlt2 : decide (q < L.length) = true := by simp; omega
      have hq0 : (0 : Int) ≤ (q : Int) := by omega
      have hqb : (q : Int) ≤ 4294967296 := by omega
      have HR := Lib.hid hRB1
      have HK := Lib.hid hK
      clear hRB1 hK HG hg hC hB hp hlen
      go_wp2_with fail
      go_quiet (fail)
      have hr := HR.out.keep (pw_below_drewN (Below.refl _ _) nq)
      have HFL := Lib.hid (hfl _ hr.1 hr.2.1 rfl)
      clear hr hfl
      go_wp2_with fail
      refine HFL.out.mono ?_
      rintro e w2 ⟨rfl, hI, hB2, hK2⟩
      clear HFL x0 x1 x3 x4
      obtain ⟨A1, c1, HG1, hg1, hC1⟩ := hI
      have y3 := PA.cellS56_3 HG1
      have y4 := PA.cellS56_4 HG1
      have HB2 := Lib.hid hB2
      have HK2 := Lib.hid ((keep_drewN HK.out nq).trans hK2 (.inl rfl))
      clear HG1 hg1 hC1 hB2 hK2
      go_wp2_with fail
      go_quiet (fail)
      go_wp2_with fail
      go_ret2
      exact ⟨rfl, pw_below_drewN HB2.out _, keep_drewN HK2.out _⟩
  · have hE : endR ⟨ls, last, err, place⟩ = (err, place) := by
      unfold endR
      cases ls with
      | nil => rfl
      | cons x r => simp only; rw [failE_old (fun h => he h.1), failP_old (fun h => he h.1)]
    rw [hE]
    have b1 : (err == 0) = false := by simp [he]
    clear hRB hls hL hE he
    go_enter Tryd.func41, Tryd.ntmps41
    go_wp2_with fail
    refine hsk.mono ?_
    rintro e w1 ⟨rfl, hRB, hK⟩
    clear hsk
    have hRB1 := hRB
    obtain ⟨⟨A0, c0, HG, hg, hC⟩, hB, hp⟩ := hRB
    have x3 := PA.cellS56_3 HG
    have x4 := PA.cellS56_4 HG
    have HR := Lib.hid hRB1
    have HK := Lib.hid hK
    clear hRB1 hK HG hg hC hB hp
    go_wp2_with fail
    go_quiet (fail)
    go_wp2_with fail
    go_quiet (fail)
    go_wp2_with fail
    go_ret2
    exact ⟨rfl, pw_below_drewN (pw_below_drewN HR.out.2.1 _) _, keep_drewN (keep_drewN HK.out _) _⟩

/-! ### Open -/
/-- a text's book, opened. -/
def ROpen (s : ByteArray) (w : World) (e : Ending) (w' : World) : Prop :=
  ∃ w0 g, e = .returned (.pointer (some ⟨g, 0, none⟩)) ∧ RS w0 w' g (lns s) ⟨bkTo (lns s) (lns s).length, 0, 0, 0⟩ ∧ Below w.heap.size w w0 ∧ Below w.heap.size w w' ∧ w'.heap.size = g + 1
set_option maxRecDepth 100000 in
set_option maxHeartbeats 2000000 in
theorem ropen_any (s : ByteArray) (hs : s.size ≤ 8000000000000) (w : World) : Calls Tryd.prog 36 #[.string s] w (ROpen s w) := by
  have hl := rlines_any s hs w
  go_enter Tryd.func36, Tryd.ntmps36
  go_wp2_with fail
  refine hl.mono ?_
  rintro e w1 ⟨v, rfl, hR, hb⟩
  clear hl
  obtain ⟨A, c, rfl, hc, hC⟩ := Kd.R_reads hR
  have HC := Lib.hid hC
  have HB := Lib.hid hb
  clear hR hC hb hc
  go_wp2_with fail
  go_ret
  refine ⟨w1, w1.heap.size, rfl, ⟨0, ⟨?_, ?_, Nat.zero_le _⟩, ?_⟩, HB.out, HB.out.alloc HB.out.size _, by simp⟩
  · exact PA.IsS56.new w1 w1 A c (lns s) 0 0 0 0 (Below.refl _ _) HC.out
  · exact (Below.refl _ _).alloc (Nat.le_refl _) _
  · rw [Nat.sub_zero]; exact bkTo_bkF _ _
end Go.Proofs.YtbhbpopebmdemaaDoor

namespace Go.Proofs.YtbhbpopebmdemaaDoor
open Go.RowKit Go.Proofs.YtbhbpopebmdemaaDoorW.PrintWords Go.Proofs.YtbhbpopebmdemaaDoorW.PrintLast Go.Proofs.YtbhbpopebmdemaaDoorW.PrintMore
open ChiPure Go.Lib Go.Shelf
set_option linter.unusedVariables false
set_option linter.unusedSimpArgs false

theorem RS.below {w0 W : World} {g : Nat} {L : List ByteArray} {b : BS} (h : RS w0 W g L b) : Below w0.heap.size w0 W := by
  obtain ⟨pos, hRB, _⟩ := h
  exact hRB.2.1
theorem RS.lt {w0 W : World} {g : Nat} {L : List ByteArray} {b : BS} (h : RS w0 W g L b) : g < W.heap.size := by
  obtain ⟨pos, hRB, _⟩ := h
  exact hRB.lt
theorem RS.step {w0 W W1 : World} {g : Nat} {L : List ByteArray} {b : BS} (h : RS w0 W g L b) (hb : Below W.heap.size W W1) : RS w0 W1 g L b := by
  obtain ⟨pos, hRB, hl⟩ := h
  exact ⟨pos, hRB.keep hb, hl⟩
theorem RS.grown {w0 W W1 : World} {g : Nat} {L : List ByteArray} {b : BS} {row : Option Nat} (h : RS w0 W g L b) (hg : W.grownBy W1 row) (hne : some g ≠ row) (hrow : ∀ k, row = some k → w0.heap.size ≤ k) : RS w0 W1 g L b := by
  obtain ⟨pos, hRB, hl⟩ := h
  exact ⟨pos, ⟨hRB.1.grown hg hne, hRB.2.1.grown hg hRB.2.1.size hrow, hRB.2.2⟩, hl⟩
theorem own_keep {W W1 : World} {g base size n : Nat} {e : TypeId} {v : Value} {xs : List Value} (hk : KeepBut W W1 g none) (ho : W.ownsRow base e size v n xs) (hg : g < base) : W1.ownsRow base e size v n xs :=
  hk.own ho (own_ne_g hg ho) (by rcases h : v.ownBlock with _ | k; exact .inl rfl; exact .inr (by simp))

/-- what holds at the head of the reference's loop. -/
def QRel (w0 : World) (g : Nat) (L : List ByteArray) (R : BS × List Ctl) (kq : Nat) (v6 : Value) (wr : World) : Prop :=
  ∃ (b : BS) (out : List Ctl), pLoop (L.length : Int) kq b out = R ∧ b.ls.length ≤ kq ∧ out.length ≤ 16777216 ∧ RS w0 wr g L b ∧ wr.ownsRow (g + 1) 35 7 v6 out.length (out.flatMap ctlC)
/-- .. and within it. -/
def QIn (w0 : World) (g hc : Nat) (L : List ByteArray) (b : BS) (out : List Ctl) (c : Ctl) (n : Nat) (kq : Nat) (v6 v10 : Value) (wr : World) : Prop :=
  ∃ (i : Nat) (o2 : List Ctl), kq + i = n ∧ v10 = .int .i64 (i : Int) ∧ o2 = out ++ List.replicate i c ∧ RS w0 wr g L b ∧ wr.ownsRow (g + 1) 35 7 v6 o2.length (o2.flatMap ctlC) ∧
    wr.heap[hc]? = some (.cells (ctlC c).toArray 35 (0, 0)) ∧ v6.ownBlock ≠ some hc ∧ g < hc

theorem shape_f (L : List ByteArray) (pos last err place : Int) : PA.chicaneref36_B_Shape.f L pos last err place = some (pos, last, failE err 42, failP err 42 place last) := by
  unfold PA.chicaneref36_B_Shape.f PA.chicaneref36_B_fail.f failE failP
  by_cases h : err = 0
  · subst h; simp
  · simp [h]

set_option maxRecDepth 100000 in
set_option maxHeartbeats 4000000 in
theorem rparse_any (s : ByteArray) (w : World) (hs : s.size < 4294967281) : Calls Tryd.prog 11 #[.string s] w (ParsePost s w) := by
  have hopen := ropen_any s (by omega) w
  have hLS : LSm (lns s) := ⟨by have := lns_len s; omega, fun k hk => by have := lns_size s k hk; omega⟩
  have hall : (lns s).length ≤ 4294967296 := hLS.1
  have hpr : parseR s = (if (endR (tk (lns s).length wEnd 0 0 (pLoop (lns s).length (tk (lns s).length wScript 0 0 ⟨bkTo (lns s) (lns s).length, 0, 0, 0⟩).2.ls.length (tk (lns s).length wScript 0 0 ⟨bkTo (lns s) (lns s).length, 0, 0, 0⟩).2 []).1).2).1 = 0 then
      ((pLoop (lns s).length (tk (lns s).length wScript 0 0 ⟨bkTo (lns s) (lns s).length, 0, 0, 0⟩).2.ls.length (tk (lns s).length wScript 0 0 ⟨bkTo (lns s) (lns s).length, 0, 0, 0⟩).2 []).2, 0, 0)
      else ([], (endR (tk (lns s).length wEnd 0 0 (pLoop (lns s).length (tk (lns s).length wScript 0 0 ⟨bkTo (lns s) (lns s).length, 0, 0, 0⟩).2.ls.length (tk (lns s).length wScript 0 0 ⟨bkTo (lns s) (lns s).length, 0, 0, 0⟩).2 []).1).2).1, (endR (tk (lns s).length wEnd 0 0 (pLoop (lns s).length (tk (lns s).length wScript 0 0 ⟨bkTo (lns s) (lns s).length, 0, 0, 0⟩).2.ls.length (tk (lns s).length wScript 0 0 ⟨bkTo (lns s) (lns s).length, 0, 0, 0⟩).2 []).1).2).2)) := rfl
  unfold ROpen at hopen
  generalize lns s = L at *
  go_enter Tryd.func11, Tryd.ntmps11
  go_wp2_with (go_at_call 36; refine hopen.mono ?_; rintro e W1 ⟨w0, g, rfl, hRS, hB0, hB1, hz⟩; clear hopen)
  have hg0 : w.heap.size ≤ g := by have := hRS.below.size; have h2 := hB0.size; obtain ⟨pos, hRB, _⟩ := hRS; exact Nat.le_trans h2 hRB.1.ge
  have htk := rtake_any w0 W1 g L hLS 0 0 wScript ⟨bkTo L L.length, 0, 0, 0⟩ hRS
  refine htk.mono ?_
  rintro e W2 ⟨⟨A, c, rfl, _, _, _⟩, hRS2, hK2⟩
  clear htk hRS
  generalize hb1 : (tk (L.length : Int) wScript 0 0 ⟨bkTo L L.length, 0, 0, 0⟩).2 = b1 at *
  have HB1 := Lib.hid hb1
  clear hb1
  generalize hRR : pLoop (L.length : Int) b1.ls.length b1 [] = RR at *
  have HRR := Lib.hid hRR
  have HPR := Lib.hid hpr
  have HRS2 := Lib.hid hRS2
  have HB0 := Lib.hid hB0
  clear hRR hpr hRS2 hB0 hB1 hK2 hz
  go_wp2_with fail
  go_loopg [6] b1.ls.length (fun kq v6 wr => Hid (QRel w0 g L RR kq v6 wr))
  case atStart => exact ⟨b1, [], HRR.out, Nat.le_refl _, by simp, HRS2.out, own_nil _ _ _ _⟩
  case round =>
    have hrel' := hrel.out
    clear hrel
    obtain ⟨b, out, hR, hbl, hol, hRS, hown⟩ := hrel'
    have hnext := rnext_any w0 wr g L hLS wDo b hRS
    by_cases hnx : nx wDo b = true
    · rw [hnx] at hnext
      cases gk with
      | zero =>
        have : b.ls = [] := List.eq_nil_of_length_eq_zero (by omega)
        unfold nx at hnx
        rw [this] at hnx
        simp at hnx
      | succ k1 =>
        simp only [pLoop] at hR
        rw [if_pos hnx] at hR
        clear hRS
        go_wp2_with fail
        refine hnext.mono ?_
        rintro e w1 ⟨rfl, hRS1, hK1⟩
        clear hnext hnx
        have hown1 := own_keep hK1 hown (Nat.lt_succ_self g)
        have htk := rtake_any w0 w1 g L hLS 6 8 wDo b hRS1
        clear hown hK1
        go_wp2_with fail
        refine htk.mono ?_
        rintro e w2 ⟨⟨Ap, cp, rfl, hcp, hCp, hnep⟩, hRS2, hK2⟩
        clear htk hRS1
        have hown2 := own_keep hK2 hown1 (Nat.lt_succ_self g)
        clear hown1 hK2
        cases hr : (tk (L.length : Int) wDo 6 8 b).1 with
        | none =>
          rw [hr] at hR
          have HRX := Lib.hid hR.symm
          clear hR hr hcp hCp hnep
          go_wp2_with fail
          have htk := rtake_any w0 w2 g L hLS 0 0 wEnd (tk (L.length : Int) wDo 6 8 b).2 hRS2
          refine htk.mono ?_
          rintro e w3 ⟨⟨A3, c3, rfl, _, _, _⟩, hRS3, hK3⟩
          clear htk
          have hown3 := own_keep hK3 hown2 (Nat.lt_succ_self g)
          have hend := rend_any w0 w3 g L hLS _ hRS3
          generalize heR : endR (tk (L.length : Int) wEnd 0 0 (tk (L.length : Int) wDo 6 8 b).2).2 = eR at *
          obtain ⟨eE, eA⟩ := eR
          have HER := Lib.hid heR
          have HO3 := Lib.hid hown3
          clear heR hRS3 hown3 hK3
          go_wp2_with fail
          refine hend.mono ?_
          rintro e w4 ⟨rfl, hB4, hK4⟩
          clear hend
          have hown4 := own_keep hK4 HO3.out (Nat.lt_succ_self g)
          have hbw4 : Below w.heap.size w w4 := HB0.out.trans (hB4.mono HB0.out.size)
          have HO4 := Lib.hid hown4
          have HW4 := Lib.hid hbw4
          clear hown4 hbw4 hB4 hK4
          dsimp only
          by_cases he0 : eE = 0
          · have bz : (eE != 0) = false := by simp [he0]
            have HE0 := Lib.hid he0
            clear he0
            go_wp2_with fail
            go_ret3
            refine ⟨_, by rw [HPR.out, HRX.out, HER.out, if_pos HE0.out]; rfl, ?_, HW4.out⟩
            rw [HPR.out, HRX.out, HER.out, if_pos HE0.out]
            exact R_of_flat (own_weaken HO4.out (by omega))
          · have bz : (eE != 0) = true := by simp [he0]
            have HE0 := Lib.hid he0
            clear he0
            go_wp2_with fail
            go_ret3
            refine ⟨_, by rw [HPR.out, HRX.out, HER.out, if_neg HE0.out]; rfl, ?_, HW4.out⟩
            rw [HPR.out, HRX.out, HER.out, if_neg HE0.out]
            exact Kd.R_nil _ _ _ _ _
        | some p =>
          rw [hr] at hR hcp hCp hnep
          simp only [Option.getD_some] at hcp hCp hnep
          obtain ⟨hk1, hk2, hk3, hk4⟩ := tk_some hr
          have hbl2 : (tk (L.length : Int) wDo 6 8 b).2.ls.length ≤ k1 := by omega
          have hn0 : (takeSt (tk (L.length : Int) wDo 6 8 b).2.last ((tk (L.length : Int) wDo 6 8 b).2.err, (tk (L.length : Int) wDo 6 8 b).2.place) p).1 = 0 → (1 : Int) ≤ intsN (tk (L.length : Int) wDo 6 8 b).2.last ((tk (L.length : Int) wDo 6 8 b).2.err, (tk (L.length : Int) wDo 6 8 b).2.place) p 0 ∧ intsN (tk (L.length : Int) wDo 6 8 b).2.last ((tk (L.length : Int) wDo 6 8 b).2.err, (tk (L.length : Int) wDo 6 8 b).2.place) p 0 ≤ 16777216 := fun h => take_n h 0 (by omega)
          simp only [takeC] at hR
          obtain ⟨pos, hRB, hls2⟩ := hRS2
          generalize (tk (L.length : Int) wDo 6 8 b).2 = b2 at *
          obtain ⟨au, re, hone, hcond⟩ := rtakeL_spec 50 (by omega) L (pos : Int) b2.last (b2.err, b2.place) p (by omega) (by omega)
          have hoc := PA.chicaneref39_one.calls 50 g L (pos : Int) b2.last b2.err b2.place Ap cp p _ _ _ _ _ _ _ _ _ _ _ _ w0 w2 hRB.1 hRB.2.1 hCp hcp hnep hone
          have hposL := hRB.2.2
          clear hRB hCp hnep hone hr hk1 hbl
          generalize intsN b2.last (b2.err, b2.place) p 0 = n0 at *
          generalize intsN b2.last (b2.err, b2.place) p 1 = x1 at *
          generalize intsN b2.last (b2.err, b2.place) p 2 = x2 at *
          generalize intsN b2.last (b2.err, b2.place) p 3 = x3 at *
          generalize intsN b2.last (b2.err, b2.place) p 4 = x4 at *
          generalize intsN b2.last (b2.err, b2.place) p 5 = x5 at *
          generalize takeAuto b2.last (b2.err, b2.place) p = x6 at *
          generalize takeReset b2.last (b2.err, b2.place) p = x7 at *
          generalize takeSt b2.last (b2.err, b2.place) p = st at *
          have hpl : (((p.length : Nat) : Int) == 0) = false := by rw [beq_eq_false_iff_ne]; omega
          clear hk2 hk3 hk4
          obtain ⟨e3, p3⟩ := st
          simp only at hR hn0 hoc hcond
          have HR := Lib.hid hR
          have HCO := Lib.hid hcond
          have HN0 := Lib.hid hn0
          have HLS := Lib.hid hls2
          clear hR hcond hn0 hls2
          go_wp2_with fail
          refine hoc.mono ?_
          rintro e w3 ⟨rfl, hI3, hB3, hK3⟩
          clear hoc
          have hown3 := own_keep hK3 hown2 (Nat.lt_succ_self g)
          have HI3 := Lib.hid hI3
          have HB3 := Lib.hid hB3
          have HO3 := Lib.hid hown3
          have hsl := ownsRow_len hown3
          obtain ⟨Ao, co, rfl⟩ := hsl
          have hol0 : (0 : Int) ≤ (out.length : Int) := by omega
          have hol1 : (out.length : Int) ≤ 16777216 := by omega
          clear hI3 hB3 hK3 hown3 hown2
          by_cases hbig : 16777216 - (out.length : Int) < n0
          · have hR2 := HR.out
            rw [if_pos hbig] at hR2
            have HR2 := Lib.hid hR2
            clear hR2 HR
            have hshape := PA.chicaneref36_B_Shape.calls g L (pos : Int) b2.last e3 p3 _ _ _ _ w0 _ (HI3.out.alloc (.cells #[.int .i64 x1, .int .i64 x2, .int .i64 x3, .int .i64 x4, .int .i64 x5, .bool au, .bool re] 35)) (HB3.out.alloc HB3.out.size _) (shape_f L (pos : Int) b2.last e3 p3)
            have hne42 : failE e3 42 ≠ 0 := by
              unfold failE
              by_cases h : e3 = 0
              · rw [if_pos ⟨h, by decide⟩]; decide
              · rw [if_neg (fun hh => h hh.1)]; exact h
            have hnn : decide (0 < n0) = true := by simp; omega
            go_wp2_with fail
            refine hshape.mono ?_
            rintro e w5 ⟨rfl, hI5, hB5, hK5⟩
            clear hshape
            have hown5 := own_keep hK5 (pw_own_below HO3.out ((Below.refl _ w3).alloc (Nat.le_refl _) (.cells #[.int .i64 x1, .int .i64 x2, .int .i64 x3, .int .i64 x4, .int .i64 x5, .bool au, .bool re] 35))) (Nat.lt_succ_self g)
            have HI5 := Lib.hid hI5
            have hI6 := hI5
            obtain ⟨A5, c5, HG5, hg5, hC5⟩ := hI6
            have y3 := PA.cellS56_3 HG5
            have bE : (failE e3 42 == 0) = false := by simp [hne42]
            have HB5 := Lib.hid hB5
            have HO5 := Lib.hid hown5
            clear hI5 HG5 hg5 hC5 hB5 hK5 hown5 hne42 hbig
            generalize failE e3 42 = E at *
            generalize failP e3 42 p3 b2.last = E2 at *
            go_wp2_with fail
            go_loopg [6, 10] 0 (fun kq v6 v10 wq => Hid (v6 = .slice Ao out.length co ∧ v10 = .int .i64 0 ∧ wq = w5))
            case atStart => exact ⟨rfl, rfl, rfl⟩
            case round =>
              have hr2 := hrel.out
              clear hrel
              obtain ⟨rfl, rfl, rfl⟩ := hr2
              go_wp2_with fail
              go_roundg k1
              case rel => exact ⟨⟨b2.ls, b2.last, E, E2⟩, out, HR2.out, hbl2, hol, ⟨pos, ⟨HI5.out, HB5.out, hposL⟩, HLS.out⟩, HO5.out⟩
              case measure => omega
          · have hR2 := HR.out
            rw [if_neg hbig] at hR2
            have HR2 := Lib.hid hR2
            clear hR2 HR
            obtain ⟨w5, hw5⟩ : ∃ w5, w3.alloc (.cells #[.int .i64 x1, .int .i64 x2, .int .i64 x3, .int .i64 x4, .int .i64 x5, .bool au, .bool re] 35) = w5 := ⟨_, rfl⟩
            have hI5 := HI3.out.alloc (.cells #[.int .i64 x1, .int .i64 x2, .int .i64 x3, .int .i64 x4, .int .i64 x5, .bool au, .bool re] 35)
            have hB5 := HB3.out.alloc HB3.out.size (.cells #[.int .i64 x1, .int .i64 x2, .int .i64 x3, .int .i64 x4, .int .i64 x5, .bool au, .bool re] 35)
            have hown5 := pw_own_below HO3.out ((Below.refl _ w3).alloc (Nat.le_refl _) (.cells #[.int .i64 x1, .int .i64 x2, .int .i64 x3, .int .i64 x4, .int .i64 x5, .bool au, .bool re] 35))
            have hblk := blk_new w3 (.cells #[.int .i64 x1, .int .i64 x2, .int .i64 x3, .int .i64 x4, .int .i64 x5, .bool au, .bool re] 35)
            have hghc : g < w3.heap.size := HI3.out.lt
            have hnob : (Value.slice Ao out.length co).ownBlock ≠ some w3.heap.size := fun he => by have := own_lt HO3.out _ he; omega
            by_cases he3 : e3 = 0
            · subst he3
              obtain ⟨rfl, rfl⟩ := HCO.out rfl
              obtain ⟨h1n, h2n⟩ := HN0.out rfl
              have hR3 := HR2.out
              rw [if_pos rfl] at hR3
              obtain ⟨n, rfl⟩ := Int.eq_ofNat_of_zero_le (show 0 ≤ n0 by omega)
              rw [Int.toNat_natCast] at hR3
              have HR3 := Lib.hid hR3
              have HI5 := Lib.hid hI5
              have HB5 := Lib.hid hB5
              have HO5 := Lib.hid hown5
              have HK5 := Lib.hid hblk
              have HNB := Lib.hid hnob
              have hbn : (out.length : Int) + (n : Int) ≤ 16777216 := by omega
              have hnn0 : (0 : Int) ≤ (n : Int) := by omega
              clear hI5 hB5 hown5 hblk hnob hR3 HR2 hbig HCO HN0 h1n hw5
              go_wp2_with fail
              generalize hhc : w3.heap.size = hc at *
              have HHC := Lib.hid hhc
              clear hhc
              go_loopg [6, 10] n (fun kq v6 v10 wq => Hid (QIn w0 g hc L ⟨b2.ls, b2.last, 0, p3⟩ out ⟨x1, x2, x3, x4, x5, au, re⟩ n kq v6 v10 wq))
              case atStart => exact ⟨0, out, rfl, rfl, by simp, ⟨pos, ⟨HI5.out, HB5.out, hposL⟩, HLS.out⟩, HO5.out, HK5.out, HNB.out, hghc⟩
              case round =>
                have hr2 := hrel.out
                clear hrel
                obtain ⟨i, o2, hi, rfl, ho2, hRSi, howni, hblki, hnobi, _⟩ := hr2
                have hol2 : o2.length ≤ 16777216 := by rw [ho2, List.length_append, List.length_replicate]; omega
                have HO2 := Lib.hid ho2
                clear ho2
                obtain ⟨pos2, hRBi, hls3⟩ := hRSi
                have hRBj := hRBi
                obtain ⟨⟨A5, c5, HG5, hg5, hC5⟩, hBi, hpi⟩ := hRBj
                have y3 := PA.cellS56_3 HG5
                have HRB := Lib.hid hRBi
                have HLS3 := Lib.hid hls3
                clear HG5 hg5 hC5 hBi hpi hRBi hls3
                have hsl := ownsRow_len howni
                obtain ⟨Ai, ci, rfl⟩ := hsl
                have HOI := Lib.hid howni
                have HKI := Lib.hid hblki
                have HNI := Lib.hid hnobi
                clear howni hnobi
                cases gk with
                | zero =>
                  obtain rfl : i = n := by omega
                  have hlt1 : decide ((i : Int) < (i : Int)) = false := by simp
                  have hlt2 : decide (i < i) = false := by simp
                  clear hblki
                  go_wp2_with fail
                  go_roundg k1
                  case rel => exact ⟨⟨b2.ls, b2.last, 0, p3⟩, o2, by rw [HO2.out]; exact HR3.out, hbl2, hol2, ⟨pos2, HRB.out, HLS3.out⟩, HOI.out⟩
                  case measure => omega
                | succ k2 =>
                  have hlt1 : decide ((i : Int) < (n : Int)) = true := by simp; omega
                  have hlt2 : decide (i < n) = true := by simp; omega
                  have z0 := (blk_cell hblki 0).trans (show (ctlC ⟨x1, x2, x3, x4, x5, au, re⟩).toArray[0]? = some (.int .i64 x1) from rfl)
                  have z1 := (blk_cell hblki 1).trans (show (ctlC ⟨x1, x2, x3, x4, x5, au, re⟩).toArray[1]? = some (.int .i64 x2) from rfl)
                  have z2 := (blk_cell hblki 2).trans (show (ctlC ⟨x1, x2, x3, x4, x5, au, re⟩).toArray[2]? = some (.int .i64 x3) from rfl)
                  have z3 := (blk_cell hblki 3).trans (show (ctlC ⟨x1, x2, x3, x4, x5, au, re⟩).toArray[3]? = some (.int .i64 x4) from rfl)
                  have z4 := (blk_cell hblki 4).trans (show (ctlC ⟨x1, x2, x3, x4, x5, au, re⟩).toArray[4]? = some (.int .i64 x5) from rfl)
                  have z5 := (blk_cell hblki 5).trans (show (ctlC ⟨x1, x2, x3, x4, x5, au, re⟩).toArray[5]? = some (.bool au) from rfl)
                  have z6 := (blk_cell hblki 6).trans (show (ctlC ⟨x1, x2, x3, x4, x5, au, re⟩).toArray[6]? = some (.bool re) from rfl)
                  have hu35 := Tryd.underlying35
                  have hilen : (i : Int) + 1 ≤ 16777216 := by omega
                  have hi0 : (0 : Int) ≤ (i : Int) := by omega
                  obtain ⟨i0, hiA, hiB, hiC, hiD⟩ := info_parts info35
                  have hmi : o2.length = out.length + i := by rw [HO2.out, List.length_append, List.length_replicate]
                  have hbaseI : g + 1 ≤ wr.heap.size := by have := blk_lt HKI.out; omega
                  have hcl := blk_lt HKI.out
                  have HMI := Lib.hid hmi
                  clear hblki hmi
                  go_wp2_with (at_builtin; refine wpList_append_own_at _ rfl (.tmp 49) (.tmp 51) 23 rfl (g + 1) 35 i0 _ 7 48 Tryd.underlying23 hiA hiB hiC hiD rfl (by decide) (.slice Ai o2.length ci) o2.length (o2.flatMap ctlC) rfl (pw_own_below HOI.out ((Below.refl _ wr).alloc (Nat.le_refl _) _)) ⟨wr.heap.size, 0, none⟩ 1 1 (ctlC ⟨x1, x2, x3, x4, x5, au, re⟩) rfl ?c1 ?c2 ?c3 ?c4 ?c5 ?c6 ?_; (case c1 => rfl); (case c2 => exact fun j u hj => by rw [add_plain, blk_cell (blk_new wr _)]; simpa [ctlC] using hj); (case c3 => exact fun u hu => ctlC_one _ u hu); (case c4 => unfold maxLen; omega); (case c5 => omega); (case c6 => simp; omega); intro v6 w6 hown6 hgr6 hnil6 hat6; have HO6 := Lib.hid hown6; have HG6 := Lib.hid hgr6; have HA6 := Lib.hid hat6; clear hown6 hgr6 hnil6 hat6)
                  go_roundg k2
                  case measure => omega
                  case rel =>
                    have hgr6 := HG6.out
                    have hb6 : Below wr.heap.size wr (wr.alloc (.cells (ctlC ⟨x1, x2, x3, x4, x5, au, re⟩).toArray 35)) := (Below.refl _ wr).alloc (Nat.le_refl _) _
                    have hgne : some g ≠ (Value.slice Ai o2.length ci).ownBlock := fun he => own_ne_g (Nat.lt_succ_self g) HOI.out he.symm
                    refine ⟨i + 1, o2 ++ [⟨x1, x2, x3, x4, x5, au, re⟩], by omega, by simp, by rw [HO2.out, List.append_assoc, List.replicate_succ'], ?_, ?_, ?_, ?_, hghc⟩
                    · exact RS.grown (RS.step ⟨pos2, HRB.out, HLS3.out⟩ hb6) hgr6 hgne (fun k hk => by have := own_base HOI.out k hk; have := HRB.out.1.ge; omega)
                    · have ho := HO6.out
                      rw [List.length_append, List.flatMap_append]
                      simpa using ho
                    · exact blk_grown (blk_alloc HKI.out _) hgr6 (fun he => HNI.out he.symm)
                    · intro he
                      rcases HA6.out with h | h
                      · rw [h] at he; exact HNI.out he
                      · rw [h] at he
                        injection he with he
                        simp at he
                        omega
            · have bE : (e3 == 0) = false := by simp [he3]
              have hR3 := HR2.out
              rw [if_neg he3] at hR3
              have HR3 := Lib.hid hR3
              have HI5 := Lib.hid hI5
              have HB5 := Lib.hid hB5
              have HO5 := Lib.hid hown5
              have hI6 := hI5
              obtain ⟨A5, c5, HG5, hg5, hC5⟩ := hI6
              have y3 := PA.cellS56_3 HG5
              clear hI5 hB5 hown5 hblk hnob hR3 HR2 he3 HG5 hg5 hC5 hw5
              have hnn : decide (0 < n0) = true ∨ decide (0 < n0) = false := by cases decide (0 < n0) <;> simp
              rcases hnn with hnn | hnn
              all_goals
                go_wp2_with fail
                go_loopg [6, 10] 0 (fun kq v6 v10 wq => Hid (v6 = .slice Ao out.length co ∧ v10 = .int .i64 0 ∧ wq = w3.alloc (.cells #[.int .i64 x1, .int .i64 x2, .int .i64 x3, .int .i64 x4, .int .i64 x5, .bool au, .bool re] 35)))
                case atStart => exact ⟨rfl, rfl, rfl⟩
                case round =>
                  have hr2 := hrel.out
                  clear hrel
                  obtain ⟨rfl, rfl, rfl⟩ := hr2
                  go_wp2_with fail
                  go_roundg k1
                  case rel => exact ⟨⟨b2.ls, b2.last, e3, p3⟩, out, HR3.out, hbl2, hol, ⟨pos, ⟨HI5.out, HB5.out, hposL⟩, HLS.out⟩, HO5.out⟩
                  case measure => omega
    · have hnf : nx wDo b = false := by simpa using hnx
      have hRX : RR = (b, out) := by
        rw [← hR]
        cases gk with
        | zero => rfl
        | succ k => simp only [pLoop]; rw [if_neg hnx]
      have HRX := Lib.hid hRX
      rw [hnf] at hnext
      clear hRX hR hnx hnf hbl hRS
      go_wp2_with fail
      refine hnext.mono ?_
      rintro e w1 ⟨rfl, hRS1, hK1⟩
      clear hnext
      have hown1 := own_keep hK1 hown (Nat.lt_succ_self g)
      clear hown hK1
      go_wp2_with fail
      have htk := rtake_any w0 w1 g L hLS 0 0 wEnd b hRS1
      refine htk.mono ?_
      rintro e w3 ⟨⟨A3, c3, rfl, _, _, _⟩, hRS3, hK3⟩
      clear htk
      have hown3 := own_keep hK3 hown1 (Nat.lt_succ_self g)
      have hend := rend_any w0 w3 g L hLS _ hRS3
      generalize heR : endR (tk (L.length : Int) wEnd 0 0 b).2 = eR at *
      obtain ⟨eE, eA⟩ := eR
      have HER := Lib.hid heR
      have HO3 := Lib.hid hown3
      clear heR hRS3 hown3 hK3
      go_wp2_with fail
      refine hend.mono ?_
      rintro e w4 ⟨rfl, hB4, hK4⟩
      clear hend
      have hown4 := own_keep hK4 HO3.out (Nat.lt_succ_self g)
      have hbw4 : Below w.heap.size w w4 := HB0.out.trans (hB4.mono HB0.out.size)
      have HO4 := Lib.hid hown4
      have HW4 := Lib.hid hbw4
      clear hown4 hbw4 hB4 hK4
      dsimp only
      by_cases he0 : eE = 0
      · have bz : (eE != 0) = false := by simp [he0]
        have HE0 := Lib.hid he0
        clear he0
        go_wp2_with fail
        go_ret3
        refine ⟨_, by rw [HPR.out, HRX.out, HER.out, if_pos HE0.out]; rfl, ?_, HW4.out⟩
        rw [HPR.out, HRX.out, HER.out, if_pos HE0.out]
        exact R_of_flat (own_weaken HO4.out (by omega))
      · have bz : (eE != 0) = true := by simp [he0]
        have HE0 := Lib.hid he0
        clear he0
        go_wp2_with fail
        go_ret3
        refine ⟨_, by rw [HPR.out, HRX.out, HER.out, if_neg HE0.out]; rfl, ?_, HW4.out⟩
        rw [HPR.out, HRX.out, HER.out, if_neg HE0.out]
        exact Kd.R_nil _ _ _ _ _
end Go.Proofs.YtbhbpopebmdemaaDoor
