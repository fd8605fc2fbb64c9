import Derived.Test.YtbhbpopebmdemaaDoorPAx0
import Derived.Test.YtbhbpopebmdemaaDoorShelf
import Derived.Test.YtbhbpopebmdemaaDoorU2
import Derived.Lib.Hide
namespace Go.Proofs.YtbhbpopebmdemaaDoor
open Go.RowKit Go.Proofs.YtbhbpopebmdemaaDoorW.PrintWords Go.Proofs.YtbhbpopebmdemaaDoorW.PrintLast Go.Proofs.YtbhbpopebmdemaaDoorW.PrintMore
open ChiPure Go.Lib Go.Shelf
set_option linter.unusedVariables false
set_option linter.unusedSimpArgs false

/-- the pieces of a line. -/
def pcs (s : ByteArray) : List ByteArray := (pcl [] s.data.toList).map mkS
/-- the lines of a text. -/
def lns (s : ByteArray) : List ByteArray := (lnl [] s.data.toList).map mkS

theorem cut_le (s sep : List UInt8) : (Lib.cut s sep).1.length ≤ s.length := by
  unfold Lib.cut
  split
  · exact List.length_take_le' _ _
  · exact Nat.le_refl _
theorem pcs_eq (s : ByteArray) : goFieldsP sepR (mkS (Lib.cut s.data.toList [35]).1) = pcs s := by
  rw [fields_spec, mkS_data, cut_hash, fld_pcl]; rfl

set_option maxHeartbeats 400000 in
theorem pred_any (x : Nat) (w : World) : Calls Tryd.prog 65 #[.int .i32 x] w fun e w' => e = .returned (.bool (sepR x)) ∧ w' = w := by
  by_cases h1 : x = 32
  · subst h1
    go_enter Tryd.func65, Tryd.ntmps65
    go_wp2
    go_ret
    exact ⟨rfl, rfl⟩
  · have c1 : ((x : Int) == 32) = false := by rw [beq_eq_false_iff_ne]; omega
    by_cases h2 : x = 9
    · subst h2
      go_enter Tryd.func65, Tryd.ntmps65
      go_wp2
      go_ret
      exact ⟨rfl, rfl⟩
    · have c2 : ((x : Int) == 9) = false := by rw [beq_eq_false_iff_ne]; omega
      have hs : sepR x = false := by unfold sepR; simp [h1, h2]
      go_enter Tryd.func65, Tryd.ntmps65
      go_wp2
      go_ret
      exact ⟨by rw [hs]; simp, rfl⟩

theorem own_R_string {w : World} {base : Nat} {v : Value} {xs : List ByteArray} (h : w.ownsRow base 9 1 v xs.length (xs.map Value.string)) : Kd.R Kd.string 9 w base (fun _ => True) v xs :=
  Kd.R_of_own h (fun _ _ => trivial)

/-- words.Pieces. -/
theorem pieces_any (s : ByteArray) (m : Int) (w : World) (hs : s.size < 4294967281) (hm : w.cell? ⟨2, 0, none⟩ = some (.int .i64 m)) :
    Calls Tryd.prog 23 #[.string s] w fun e w' => ∃ v, e = .returned v ∧ Kd.R Kd.string 9 w' w.heap.size (fun _ => True) v (pcs s) ∧ Below w.heap.size w w' := by
  have hlen : (mkS (Lib.cut s.data.toList [35]).1).size ≤ 4294967296 := by
    rw [mkS_size']
    have := cut_le s.data.toList [35]
    rw [data_len] at this
    omega
  have hcut : Calls Tryd.prog 52 #[.string s, .string ⟨#[35]⟩] w _ := Tryd.strings_Cut s ⟨#[35]⟩ m w hs hm
  have hff : ∀ w1 : World, Calls Tryd.prog 64 #[.string (mkS (Lib.cut s.data.toList [35]).1), .func (.func 65) #[] #[]] w1 _ := fun w1 =>
    Tryd.strings_FieldsFunc_grows 65 #[] (enters_of Tryd.func65 (by kernel_rfl) rfl) sepR (mkS (Lib.cut s.data.toList [35]).1) w1 hlen
      (fun W x _ _ => (pred_any x W).mono fun e w' ⟨he, hw⟩ => ⟨he, hw ▸ Below.refl _ _⟩)
  go_enter Tryd.func23, Tryd.ntmps23
  go_wp2_with fail
  refine hcut.mono ?_
  rintro e w' ⟨rfl, n, rfl⟩
  go_wp2_with fail
  refine (hff _).mono ?_
  rintro e w' ⟨A, rfl, hA, hown, hb⟩
  go_wp2_with fail
  go_ret
  rw [pcs_eq] at hown ⊢
  exact ⟨_, rfl, own_R_string hown, ⟨hb.os, hb.tape, hb.output, hb.size, hb.block⟩⟩

/-- words.Lines. -/
theorem lines_any (s : ByteArray) (m : Int) (w : World) (hs : s.size < 4294967281) (hm : w.cell? ⟨2, 0, none⟩ = some (.int .i64 m)) :
    Calls Tryd.prog 25 #[.string s] w fun e w' => ∃ v, e = .returned v ∧ Kd.R Kd.string 9 w' w.heap.size (fun _ => True) v (lns s) ∧ Below w.heap.size w w' := by
  have hl : s.toList = s.data.toList := ByteArray.toList_eq s
  by_cases h0 : s.toList = []
  · have hb : s.toList.isEmpty = true := by simp [h0]
    have H0 := Lib.hid h0
    have HL := Lib.hid hl
    clear h0 hl
    go_enter Tryd.func25, Tryd.ntmps25
    go_wp2
    go_ret
    refine ⟨_, rfl, ?_, Below.refl _ _⟩
    have : lns s = [] := by unfold lns; rw [← HL.out, H0.out]; rfl
    rw [this]
    exact Kd.R_nil _ _ _ _ _
  · have hb : s.toList.isEmpty = false := by simp [h0]
    have hne : s.data.toList ≠ [] := by rwa [hl] at h0
    have htl : (Lib.trimSuffix s.data.toList [10]).length ≤ s.size := by
      unfold Lib.trimSuffix
      rw [← data_len]
      split
      · exact List.length_take_le' _ _
      · exact Nat.le_refl _
    have hlen : (mkS (Lib.trimSuffix s.data.toList [10])).size < 4294967281 := by rw [mkS_size']; omega
    have hcb := countB_le ⟨#[10]⟩ (by decide) _ (mkS (Lib.trimSuffix s.data.toList [10])) (Nat.le_refl _)
    have hspl := splitB_all ⟨#[10]⟩ (by decide) 0 _ (mkS (Lib.trimSuffix s.data.toList [10])) rfl
    have hsp : splitB ⟨#[10]⟩ 0 (countB (mkS (Lib.trimSuffix s.data.toList [10])) ⟨#[10]⟩) (mkS (Lib.trimSuffix s.data.toList [10])) = lns s := by
      rw [splitB_spec, mkS_data, lines_list _ hne]; rfl
    have htrim : Calls Tryd.prog 67 #[.string s, .string ⟨#[10]⟩] w _ := Tryd.strings_TrimSuffix s ⟨#[10]⟩ w (by omega)
    have hsplit : Calls Tryd.prog 66 #[.string (mkS (Lib.trimSuffix s.data.toList [10])), .string ⟨#[10]⟩] w _ := Tryd.strings_Split _ ⟨#[10]⟩ m w hlen hm (by decide)
    rw [hsp] at hsplit hspl
    have H1 := Lib.hid hspl
    have H2 := Lib.hid hsp
    clear hspl hsp hl hne h0
    go_enter Tryd.func25, Tryd.ntmps25
    go_wp2_with fail
    refine htrim.mono ?_
    rintro e w' ⟨rfl, rfl⟩
    go_wp2_with fail
    refine hsplit.mono ?_
    rintro e w' ⟨rfl, rfl⟩
    go_wp2_with fail
    go_ret
    refine ⟨_, rfl, ?_, (Below.refl _ _).alloc (Nat.le_refl _) _⟩
    rw [← H1.out]
    exact own_R_string (own_lit_of (enc := Value.string) w' w'.heap.size 9 (lns s) (Nat.le_refl _) (by rw [H1.out]; omega))
end Go.Proofs.YtbhbpopebmdemaaDoor
