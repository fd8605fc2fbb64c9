import Derived.Test.YtbhbpopebmdemaaDoorB9
import Derived.WalkSpells
namespace Go.Proofs.YtbhbpopebmdemaaDoor
open Go.RowKit Go.Proofs.YtbhbpopebmdemaaDoorW.PrintWords Go.Proofs.YtbhbpopebmdemaaDoorW.PrintLast Go.Proofs.YtbhbpopebmdemaaDoorW.PrintMore
open ChiPure Go.Lib Go.Shelf
set_option linter.unusedVariables false
set_option linter.unusedSimpArgs false

/-- a text's controls, or the first error and its line. -/
def parseR (s : ByteArray) : List Ctl × Int × Int :=
  let b1 := (tk (lns s).length wScript 0 0 ⟨bkTo (lns s) (lns s).length, 0, 0, 0⟩).2
  let r := pLoop (lns s).length b1.ls.length b1 []
  let e := endR (tk (lns s).length wEnd 0 0 r.1).2
  if e.1 = 0 then (r.2, 0, 0) else ([], e.1, e.2)

def ParsePost (s : ByteArray) (w : World) (e : Ending) (w' : World) : Prop :=
  ∃ v, e = .returned (.tuple #[v, .int .i64 (parseR s).2.1, .int .i64 (parseR s).2.2]) ∧ Kd.R PA.k35 35 w' w.heap.size (fun _ => True) v (parseR s).1 ∧ Below w.heap.size w w'

theorem pcl_len : ∀ (l w : List UInt8), (pcl w l).length ≤ l.length + 1
  | [], w => by unfold pcl; split <;> simp
  | b :: l, w => by
    unfold pcl
    split
    · split <;> simp
    · split
      · split
        · have := pcl_len l []; simp; omega
        · have := pcl_len l []; simp; omega
      · have := pcl_len l (w ++ [b]); simp; omega
theorem bkTo_ne (L : List ByteArray) (hL : ∀ k, k < L.length → (L.getD k ByteArray.empty).size < 4294967281) : ∀ k, k ≤ L.length → ∀ x ∈ bkTo L k, x.f1 ≠ [] ∧ x.f1.length ≤ 4294967296
  | 0, _, x, hx => by cases hx
  | k + 1, hk, x, hx => by
    unfold bkTo at hx
    rw [List.mem_append] at hx
    rcases hx with hx | hx
    · exact bkTo_ne L hL k (by omega) x hx
    · split at hx
      · cases hx
      · rename_i hp
        rw [List.mem_singleton] at hx
        subst hx
        refine ⟨hp, ?_⟩
        have := hL k (by omega)
        have h2 := pcl_len (L.getD k ByteArray.empty).data.toList []
        rw [data_len] at h2
        simp only [pcs, List.length_map]
        omega

theorem TakeR.ret {r : Option (List ByteArray)} {w w' : World} {e : Ending} (h : TakeR r w e w') : ∃ v, e = .returned v := by
  cases r with
  | none => exact ⟨_, h⟩
  | some ps => obtain ⟨v, hv, _⟩ := h; exact ⟨v, hv⟩

theorem own_ne_g {w : World} {base : Nat} {e : TypeId} {size n g : Nat} {v : Value} {xs : List Value} (hg : g < base) (h : w.ownsRow base e size v n xs) : v.ownBlock ≠ some g := fun he => by
  have := own_base h g he
  omega

theorem ownsRow_len {w : World} {base : Nat} {e : TypeId} {size n : Nat} {v : Value} {xs : List Value} (h : w.ownsRow base e size v n xs) : ∃ A c, v = .slice A n c := by
  rcases h.2 with ⟨rfl, h0⟩ | ⟨g, cap, cur, rfl, _⟩
  · exact ⟨none, 0, by rw [h0]⟩
  · exact ⟨_, _, rfl⟩

/-- what holds at the head of Parse's loop. -/
def PRel (w : World) (M : Nat) (all : Int) (R : BS × List Ctl) (kq : Nat) (v6 : Value) (wr : World) : Prop :=
  ∃ (b : BS) (out : List Ctl), pLoop all kq b out = R ∧ b.ls.length ≤ kq ∧ (∀ x ∈ b.ls, x.f1 ≠ [] ∧ x.f1.length ≤ 4294967296) ∧ out.length ≤ 16777216 ∧
    BK wr w.heap.size M b.ls all b.last b.err b.place ∧ wr.ownsRow M 35 7 v6 out.length (out.flatMap ctlC) ∧ Below w.heap.size w wr

set_option maxRecDepth 100000 in
set_option maxHeartbeats 1000000 in
theorem parse_any (s : ByteArray) (m : Int) (w : World) (hs : s.size < 4294967281) (hm : w.cell? ⟨2, 0, none⟩ = some (.int .i64 m)) :
    Calls Tryd.prog 10 #[.string s] w (ParsePost s w) := by
  have hopen := open_any s m w hs hm
  have hall : (lns s).length ≤ 4294967296 := by have := lns_len s; omega
  have hbne := bkTo_ne (lns s) (fun k hk => by have := lns_size s k hk; omega) _ (Nat.le_refl _)
  clear hm
  go_enter Tryd.func10, Tryd.ntmps10
  go_wp2_with (go_at_call 28; refine hopen.mono ?_; rintro e W1 ⟨rfl, hBK, hB1⟩; clear hopen)
  have hBW : BK W1 w.heap.size W1.heap.size (⟨bkTo (lns s) (lns s).length, 0, 0, 0⟩ : BS).ls (lns s).length (⟨bkTo (lns s) (lns s).length, 0, 0, 0⟩ : BS).last (⟨bkTo (lns s) (lns s).length, 0, 0, 0⟩ : BS).err (⟨bkTo (lns s) (lns s).length, 0, 0, 0⟩ : BS).place := hBK
  refine (take_tot w.heap.size W1.heap.size (lns s).length 0 0 ⟨bkTo (lns s) (lns s).length, 0, 0, 0⟩ wScript W1 hBW ⟨by omega, by omega⟩ hbne).mono ?_
  rintro e W2 ⟨hT, hBK2, hG2⟩
  obtain ⟨v, rfl⟩ := hT.ret
  have hne1 : ∀ x ∈ (tk (lns s).length wScript 0 0 ⟨bkTo (lns s) (lns s).length, 0, 0, 0⟩).2.ls, x.f1 ≠ [] ∧ x.f1.length ≤ 4294967296 := fun x hx => hbne x (tk_sub _ _ _ _ _ x hx)
  clear hT hBW hBK hbne
  have hpr : parseR s = (if (endR (tk (lns s).length wEnd 0 0 (pLoop (lns s).length (tk (lns s).length wScript 0 0 ⟨bkTo (lns s) (lns s).length, 0, 0, 0⟩).2.ls.length (tk (lns s).length wScript 0 0 ⟨bkTo (lns s) (lns s).length, 0, 0, 0⟩).2 []).1).2).1 = 0 then
      ((pLoop (lns s).length (tk (lns s).length wScript 0 0 ⟨bkTo (lns s) (lns s).length, 0, 0, 0⟩).2.ls.length (tk (lns s).length wScript 0 0 ⟨bkTo (lns s) (lns s).length, 0, 0, 0⟩).2 []).2, 0, 0)
      else ([], (endR (tk (lns s).length wEnd 0 0 (pLoop (lns s).length (tk (lns s).length wScript 0 0 ⟨bkTo (lns s) (lns s).length, 0, 0, 0⟩).2.ls.length (tk (lns s).length wScript 0 0 ⟨bkTo (lns s) (lns s).length, 0, 0, 0⟩).2 []).1).2).1, (endR (tk (lns s).length wEnd 0 0 (pLoop (lns s).length (tk (lns s).length wScript 0 0 ⟨bkTo (lns s) (lns s).length, 0, 0, 0⟩).2.ls.length (tk (lns s).length wScript 0 0 ⟨bkTo (lns s) (lns s).length, 0, 0, 0⟩).2 []).1).2).2)) := rfl
  generalize hb1 : (tk (lns s).length wScript 0 0 ⟨bkTo (lns s) (lns s).length, 0, 0, 0⟩).2 = b1 at *
  have HB1 := Lib.hid hb1
  clear hb1
  generalize hL : (lns s).length = all at *
  have HL := Lib.hid hL
  clear hL
  have hb2 : Below w.heap.size w W2 := by
    have hbn := hBK2.bnd
    exact hB1.trans ⟨hG2.1, hG2.2, hG2.3, hG2.4, fun k hk => hG2.5 k (by omega) (by intro he; injection he; omega)⟩
  generalize hRR : pLoop all b1.ls.length b1 [] = RR at *
  have HRR := Lib.hid hRR
  have HPR := Lib.hid hpr
  clear hRR hpr
  have HBK2 := Lib.hid hBK2
  have HNE1 := Lib.hid hne1
  clear hne1 hBK2 hG2 hB1
  go_wp2_with fail
  go_loopg [6] b1.ls.length (fun kq v6 wr => Hid (PRel w W1.heap.size all RR kq v6 wr))
  case atStart => exact ⟨b1, [], HRR.out, Nat.le_refl _, HNE1.out, by simp, HBK2.out, own_nil _ _ _ _, hb2⟩
  case round =>
    have hrel' := hrel.out
    clear hrel
    obtain ⟨b, out, hR, hbl, hne, hol, hB, hown, hbw⟩ := hrel'
    have hbnd := hB.bnd
    have hnext := next_any w.heap.size W1.heap.size all b wDo wr hB (fun x hx => (hne x hx).1)
    by_cases hnx : nx wDo b = true
    · rw [hnx] at hnext
      cases gk with
      | zero =>
        have : b.ls = [] := List.eq_nil_of_length_eq_zero (by omega)
        unfold nx at hnx
        rw [this] at hnx
        simp at hnx
      | succ k1 =>
        simp only [pLoop] at hR
        rw [if_pos hnx] at hR
        have htake := take_tot w.heap.size W1.heap.size all 6 8 b wDo wr hB ⟨by omega, by omega⟩ hne
        go_wp2_with fail
        refine hnext.mono ?_
        rintro e w' ⟨rfl, rfl⟩
        clear hnext hnx
        go_wp2_with fail
        refine htake.mono ?_
        rintro e w2 ⟨hT, hB2, hG2⟩
        clear htake
        have hne2 : ∀ x ∈ (tk all wDo 6 8 b).2.ls, x.f1 ≠ [] ∧ x.f1.length ≤ 4294967296 := fun x hx => hne x (tk_sub _ _ _ _ _ x hx)
        have hown2 := own_other hown hG2 (Or.inr (own_ne_g (by omega) hown))
        have hbw2 : Below w.heap.size w w2 := hbw.grown hG2 hbw.size (fun k hk => by injection hk; omega)
        clear hown hbw
        cases hr : (tk all wDo 6 8 b).1 with
        | none =>
          rw [hr] at hT hR
          obtain rfl := hT
          have HRX := Lib.hid hR.symm
          clear hR hr hG2 hbl
          have heqn := fun (w : World) (a : Option Addr) (l c : Nat) => Lib.run_eql_slice_nil (P := Tryd.prog) w 42 9 a l c 0 0 Tryd.underlying42
          go_wp2_with fail
          clear heqn
          refine (take_tot w.heap.size W1.heap.size all 0 0 ((tk all wDo 6 8 b).2) wEnd _ hB2 ⟨by omega, by omega⟩ hne2).mono ?_
          rintro e W3 ⟨hT, hBK3, hG3⟩
          obtain ⟨v, rfl⟩ := hT.ret
          have hne3 : ∀ x ∈ (tk all wEnd 0 0 ((tk all wDo 6 8 b).2)).2.ls, x.f1 ≠ [] := fun x hx => (hne2 x (tk_sub _ _ _ _ _ x hx)).1
          have hown3 := own_other hown2 hG3 (Or.inr (own_ne_g (by omega) hown2))
          have hbw3 : Below w.heap.size w W3 := hbw2.grown hG3 hbw2.size (fun k hk => by injection hk; omega)
          clear hT
          have HG3 := Lib.hid hG3
          have HO3 := Lib.hid hown3
          clear hG3 hown3
          go_wp2_with fail
          have hend := end_tot w.heap.size W1.heap.size all _ W3 hBK3 hne3
          generalize heR : endR (tk all wEnd 0 0 ((tk all wDo 6 8 b).2)).2 = eR at *
          obtain ⟨eE, eA⟩ := eR
          have HER := Lib.hid heR
          clear heR hBK3 hne3
          refine hend.mono ?_
          rintro e W4 ⟨rfl, hG4⟩
          clear hend
          have hown4 := own_other HO3.out hG4 (Or.inr (own_ne_g (by omega) HO3.out))
          have hbw4 : Below w.heap.size w W4 := hbw3.grown hG4 hbw3.size (fun k hk => by injection hk; omega)
          have HG4 := Lib.hid hG4
          have HO4 := Lib.hid hown4
          clear hG4 hown4
          dsimp only
          by_cases he0 : eE = 0
          · have bz : (eE != 0) = false := by simp [he0]
            have HE0 := Lib.hid he0
            clear he0
            go_wp2
            go_ret3
            refine ⟨_, by rw [HPR.out, HRX.out, HER.out, if_pos HE0.out]; rfl, ?_, hbw4⟩
            rw [HPR.out, HRX.out, HER.out, if_pos HE0.out]
            exact R_of_flat (own_weaken HO4.out (by omega))
          · have bz : (eE != 0) = true := by simp [he0]
            have HE0 := Lib.hid he0
            clear he0
            go_wp2
            go_ret3
            refine ⟨_, by rw [HPR.out, HRX.out, HER.out, if_neg HE0.out]; rfl, ?_, hbw4⟩
            rw [HPR.out, HRX.out, HER.out, if_neg HE0.out]
            exact Kd.R_nil _ _ _ _ _
        | some p =>
          rw [hr] at hT hR
          obtain ⟨hk1, hk2, hk3, hk4⟩ := tk_some hr
          obtain ⟨vp, rfl, hvn, hRp⟩ := hT
          obtain ⟨Ap, cp, rfl, hcp, hCp⟩ := Kd.R_reads hRp
          obtain ⟨a, rfl, _⟩ := Kd.at_string hCp 0 (by omega) (by omega)
          have hFp : Kd.F Kd.string w2 (fun k => k ≠ w.heap.size) (some a) p.length p := Kd.F_mono (Kd.R_F (Kd.R_bound hRp)) (fun k hk => by have := hk.2.1; omega)
          have h678 : p.length = 6 ∨ p.length = 7 ∨ p.length = 8 := by omega
          have htake := takeL_any w.heap.size W1.heap.size _ all _ _ _ (some a) cp p w2 hB2 (by omega) hFp hcp h678
          clear hCp hRp hFp hvn h678 hr
          have hn0 : (takeSt (tk all wDo 6 8 b).2.last ((tk all wDo 6 8 b).2.err, (tk all wDo 6 8 b).2.place) p).1 = 0 → (1 : Int) ≤ intsN (tk all wDo 6 8 b).2.last ((tk all wDo 6 8 b).2.err, (tk all wDo 6 8 b).2.place) p 0 ∧ intsN (tk all wDo 6 8 b).2.last ((tk all wDo 6 8 b).2.err, (tk all wDo 6 8 b).2.place) p 0 ≤ 16777216 := fun h => take_n h 0 (by omega)
          simp only [takeC] at hR
          unfold TakePost at htake
          generalize intsN (tk all wDo 6 8 b).2.last ((tk all wDo 6 8 b).2.err, (tk all wDo 6 8 b).2.place) p 0 = n0 at *
          generalize intsN (tk all wDo 6 8 b).2.last ((tk all wDo 6 8 b).2.err, (tk all wDo 6 8 b).2.place) p 1 = x1 at *
          generalize intsN (tk all wDo 6 8 b).2.last ((tk all wDo 6 8 b).2.err, (tk all wDo 6 8 b).2.place) p 2 = x2 at *
          generalize intsN (tk all wDo 6 8 b).2.last ((tk all wDo 6 8 b).2.err, (tk all wDo 6 8 b).2.place) p 3 = x3 at *
          generalize intsN (tk all wDo 6 8 b).2.last ((tk all wDo 6 8 b).2.err, (tk all wDo 6 8 b).2.place) p 4 = x4 at *
          generalize intsN (tk all wDo 6 8 b).2.last ((tk all wDo 6 8 b).2.err, (tk all wDo 6 8 b).2.place) p 5 = x5 at *
          generalize takeAuto (tk all wDo 6 8 b).2.last ((tk all wDo 6 8 b).2.err, (tk all wDo 6 8 b).2.place) p = x6 at *
          generalize takeReset (tk all wDo 6 8 b).2.last ((tk all wDo 6 8 b).2.err, (tk all wDo 6 8 b).2.place) p = x7 at *
          generalize takeSt (tk all wDo 6 8 b).2.last ((tk all wDo 6 8 b).2.err, (tk all wDo 6 8 b).2.place) p = st at *
          generalize hb2e : (tk all wDo 6 8 b).2 = b2 at *
          clear hb2e
          obtain ⟨e3, p3⟩ := st
          simp only at hR hn0 htake
          have HR := Lib.hid hR
          have heqn := fun (w : World) (a : Option Addr) (l c : Nat) => Lib.run_eql_slice_nil (P := Tryd.prog) w 42 9 a l c 0 0 Tryd.underlying42
          clear hR hk4 hk2 hk3
          have hbl2 : b2.ls.length ≤ k1 := by omega
          clear hbl hk1
          go_wp2_with fail
          clear heqn
          refine htake.mono ?_
          rintro e w3 hTP
          clear htake
          obtain ⟨rfl, hB3, hG3⟩ := hTP
          have hown3 := own_other hown2 hG3 (Or.inr (own_ne_g (by omega) hown2))
          have hbw3 : Below w.heap.size w w3 := hbw2.grown hG3 hbw2.size (fun k hk => by injection hk; omega)
          clear hown2 hbw2 hB2 hG2 hG3 hB
          have hol0 : (0 : Int) ≤ (out.length : Int) := by omega
          have hsl := ownsRow_len hown3
          obtain ⟨Ao, co, rfl⟩ := hsl
          by_cases hbig : 16777216 - (out.length : Int) < n0
          · have hR2 := HR.out
            rw [if_pos hbig] at hR2
            have HR2 := Lib.hid hR2
            clear hR2 HR
            have hB4 := hB3.step ((Below.refl _ w3).alloc (Nat.le_refl _) (.cells #[.int .i64 x1, .int .i64 x2, .int .i64 x3, .int .i64 x4, .int .i64 x5, .bool x6, .bool x7] 35))
            have hshape := shape_any w.heap.size W1.heap.size b2.ls all b2.last e3 p3 _ hB4
            clear hB3 hB4 hn0
            go_wp2_with fail
            refine hshape.mono ?_
            rintro e w5 ⟨rfl, hB5, hG5⟩
            clear hshape
            have hown5 := own_other (pw_own_below hown3 ((Below.refl _ w3).alloc (Nat.le_refl _) (.cells #[.int .i64 x1, .int .i64 x2, .int .i64 x3, .int .i64 x4, .int .i64 x5, .bool x6, .bool x7] 35))) hG5 (Or.inr (own_ne_g (by omega) hown3))
            have hbw5 : Below w.heap.size w w5 := (hbw3.alloc hbw3.size (.cells #[.int .i64 x1, .int .i64 x2, .int .i64 x3, .int .i64 x4, .int .i64 x5, .bool x6, .bool x7] 35)).grown hG5 (hbw3.alloc hbw3.size _).size (fun k hk => by injection hk; omega)
            have HG5 := Lib.hid hG5
            have HO5 := Lib.hid hown5
            clear hG5 hown5 hown3 hbw3
            go_wp2
            go_roundg k1
            case measure => omega
            case rel => exact Lib.hid ⟨⟨b2.ls, b2.last, failE e3 42, failP e3 42 p3 b2.last⟩, out, HR2.out, hbl2, hne2, hol, hB5, HO5.out, hbw5⟩
          · have hR2 := HR.out
            rw [if_neg hbig] at hR2
            have HR2 := Lib.hid hR2
            clear hR2 HR
            have hB4 := hB3.step ((Below.refl _ w3).alloc (Nat.le_refl _) (.cells #[.int .i64 x1, .int .i64 x2, .int .i64 x3, .int .i64 x4, .int .i64 x5, .bool x6, .bool x7] 35))
            have hgood := bGood_any w.heap.size W1.heap.size b2.ls all b2.last e3 p3 _ hB4
            by_cases he3 : e3 = 0
            · have bz : (e3 == 0) = true := by simp [he3]
              obtain ⟨h1n, h2n⟩ := hn0 he3
              have hR3 := HR2.out
              rw [if_pos he3] at hR3
              have HR3 := Lib.hid hR3
              have HE3 := Lib.hid he3
              clear hR3 HR2 he3 hn0
              obtain ⟨n, rfl⟩ := Int.eq_ofNat_of_zero_le (show 0 ≤ n0 by omega)
              go_wp2_with (go_at_call 33; refine hgood.mono ?_; rintro e w' ⟨rfl, rfl⟩)
              have hcell : ∀ (j : Nat) (v : Value), (ctlC ⟨x1, x2, x3, x4, x5, x6, x7⟩)[j]? = some v → ((w3.alloc (.cells #[.int .i64 x1, .int .i64 x2, .int .i64 x3, .int .i64 x4, .int .i64 x5, .bool x6, .bool x7] 35)).alloc (.cells #[.int .i64 x1, .int .i64 x2, .int .i64 x3, .int .i64 x4, .int .i64 x5, .bool x6, .bool x7] 35)).cell? ⟨w3.heap.size + 1, j, none⟩ = some v := by
                intro j v hj
                have hh := blk_new (w3.alloc (.cells #[.int .i64 x1, .int .i64 x2, .int .i64 x3, .int .i64 x4, .int .i64 x5, .bool x6, .bool x7] 35)) (.cells #[.int .i64 x1, .int .i64 x2, .int .i64 x3, .int .i64 x4, .int .i64 x5, .bool x6, .bool x7] 35)
                rw [World.size_alloc] at hh
                rw [blk_cell hh]
                simpa [ctlC] using hj
              refine (repeat_any (w3.heap.size + 1) n 1 (ctlC ⟨x1, x2, x3, x4, x5, x6, x7⟩) _ rfl (by omega) (by omega) (ctlC_one _) hcell).mono ?_
              rintro e w5 ⟨rfl, hrow, hb5⟩
              clear hcell hgood
              have hb35 : Below w3.heap.size w3 w5 := (((Below.refl _ w3).alloc (Nat.le_refl _) (.cells #[.int .i64 x1, .int .i64 x2, .int .i64 x3, .int .i64 x4, .int .i64 x5, .bool x6, .bool x7] 35)).alloc (by simp) (.cells #[.int .i64 x1, .int .i64 x2, .int .i64 x3, .int .i64 x4, .int .i64 x5, .bool x6, .bool x7] 35)).trans (hb5.mono (by simp; omega))
              have hown5 := pw_own_below hown3 hb35
              have hbw5 := hbw3.trans (hb35.mono hbw3.size)
              have hB5 := hB3.step hb35
              rw [World.size_alloc, World.size_alloc] at hrow
              have hz5 := hb5.size
              rw [World.size_alloc, World.size_alloc] at hz5
              have hrl := blk_lt hrow
              obtain ⟨i0, hi, hi0, hi1, hi2⟩ := info_parts info35
              have HROW := Lib.hid hrow
              have HO5 := Lib.hid hown5
              have HB5 := Lib.hid hB5
              clear hrow hown5 hB5 hB3 hB4 hown3 hbw3 hb5 hb35
              go_wp2_with (at_builtin; refine wpList_append_own _ rfl (.tmp 39) (.tmp 43) 23 rfl W1.heap.size 35 i0 _ 7 48 Tryd.underlying23 hi hi0 hi1 hi2 rfl (by decide) (.slice Ao out.length co) out.length (out.flatMap ctlC) rfl HO5.out ⟨w3.heap.size + 1 + 1, 0, none⟩ n n (repC (ctlC ⟨x1, x2, x3, x4, x5, x6, x7⟩) n) rfl ?c1 ?c2 ?c3 ?c4 ?c5 ?c6 ?_; (case c1 => rw [repC_length]; rfl); (case c2 => exact fun j u hj => by rw [add_plain, blk_cell HROW.out]; simpa using hj); (case c3 => exact fun u hu => ctlC_one _ u (repC_mem hu)); (case c4 => unfold maxLen; omega); (case c5 => omega); (case c6 => have := HB5.out.bnd.2; omega); intro v6 w6 hown6 hgr6 hnil6; have HO6 := Lib.hid hown6; have HG6 := Lib.hid hgr6; clear hown6 hgr6 hnil6)
              go_roundg k1
              case measure => omega
              case rel =>
                have hown6 := HO6.out
                have hgr6 := HG6.out
                have hv : ∀ j, (Value.slice Ao out.length co).ownBlock = some j → W1.heap.size ≤ j := fun j hj => own_base HO5.out j hj
                have hB6 : BK w6 w.heap.size W1.heap.size b2.ls all b2.last e3 p3 := HB5.out.keep (Nat.le_trans HB5.out.bnd.2 hgr6.4) (fun j hj => hgr6.5 j (Nat.lt_of_lt_of_le hj HB5.out.bnd.2) (fun he => by have := hv j he.symm; omega))
                rw [rep_flat, ← List.flatMap_append] at hown6
                have hlen : out.length + n = (out ++ List.replicate n (⟨x1, x2, x3, x4, x5, x6, x7⟩ : Ctl)).length := by simp
                rw [hlen] at hown6
                have hr3 := HR3.out
                rw [Int.toNat_natCast] at hr3
                exact Lib.hid ⟨⟨b2.ls, b2.last, e3, p3⟩, out ++ List.replicate n ⟨x1, x2, x3, x4, x5, x6, x7⟩, hr3, hbl2, hne2, by rw [← hlen]; omega, hB6, hown6, hbw5.grown hgr6 hbw5.size (fun j hj => by have := hv j hj; omega)⟩
            · have bz : (e3 == 0) = false := by simp [he3]
              have hR3 := HR2.out
              rw [if_neg he3] at hR3
              have HR3 := Lib.hid hR3
              clear hR3 HR2 he3 hn0
              have HO3 := Lib.hid hown3
              have HB4 := Lib.hid hB4
              clear hown3 hB4 hB3
              go_wp2_with (go_at_call 33; refine hgood.mono ?_; rintro e w' ⟨rfl, rfl⟩)
              go_roundg k1
              case measure => omega
              case rel => exact Lib.hid ⟨⟨b2.ls, b2.last, e3, p3⟩, out, HR3.out, hbl2, hne2, hol, HB4.out, pw_own_below HO3.out ((Below.refl _ _).alloc (Nat.le_refl _) _), hbw3.alloc hbw3.size _⟩
    · have hnf : nx wDo b = false := by simpa using hnx
      have hRX : RR = (b, out) := by
        rw [← hR]
        cases gk with
        | zero => rfl
        | succ k => simp only [pLoop]; rw [if_neg hnx]
      have HRX := Lib.hid hRX
      rw [hnf] at hnext
      clear hRX hR hnx hnf hbl
      go_wp2_with fail
      refine hnext.mono ?_
      rintro e w' ⟨rfl, rfl⟩
      clear hnext
      go_wp2_with fail
      refine (take_tot w.heap.size W1.heap.size all 0 0 (b) wEnd _ hB ⟨by omega, by omega⟩ hne).mono ?_
      rintro e W3 ⟨hT, hBK3, hG3⟩
      obtain ⟨v, rfl⟩ := hT.ret
      have hne3 : ∀ x ∈ (tk all wEnd 0 0 (b)).2.ls, x.f1 ≠ [] := fun x hx => (hne x (tk_sub _ _ _ _ _ x hx)).1
      have hown3 := own_other hown hG3 (Or.inr (own_ne_g (by omega) hown))
      have hbw3 : Below w.heap.size w W3 := hbw.grown hG3 hbw.size (fun k hk => by injection hk; omega)
      clear hT
      have HG3 := Lib.hid hG3
      have HO3 := Lib.hid hown3
      clear hG3 hown3
      go_wp2_with fail
      have hend := end_tot w.heap.size W1.heap.size all _ W3 hBK3 hne3
      generalize heR : endR (tk all wEnd 0 0 (b)).2 = eR at *
      obtain ⟨eE, eA⟩ := eR
      have HER := Lib.hid heR
      clear heR hBK3 hne3
      refine hend.mono ?_
      rintro e W4 ⟨rfl, hG4⟩
      clear hend
      have hown4 := own_other HO3.out hG4 (Or.inr (own_ne_g (by omega) HO3.out))
      have hbw4 : Below w.heap.size w W4 := hbw3.grown hG4 hbw3.size (fun k hk => by injection hk; omega)
      have HG4 := Lib.hid hG4
      have HO4 := Lib.hid hown4
      clear hG4 hown4
      dsimp only
      by_cases he0 : eE = 0
      · have bz : (eE != 0) = false := by simp [he0]
        have HE0 := Lib.hid he0
        clear he0
        go_wp2
        go_ret3
        refine ⟨_, by rw [HPR.out, HRX.out, HER.out, if_pos HE0.out]; rfl, ?_, hbw4⟩
        rw [HPR.out, HRX.out, HER.out, if_pos HE0.out]
        exact R_of_flat (own_weaken HO4.out (by omega))
      · have bz : (eE != 0) = true := by simp [he0]
        have HE0 := Lib.hid he0
        clear he0
        go_wp2
        go_ret3
        refine ⟨_, by rw [HPR.out, HRX.out, HER.out, if_neg HE0.out]; rfl, ?_, hbw4⟩
        rw [HPR.out, HRX.out, HER.out, if_neg HE0.out]
        exact Kd.R_nil _ _ _ _ _
end Go.Proofs.YtbhbpopebmdemaaDoor
