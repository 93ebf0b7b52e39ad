/- Proved: for every list of numbers the law WaysFollowed answers true and leaves its argument as it was (the tied card); no condition beyond the row's own. Text 10 of 15. -/
import Derived.Test.YtdgoeblpcnjlbaaGreatDoorW9
set_option linter.unusedVariables false
set_option linter.unusedSimpArgs false
set_option linter.unusedSectionVars false
set_option linter.all false
namespace Go.Proofs.YtdgoeblpcnjlbaaGreatDoor.Av
open Go.RowKit
theorem t17 (L : List Int) (a : Nat) (ha : a ≤ 800000) (h : Hd) (hl : 2 ≤ h.2.length) (hl2 : h.2.length ≤ 12) : ∃ x a', a ≤ a' ∧ a' ≤ a + 10 ∧ wS x ≤ 50 ∧ MC 39 L a [encH h] (.fs [encS x]) a' := by
 obtain ⟨nm, rs⟩ := h
 have fin : ∀ {P : St → Nat → Prop}, (∃ x a', a ≤ a' ∧ a' ≤ a + 10 ∧ wS x ≤ 30 ∧ P x a') → ∃ x a', a ≤ a' ∧ a' ≤ a + 10 ∧ wS x ≤ 50 ∧ P x a' := fun ⟨x, a', h1, h2, h3, h4⟩ => ⟨x, a', h1, h2, by omega, h4⟩
 match rs, hl, hl2 with
 | [r0, r1], _, _ =>
  cases h3 : decide (nxF L (a + 3) 3 = 0) <;> cases h4 : decide (nxF L (a + 4) 4 = 0)
  ·cases h2 : decide (nxF L (a + 5) 2 = 0)
   ·exact fin (t17ut000 L a ha nm r0 r1 h3 h4 h2)
   ·exact fin (t17ut001 L a ha nm r0 r1 h3 h4 h2)
  ·cases h2 : decide (nxF L (a + 7) 2 = 0)
   ·exact fin (t17ut010 L a ha nm r0 r1 h3 h4 h2)
   ·exact fin (t17ut011 L a ha nm r0 r1 h3 h4 h2)
  ·cases h2 : decide (nxF L (a + 5) 2 = 0)
   ·exact fin (t17ut100 L a ha nm r0 r1 h3 h4 h2)
   ·exact fin (t17ut101 L a ha nm r0 r1 h3 h4 h2)
  ·cases h2 : decide (nxF L (a + 7) 2 = 0)
   ·exact fin (t17ut110 L a ha nm r0 r1 h3 h4 h2)
   ·exact fin (t17ut111 L a ha nm r0 r1 h3 h4 h2)
 | r0 :: r1 :: r2 :: rest, _, hl2 =>
  have hr : rest.length ≤ 10 := by simp at hl2; omega
  cases h3 : decide (nxF L (a + 3) 3 = 0) <;> cases h4 : decide (nxF L (a + 4) 4 = 0)
  ·cases h2 : decide (nxF L (a + 5) 2 = 0)
   ·exact fin (t17um000 L a ha nm r0 r1 r2 rest hr h3 h4 h2)
   ·exact fin (t17um001 L a ha nm r0 r1 r2 rest hr h3 h4 h2)
  ·cases h2 : decide (nxF L (a + 7) 2 = 0)
   ·exact fin (t17um010 L a ha nm r0 r1 r2 rest hr h3 h4 h2)
   ·exact fin (t17um011 L a ha nm r0 r1 r2 rest hr h3 h4 h2)
  ·cases h2 : decide (nxF L (a + 5) 2 = 0)
   ·exact fin (t17um100 L a ha nm r0 r1 r2 rest hr h3 h4 h2)
   ·exact fin (t17um101 L a ha nm r0 r1 r2 rest hr h3 h4 h2)
  ·cases h2 : decide (nxF L (a + 7) 2 = 0)
   ·exact fin (t17um110 L a ha nm r0 r1 r2 rest hr h3 h4 h2)
   ·exact fin (t17um111 L a ha nm r0 r1 r2 rest hr h3 h4 h2)
def st0 : St := .mk 0 em em em em ex0 [] [] em []
def T18 (L : List Int) (xs : List St) (a i : Nat) (x' : St) (a' : Nat) : Prop :=
 ∀ (sid N : Nat) (T : Nat → List Blk) (J : List Blk) (j : Nat) (e : Env) (m : Nat) (k : Kont), MS L sid N T → e 0 = .ptr sid 0 0 → e 4 = .ms (N + j) 0 xs.length → J[j]? = some (.row (xs.map encS)) →
  (∀ p e', F Tryz.prog (p + 1) (.app k .normal e' (T a' ++ J.set j (.row ((xs.set i x').map encS))))) → F Tryz.prog (m + 300) (.code bm18u964 e (T a ++ J) k)
def S18 (L : List Int) (xs : List St) (a : Nat) : Prop := ∃ i x' a', i < xs.length ∧ a ≤ a' ∧ a' ≤ a + 60 ∧ wS x' ≤ wS (xs.getD i st0) + 100 ∧ T18 L xs a i x' a'
def opts : List (List ByteArray) := [[], [⟨#[97]⟩], [⟨#[97]⟩, ⟨#[97]⟩], [⟨#[113]⟩, ⟨#[114]⟩], [⟨#[97]⟩, ⟨#[98]⟩]]
theorem opts_at (v : Nat) (h : v < 5) : ([.fs [], .fs [.str ⟨#[97]⟩], .fs [.str ⟨#[97]⟩, .str ⟨#[97]⟩], .fs [.str ⟨#[113]⟩, .str ⟨#[114]⟩], .fs [.str ⟨#[97]⟩, .str ⟨#[98]⟩]] : List V).getD v .any = .fs ((opts.getD v []).map .str) := by
 have : v = 0 ∨ v = 1 ∨ v = 2 ∨ v = 3 ∨ v = 4 := by omega
 rcases this with rfl | rfl | rfl | rfl | rfl <;> rfl
def nst (f : Nat → ByteArray) (x : St) : Nat → St
 | 0 => x
 | k + 1 => .mk 4 (f k) em em em (.mk 1 0 em []) [nst f x k] [] em []
theorem nst_w (f : Nat → ByteArray) (x : St) : ∀ k, wS (nst f x k) = wS x + 2 * k
 | 0 => rfl
 | k + 1 => by simp only [nst, wS, wSs, wE, wEs, nst_w f x k, List.length_nil]; omega
set_option maxRecDepth 20000 in
set_option maxHeartbeats 8000000 in
theorem T18u0 (L : List Int) (xs : List St) (a : Nat) (hx : xs ≠ []) (hl : xs.length ≤ 1000000) (ha : a ≤ 600000) (h2 : nxF L (a + 1) 6 = 0) : S18 L xs a := by
 have hl0 : 0 < xs.length := List.length_pos_iff.2 hx
 have hb := nxF_bound (L := L) (a := a) (n := xs.length) (by omega) (by omega)
 have f1 := t16 L a xs.length (by omega)
 have f2 := t16 L (a + 1) 6 (by omega)
 rw [h2] at f2
 generalize nxF L a xs.length = v0 at *
 obtain ⟨i, rfl⟩ : ∃ i : Nat, v0 = i := ⟨v0.toNat, by omega⟩
 have hi : i < xs.length := by omega
 have hel : (xs.map encS).getD i .any = encS (xs.getD i st0) := by simp [List.getD, hi]
 generalize hxi : xs.getD i st0 = x at *
 obtain ⟨k, r, t, vv, l, ⟨ek, en, es, eas⟩, sa, sb, p, ps⟩ := x
 rw [encS_mk] at hel
 have hix : ixP (i : Int) xs.length = True := by simp [ixP]; omega
 have hgs : ∀ y, ((xs.map encS).set i y).getD i .any = y := fun y => by simp [List.getD, hi]
 have hss : ∀ y z, ((xs.map encS).set i y).set i z = (xs.map encS).set i z := fun y z => by simp
 have hne : ¬ ((xs.length : Int) = 0) := by omega
 obtain ⟨v1, f3⟩ := t48 L (a + 2) 1 5 (by omega) (by omega) (by omega) (by omega)
 have hfin : (xs.set i (.mk v1 r t vv l (.mk ek en es eas) sa sb p ps)).map encS = (xs.map encS).set i (encS (.mk v1 r t vv l (.mk ek en es eas) sa sb p ps)) := by rw [List.map_set]
 rw [encS_mk] at hfin
 refine ⟨i, (.mk v1 r t vv l (.mk ek en es eas) sa sb p ps), a + 4, hi, by omega, by omega, ?_, ?_⟩
 ·rw [hxi]; simp [wS, wSs, wE, wEs] <;> omega
 rw [T18]
 rw [hfin]
 intro sid N T J j e m kk hT e0 e4 hJ hk
 have hJs : ∀ b, (J.set j b)[j]? = some b := fun b => by simp [(List.getElem?_eq_some_iff.1 hJ).1]
 have hJss : ∀ b c, (J.set j b).set j c = J.set j c := fun b c => by simp
 simp -implicitDefEqProofs only [bm18u964, e0, e4, hJ, hJs, hJss, hel, hgs, hss, hix, hne, hT.tok.len, hT.tok.at0, hT.tok.atS, hT.tok.set0, hT.tok.setS, hT.tok.get, List.length_set, Int.reduceEq, go_sem]
 repeat' (first | ((first | (with_reducible first | refine cgA ((f1.at hT _)) ?_ | refine cgA ((f2.at hT _)) ?_ | refine cgA ((f3.at hT _)) ?_) | (with_reducible refine F_q2 ?_)); simp -implicitDefEqProofs only [e0, e4, hJ, hJs, hJss, hel, hgs, hss, hix, hne, hT.tok.len, hT.tok.at0, hT.tok.atS, hT.tok.set0, hT.tok.setS, hT.tok.get, List.length_set, Int.reduceEq, go_sem]) | (with_reducible refine Fork.mk ?_ ?_) | (with_reducible refine And.intro ?_ ?_) | ((with_reducible refine rpI ?_); simp -implicitDefEqProofs only [rm18, hT.tok.len, hT.tok.at0, hT.tok.atS, hT.tok.set0, hT.tok.setS, hT.tok.get, push_cast, go_sem_proc]) | intro _)
 all_goals first
  | (rw [hfin] at hk; exact hk _ _)
  | exact hk _ _
  | omega
set_option maxRecDepth 20000 in
set_option maxHeartbeats 8000000 in
theorem T18u1 (L : List Int) (xs : List St) (a : Nat) (hx : xs ≠ []) (hl : xs.length ≤ 1000000) (ha : a ≤ 600000) (h2 : nxF L (a + 1) 6 = 1) : S18 L xs a := by
 have hl0 : 0 < xs.length := List.length_pos_iff.2 hx
 have hb := nxF_bound (L := L) (a := a) (n := xs.length) (by omega) (by omega)
 have f1 := t16 L a xs.length (by omega)
 have f2 := t16 L (a + 1) 6 (by omega)
 rw [h2] at f2
 generalize nxF L a xs.length = v0 at *
 obtain ⟨i, rfl⟩ : ∃ i : Nat, v0 = i := ⟨v0.toNat, by omega⟩
 have hi : i < xs.length := by omega
 have hel : (xs.map encS).getD i .any = encS (xs.getD i st0) := by simp [List.getD, hi]
 generalize hxi : xs.getD i st0 = x at *
 obtain ⟨k, r, t, vv, l, ⟨ek, en, es, eas⟩, sa, sb, p, ps⟩ := x
 rw [encS_mk] at hel
 have hix : ixP (i : Int) xs.length = True := by simp [ixP]; omega
 have hgs : ∀ y, ((xs.map encS).set i y).getD i .any = y := fun y => by simp [List.getD, hi]
 have hss : ∀ y z, ((xs.map encS).set i y).set i z = (xs.map encS).set i z := fun y z => by simp
 have hne : ¬ ((xs.length : Int) = 0) := by omega
 have f3 := t41 L (a + 2) [r, ⟨#[]⟩, ⟨#[97]⟩, ⟨#[113]⟩, ⟨#[65]⟩] (by omega) (by simp) (by simp)
 simp only [List.map_cons, List.map_nil] at f3
 generalize ([r, ⟨#[]⟩, ⟨#[97]⟩, ⟨#[113]⟩, ⟨#[65]⟩] : List ByteArray).getD _ _ = sf3 at f3
 have f4 := t41 L (a + 3) [t, ⟨#[97]⟩, ⟨#[113]⟩, ⟨#[]⟩] (by omega) (by simp) (by simp)
 simp only [List.map_cons, List.map_nil] at f4
 generalize ([t, ⟨#[97]⟩, ⟨#[113]⟩, ⟨#[]⟩] : List ByteArray).getD _ _ = sf4 at f4
 have hfin : (xs.set i (.mk k sf3 sf4 vv l (.mk ek en es eas) sa sb p ps)).map encS = (xs.map encS).set i (encS (.mk k sf3 sf4 vv l (.mk ek en es eas) sa sb p ps)) := by rw [List.map_set]
 rw [encS_mk] at hfin
 refine ⟨i, (.mk k sf3 sf4 vv l (.mk ek en es eas) sa sb p ps), a + 4, hi, by omega, by omega, ?_, ?_⟩
 ·rw [hxi]; simp [wS, wSs, wE, wEs] <;> omega
 rw [T18]
 rw [hfin]
 intro sid N T J j e m kk hT e0 e4 hJ hk
 have hJs : ∀ b, (J.set j b)[j]? = some b := fun b => by simp [(List.getElem?_eq_some_iff.1 hJ).1]
 have hJss : ∀ b c, (J.set j b).set j c = J.set j c := fun b c => by simp
 simp -implicitDefEqProofs only [bm18u964, e0, e4, hJ, hJs, hJss, hel, hgs, hss, hix, hne, hT.tok.len, hT.tok.at0, hT.tok.atS, hT.tok.set0, hT.tok.setS, hT.tok.get, List.length_set, Int.reduceEq, go_sem]
 repeat' (first | ((first | (with_reducible first | refine cgA ((f1.at hT _)) ?_ | refine cgA ((f2.at hT _)) ?_ | refine cgA ((f3.at hT _)) ?_ | refine cgA ((f4.at hT _)) ?_) | (with_reducible refine F_q2 ?_)); simp -implicitDefEqProofs only [e0, e4, hJ, hJs, hJss, hel, hgs, hss, hix, hne, hT.tok.len, hT.tok.at0, hT.tok.atS, hT.tok.set0, hT.tok.setS, hT.tok.get, List.length_set, Int.reduceEq, go_sem]) | (with_reducible refine Fork.mk ?_ ?_) | (with_reducible refine And.intro ?_ ?_) | ((with_reducible refine rpI ?_); simp -implicitDefEqProofs only [rm18, hT.tok.len, hT.tok.at0, hT.tok.atS, hT.tok.set0, hT.tok.setS, hT.tok.get, push_cast, go_sem_proc]) | intro _)
 all_goals first
  | (rw [hfin] at hk; exact hk _ _)
  | exact hk _ _
  | omega
set_option maxRecDepth 20000 in
set_option maxHeartbeats 8000000 in
theorem T18u2 (L : List Int) (xs : List St) (a : Nat) (hx : xs ≠ []) (hl : xs.length ≤ 1000000) (ha : a ≤ 600000) (h2 : nxF L (a + 1) 6 = 2) : S18 L xs a := by
 have hl0 : 0 < xs.length := List.length_pos_iff.2 hx
 have hb := nxF_bound (L := L) (a := a) (n := xs.length) (by omega) (by omega)
 have f1 := t16 L a xs.length (by omega)
 have f2 := t16 L (a + 1) 6 (by omega)
 rw [h2] at f2
 generalize nxF L a xs.length = v0 at *
 obtain ⟨i, rfl⟩ : ∃ i : Nat, v0 = i := ⟨v0.toNat, by omega⟩
 have hi : i < xs.length := by omega
 have hel : (xs.map encS).getD i .any = encS (xs.getD i st0) := by simp [List.getD, hi]
 generalize hxi : xs.getD i st0 = x at *
 obtain ⟨k, r, t, vv, l, ⟨ek, en, es, eas⟩, sa, sb, p, ps⟩ := x
 rw [encS_mk] at hel
 have hix : ixP (i : Int) xs.length = True := by simp [ixP]; omega
 have hgs : ∀ y, ((xs.map encS).set i y).getD i .any = y := fun y => by simp [List.getD, hi]
 have hss : ∀ y z, ((xs.map encS).set i y).set i z = (xs.map encS).set i z := fun y z => by simp
 have hne : ¬ ((xs.length : Int) = 0) := by omega
 have f3 := t41 L (a + 2) [vv, ⟨#[]⟩, ⟨#[101, 108, 115, 101]⟩] (by omega) (by simp) (by simp)
 simp only [List.map_cons, List.map_nil] at f3
 generalize ([vv, ⟨#[]⟩, ⟨#[101, 108, 115, 101]⟩] : List ByteArray).getD _ _ = sf3 at f3
 have f4 := t41 L (a + 3) [l, ⟨#[121, 101, 115]⟩, ⟨#[]⟩] (by omega) (by simp) (by simp)
 simp only [List.map_cons, List.map_nil] at f4
 generalize ([l, ⟨#[121, 101, 115]⟩, ⟨#[]⟩] : List ByteArray).getD _ _ = sf4 at f4
 have hfin : (xs.set i (.mk k r t sf3 sf4 (.mk ek en es eas) sa sb p ps)).map encS = (xs.map encS).set i (encS (.mk k r t sf3 sf4 (.mk ek en es eas) sa sb p ps)) := by rw [List.map_set]
 rw [encS_mk] at hfin
 refine ⟨i, (.mk k r t sf3 sf4 (.mk ek en es eas) sa sb p ps), a + 4, hi, by omega, by omega, ?_, ?_⟩
 ·rw [hxi]; simp [wS, wSs, wE, wEs] <;> omega
 rw [T18]
 rw [hfin]
 intro sid N T J j e m kk hT e0 e4 hJ hk
 have hJs : ∀ b, (J.set j b)[j]? = some b := fun b => by simp [(List.getElem?_eq_some_iff.1 hJ).1]
 have hJss : ∀ b c, (J.set j b).set j c = J.set j c := fun b c => by simp
 simp -implicitDefEqProofs only [bm18u964, e0, e4, hJ, hJs, hJss, hel, hgs, hss, hix, hne, hT.tok.len, hT.tok.at0, hT.tok.atS, hT.tok.set0, hT.tok.setS, hT.tok.get, List.length_set, Int.reduceEq, go_sem]
 repeat' (first | ((first | (with_reducible first | refine cgA ((f1.at hT _)) ?_ | refine cgA ((f2.at hT _)) ?_ | refine cgA ((f3.at hT _)) ?_ | refine cgA ((f4.at hT _)) ?_) | (with_reducible refine F_q2 ?_)); simp -implicitDefEqProofs only [e0, e4, hJ, hJs, hJss, hel, hgs, hss, hix, hne, hT.tok.len, hT.tok.at0, hT.tok.atS, hT.tok.set0, hT.tok.setS, hT.tok.get, List.length_set, Int.reduceEq, go_sem]) | (with_reducible refine Fork.mk ?_ ?_) | (with_reducible refine And.intro ?_ ?_) | ((with_reducible refine rpI ?_); simp -implicitDefEqProofs only [rm18, hT.tok.len, hT.tok.at0, hT.tok.atS, hT.tok.set0, hT.tok.setS, hT.tok.get, push_cast, go_sem_proc]) | intro _)
 all_goals first
  | (rw [hfin] at hk; exact hk _ _)
  | exact hk _ _
  | omega
set_option maxRecDepth 20000 in
set_option maxHeartbeats 8000000 in
theorem T18u3 (L : List Int) (xs : List St) (a : Nat) (hx : xs ≠ []) (hl : xs.length ≤ 1000000) (ha : a ≤ 600000) (h2 : nxF L (a + 1) 6 = 3) : S18 L xs a := by
 have hl0 : 0 < xs.length := List.length_pos_iff.2 hx
 have hb := nxF_bound (L := L) (a := a) (n := xs.length) (by omega) (by omega)
 have f1 := t16 L a xs.length (by omega)
 have f2 := t16 L (a + 1) 6 (by omega)
 rw [h2] at f2
 generalize nxF L a xs.length = v0 at *
 obtain ⟨i, rfl⟩ : ∃ i : Nat, v0 = i := ⟨v0.toNat, by omega⟩
 have hi : i < xs.length := by omega
 have hel : (xs.map encS).getD i .any = encS (xs.getD i st0) := by simp [List.getD, hi]
 generalize hxi : xs.getD i st0 = x at *
 obtain ⟨k, r, t, vv, l, ⟨ek, en, es, eas⟩, sa, sb, p, ps⟩ := x
 rw [encS_mk] at hel
 have hix : ixP (i : Int) xs.length = True := by simp [ixP]; omega
 have hgs : ∀ y, ((xs.map encS).set i y).getD i .any = y := fun y => by simp [List.getD, hi]
 have hss : ∀ y z, ((xs.map encS).set i y).set i z = (xs.map encS).set i z := fun y z => by simp
 have hne : ¬ ((xs.length : Int) = 0) := by omega
 obtain ⟨v1, f3⟩ := t48 L (a + 2) 1 9 (by omega) (by omega) (by omega) (by omega)
 obtain ⟨v2, f4⟩ := t48 L (a + 4) 0 999 (by omega) (by omega) (by omega) (by omega)
 have f5 := t41 L (a + 6) [⟨#[]⟩, ⟨#[120]⟩] (by omega) (by simp) (by simp)
 simp only [List.map_cons, List.map_nil] at f5
 generalize ([⟨#[]⟩, ⟨#[120]⟩] : List ByteArray).getD _ _ = sf5 at f5
 have hfin : (xs.set i (.mk k r t vv l (.mk v1 v2 sf5 []) sa sb p ps)).map encS = (xs.map encS).set i (encS (.mk k r t vv l (.mk v1 v2 sf5 []) sa sb p ps)) := by rw [List.map_set]
 rw [encS_mk] at hfin
 refine ⟨i, (.mk k r t vv l (.mk v1 v2 sf5 []) sa sb p ps), a + 7, hi, by omega, by omega, ?_, ?_⟩
 ·rw [hxi]; simp [wS, wSs, wE, wEs] <;> omega
 rw [T18]
 rw [hfin]
 intro sid N T J j e m kk hT e0 e4 hJ hk
 have hJs : ∀ b, (J.set j b)[j]? = some b := fun b => by simp [(List.getElem?_eq_some_iff.1 hJ).1]
 have hJss : ∀ b c, (J.set j b).set j c = J.set j c := fun b c => by simp
 simp -implicitDefEqProofs only [bm18u964, e0, e4, hJ, hJs, hJss, hel, hgs, hss, hix, hne, hT.tok.len, hT.tok.at0, hT.tok.atS, hT.tok.set0, hT.tok.setS, hT.tok.get, List.length_set, Int.reduceEq, go_sem]
 repeat' (first | ((first | (with_reducible first | refine cgA ((f1.at hT _)) ?_ | refine cgA ((f2.at hT _)) ?_ | refine cgA ((f3.at hT _)) ?_ | refine cgA ((f4.at hT _)) ?_ | refine cgA ((f5.at hT _)) ?_) | (with_reducible refine F_q2 ?_)); simp -implicitDefEqProofs only [e0, e4, hJ, hJs, hJss, hel, hgs, hss, hix, hne, hT.tok.len, hT.tok.at0, hT.tok.atS, hT.tok.set0, hT.tok.setS, hT.tok.get, List.length_set, Int.reduceEq, go_sem]) | (with_reducible refine Fork.mk ?_ ?_) | (with_reducible refine And.intro ?_ ?_) | ((with_reducible refine rpI ?_); simp -implicitDefEqProofs only [rm18, hT.tok.len, hT.tok.at0, hT.tok.atS, hT.tok.set0, hT.tok.setS, hT.tok.get, push_cast, go_sem_proc]) | intro _)
 all_goals first
  | (rw [hfin] at hk; exact hk _ _)
  | exact hk _ _
  | omega
set_option maxRecDepth 20000 in
set_option maxHeartbeats 8000000 in
theorem T18u4 (L : List Int) (xs : List St) (a : Nat) (hx : xs ≠ []) (hl : xs.length ≤ 1000000) (ha : a ≤ 600000) (h2 : nxF L (a + 1) 6 = 4) : S18 L xs a := by
 have hl0 : 0 < xs.length := List.length_pos_iff.2 hx
 have hb := nxF_bound (L := L) (a := a) (n := xs.length) (by omega) (by omega)
 have f1 := t16 L a xs.length (by omega)
 have f2 := t16 L (a + 1) 6 (by omega)
 rw [h2] at f2
 generalize nxF L a xs.length = v0 at *
 obtain ⟨i, rfl⟩ : ∃ i : Nat, v0 = i := ⟨v0.toNat, by omega⟩
 have hi : i < xs.length := by omega
 have hel : (xs.map encS).getD i .any = encS (xs.getD i st0) := by simp [List.getD, hi]
 generalize hxi : xs.getD i st0 = x at *
 obtain ⟨k, r, t, vv, l, ⟨ek, en, es, eas⟩, sa, sb, p, ps⟩ := x
 rw [encS_mk] at hel
 have hix : ixP (i : Int) xs.length = True := by simp [ixP]; omega
 have hgs : ∀ y, ((xs.map encS).set i y).getD i .any = y := fun y => by simp [List.getD, hi]
 have hss : ∀ y z, ((xs.map encS).set i y).set i z = (xs.map encS).set i z := fun y z => by simp
 have hne : ¬ ((xs.length : Int) = 0) := by omega
 have f3 := t41 L (a + 2) [p, ⟨#[122, 122]⟩, ⟨#[102]⟩, ⟨#[]⟩] (by omega) (by simp) (by simp)
 simp only [List.map_cons, List.map_nil] at f3
 generalize ([p, ⟨#[122, 122]⟩, ⟨#[102]⟩, ⟨#[]⟩] : List ByteArray).getD _ _ = sf3 at f3
 have hb4 := nxF_bound (L := L) (a := a + 3) (n := 5) (by omega) (by omega)
 have f4 := t16 L (a + 3) 5 (by omega)
 generalize nxF L (a + 3) 5 = w0 at *
 obtain ⟨w, rfl⟩ : ∃ w : Nat, w0 = w := ⟨w0.toNat, by omega⟩
 have hw : ixP (w : Int) 5 = True := by simp [ixP]; omega
 have hop := opts_at w (by omega)
 have hol : (opts[w]?.getD []).length ≤ 2 := by
  have : w = 0 ∨ w = 1 ∨ w = 2 ∨ w = 3 ∨ w = 4 := by omega
  rcases this with rfl | rfl | rfl | rfl | rfl <;> decide
 have hfin : (xs.set i (.mk k r t vv l (.mk ek en es eas) sa sb sf3 (opts.getD w []))).map encS = (xs.map encS).set i (encS (.mk k r t vv l (.mk ek en es eas) sa sb sf3 (opts.getD w []))) := by rw [List.map_set]
 rw [encS_mk] at hfin
 refine ⟨i, (.mk k r t vv l (.mk ek en es eas) sa sb sf3 (opts.getD w [])), a + 4, hi, by omega, by omega, ?_, ?_⟩
 ·rw [hxi]; simp [wS, wSs, wE, wEs] <;> omega
 rw [T18]
 rw [hfin]
 intro sid N T J j e m kk hT e0 e4 hJ hk
 have hJs : ∀ b, (J.set j b)[j]? = some b := fun b => by simp [(List.getElem?_eq_some_iff.1 hJ).1]
 have hJss : ∀ b c, (J.set j b).set j c = J.set j c := fun b c => by simp
 simp -implicitDefEqProofs only [bm18u964, e0, e4, hJ, hJs, hJss, hel, hgs, hss, hix, hne, hT.tok.len, hT.tok.at0, hT.tok.atS, hT.tok.set0, hT.tok.setS, hT.tok.get, List.length_set, Int.reduceEq, go_sem]
 repeat' (first | ((first | (with_reducible first | refine cgA ((f1.at hT _)) ?_ | refine cgA ((f2.at hT _)) ?_ | refine cgA ((f3.at hT _)) ?_ | refine cgA ((f4.at hT _)) ?_) | (with_reducible refine F_q2 ?_)); simp -implicitDefEqProofs only [e0, e4, hJ, hJs, hJss, hel, hgs, hss, hix, hne, hT.tok.len, hT.tok.at0, hT.tok.atS, hT.tok.set0, hT.tok.setS, hT.tok.get, List.length_set, Int.reduceEq, hw, hop, go_sem]) | (with_reducible refine Fork.mk ?_ ?_) | (with_reducible refine And.intro ?_ ?_) | ((with_reducible refine rpI ?_); simp -implicitDefEqProofs only [rm18, hT.tok.len, hT.tok.at0, hT.tok.atS, hT.tok.set0, hT.tok.setS, hT.tok.get, push_cast, go_sem_proc]) | intro _)
 all_goals first
  | (rw [hfin] at hk; exact hk _ _)
  | exact hk _ _
  | omega
set_option maxRecDepth 20000 in
set_option maxHeartbeats 8000000 in
theorem T18u5 (L : List Int) (xs : List St) (a : Nat) (hx : xs ≠ []) (hl : xs.length ≤ 1000000) (ha : a ≤ 600000) (h2 : nxF L (a + 1) 6 = 5) : S18 L xs a := by
  have hl0 : 0 < xs.length := List.length_pos_iff.2 hx
  have hb := nxF_bound (L := L) (a := a) (n := xs.length) (by omega) (by omega)
  have f1 := t16 L a xs.length (by omega)
  have f2 := t16 L (a + 1) 6 (by omega)
  rw [h2] at f2
  generalize nxF L a xs.length = v0 at *
  obtain ⟨i, rfl⟩ : ∃ i : Nat, v0 = i := ⟨v0.toNat, by omega⟩
  have hi : i < xs.length := by omega
  have hel : (xs.map encS).getD i .any = encS (xs.getD i st0) := by simp [List.getD, hi]
  have hel2 : (xs.map encS)[i]? = some (encS (xs.getD i st0)) := by simp [List.getD, hi]
  generalize hxi : xs.getD i st0 = x at *
  have hix : ixP (i : Int) xs.length = True := by simp [ixP]; omega
  have hgs : ∀ y, ((xs.map encS).set i y).getD i .any = y := fun y => by simp [List.getD, hi]
  have hss : ∀ y z, ((xs.map encS).set i y).set i z = (xs.map encS).set i z := fun y z => by simp
  have hne : ¬ ((xs.length : Int) = 0) := by omega
  have hb3 := nxF_bound (L := L) (a := a + 2) (n := 3) (by omega) (by omega)
  have f3 := t39 L (a + 2) (-1) 1 (by omega) (by omega) (by omega) (by omega)
  rw [show (1 : Int) - -1 + 1 = 3 by omega] at f3
  generalize nxF L (a + 2) 3 = w0 at *
  obtain ⟨M, hM⟩ : ∃ M : Nat, (20 : Int) + (-1 + w0) = M := ⟨(19 + w0).toNat, by omega⟩
  have hM2 : M ≤ 21 := by omega
  have hw : IntKind.i64.wrap (20 + (-1 + w0)) = (M : Int) := by rw [hM]; exact wrap_int (by omega) (by omega)
  obtain ⟨f, hf⟩ : ∃ f : Nat → ByteArray, ∀ kk, f kk = ([⟨#[97]⟩, ⟨#[113]⟩] : List ByteArray).getD (nxF L (a + (3 + kk)) 2).toNat ⟨#[]⟩ := ⟨fun kk => _, fun kk => rfl⟩
  refine ⟨i, nst f x M, a + (3 + M), hi, by omega, by omega, ?_, ?_⟩
  · rw [hxi, nst_w]; omega
  rw [T18]
  intro sid N T J j e m kk hT e0 e4 hJ hk
  have hJl := (List.getElem?_eq_some_iff.1 hJ).1
  have hJs : ∀ b, (J.set j b)[j]? = some b := fun b => by simp [hJl]
  have hJss : ∀ b c, (J.set j b).set j c = J.set j c := fun b c => by simp
  have hsame : J.set j (.row ((xs.map encS).set i (encS x))) = J := by
    rw [show (xs.map encS).set i (encS x) = xs.map encS from ?_]
    · apply List.ext_getElem?
      intro q
      rw [List.getElem?_set]
      split
      · rename_i h; subst h; exact hJ.symm
      · rfl
    · apply List.ext_getElem?
      intro q
      rw [List.getElem?_set]
      split
      · rename_i h; subst h; rw [hel2]; simp [hi]
      · rfl
  have hloop : ∀ (e : Env) (m : Nat) (k : Kont), e 0 = .ptr sid 0 0 → e 6 = .ptr (N + j) i 0 → e 77 = .int .i64 M → e 78 = .int .i64 0 →
      (∀ p e', F Tryz.prog (p + 3) (.app k (.exit 1) e' (T (a + (3 + M)) ++ J.set j (.row ((xs.map encS).set i (encS (nst f x M))))))) → F Tryz.prog (m + 100) (.code (.loop bm18u0) e (T (a + 3) ++ J) k) := by
    intro e m k e0 e6 e77 e78 hk
    refine F_loop (fun q e H => ∃ q', q = M - q' ∧ q' ≤ M ∧ e 0 = .ptr sid 0 0 ∧ e 6 = .ptr (N + j) i 0 ∧ e 77 = .int .i64 M ∧ e 78 = .int .i64 q' ∧ H = T (a + (3 + q')) ++ J.set j (.row ((xs.map encS).set i (encS (nst f x q'))))) M ?_ ?_
    · exact ⟨0, rfl, Nat.zero_le _, e0, e6, e77, e78, by rw [nst, hsame]⟩
    · rintro q e H ⟨q', rfl, hq, e0, e6, e77, e78, rfl⟩
      by_cases hqM : q' = M
      · subst hqM
        have hlt : ¬ ((q' : Int) < q') := by omega
        simp -implicitDefEqProofs only [bm18u0, e0, e6, e77, e78, hlt, go_sem]
        exact hk _ _
      · have hlt : ((q' : Int) < M) := by omega
        have hw2 : IntKind.i64.wrap ((q' : Int) + 1) = ((q' + 1 : Nat) : Int) := wrap_succ (by omega)
        have h41 := t41 L (a + (3 + q')) [⟨#[97]⟩, ⟨#[113]⟩] (by omega) (by decide) (by decide)
        simp only [List.map_cons, List.map_nil, List.length_cons, List.length_nil, Nat.zero_add, Nat.reduceAdd] at h41
        have hf' := hf q'
        change _ = List.getD _ _ _ at hf'
        rw [show (((2 : Nat) : Int)) = 2 from rfl, ← hf'] at h41
        have hn : encS (nst f x (q' + 1)) = .agg [.int .i64 4, .str (f q'), .str ⟨#[]⟩, .str ⟨#[]⟩, .str ⟨#[]⟩, .int .i64 1, .int .i64 0, .str ⟨#[]⟩, .fs [], .fs [encS (nst f x q')], .fs [], .str ⟨#[]⟩, .fs []] := by
          simp only [nst, encS_mk, em, List.map_cons, List.map_nil]
        generalize hy : nst f x q' = y at *
        obtain ⟨yk, yr, yt, yv, yl, ⟨ek, en, es, eas⟩, sa, sb, p, ps⟩ := y
        rw [encS_mk] at hn ⊢
        simp -implicitDefEqProofs only [bm18u0, e0, e6, e77, e78, hlt, hT.tok.len, hT.tok.at0, hT.tok.atS, hT.tok.set0, hT.tok.setS, hT.tok.get, hJs, hJss, hgs, hss, hix, hi, List.length_set, go_sem]
        repeat' (first | ((first | (with_reducible refine cgA ((h41.at hT _)) ?_) | (with_reducible refine F_q2 ?_)); simp -implicitDefEqProofs only [e0, e6, e77, e78, hlt, hT.tok.len, hT.tok.at0, hT.tok.atS, hT.tok.set0, hT.tok.setS, hT.tok.get, hJs, hJss, hgs, hss, hix, hi, List.length_set, hw2, go_sem]) | (with_reducible refine Fork.mk ?_ ?_) | (with_reducible refine And.intro ?_ ?_) | ((with_reducible refine rpI ?_); simp -implicitDefEqProofs only [rm18, hT.tok.len, hT.tok.at0, hT.tok.atS, hT.tok.set0, hT.tok.setS, hT.tok.get, push_cast, go_sem_proc]) | intro _)
        all_goals first
          | omega
          | exact ⟨M - (q' + 1), by omega, q' + 1, rfl, by omega, rfl, by rw [hn]⟩
  simp -implicitDefEqProofs only [bm18u964, e0, e4, hJ, hJs, hJss, hel, hgs, hss, hix, hne, hT.tok.len, hT.tok.at0, hT.tok.atS, hT.tok.set0, hT.tok.setS, hT.tok.get, List.length_set, Int.reduceEq, Nat.le_refl, go_sem]
  repeat' (first | ((first | (with_reducible first | refine cgA ((f1.at hT _)) ?_ | refine cgA ((f2.at hT _)) ?_ | refine cgA ((f3.at hT _)) ?_) | (with_reducible refine F_q2 ?_)); simp -implicitDefEqProofs only [e0, e4, hJ, hJs, hJss, hel, hgs, hss, hix, hne, hT.tok.len, hT.tok.at0, hT.tok.atS, hT.tok.set0, hT.tok.setS, hT.tok.get, List.length_set, Int.reduceEq, hw, Nat.le_refl, go_sem]) | (with_reducible refine Fork.mk ?_ ?_) | (with_reducible refine And.intro ?_ ?_) | ((with_reducible refine rpI ?_); simp -implicitDefEqProofs only [rm18, hT.tok.len, hT.tok.at0, hT.tok.atS, hT.tok.set0, hT.tok.setS, hT.tok.get, push_cast, go_sem_proc]) | intro _)
  all_goals first
    | omega
    | (obtain ⟨k, r, t, vv, l, ⟨ek, en, es, eas⟩, sa, sb, p, ps⟩ := x; rw [encS_mk]; rfl)
    | (refine hloop _ _ _ (by simp [upd, e0]) (by simp [upd]) (by simp [upd]) (by simp [upd]) (fun p e' => ?_)
       simp -implicitDefEqProofs only [go_sem]
       rw [List.map_set] at hk
       exact hk _ _)
    | skip
  all_goals refine hloop _ _ _ (by simp [upd, e0]) (by simp [upd]) (by simp [upd]) (by simp [upd]) (fun p e' => ?_)
  all_goals simp -implicitDefEqProofs only [go_sem]
  all_goals (rw [List.map_set] at hk; exact hk _ _)
def zw1 (q : Pr) (kv : V) : V := .agg [.str q.name, .fs (q.roles.map .str), kv]
def zw (ps : List Pr) (kvs : List V) : List V := List.zipWith zw1 ps kvs
structure PSt (H : List Blk) (idp : Nat) (P : Pla) (kvP kvS : V) (kvs : List V) : Prop where
 cell : H[idp]? = some (.row [.agg [kvP, kvS]])
 ovP : OV H kvP (zw P.procs kvs)
 ovS : OV H kvS (P.main.map encS)
 len : kvs.length = P.procs.length
 ovs : ∀ (i : Nat) q kv, P.procs[i]? = some q → kvs[i]? = some kv → OV H kv (q.steps.map encS)
def dj (kv kv' : V) : Prop := ∀ id, kvne kv id ∨ kvne kv' id
theorem dj.ne {kv kv' : V} {id o n : Nat} (h : dj kv kv') (hk : kv = .ms id o n) : kvne kv' id := by
 rcases h id with h1 | h1
 ·exact absurd hk (h1 _ _)
 ·exact h1
theorem dj.ne' {kv kv' : V} {id o n : Nat} (h : dj kv' kv) (hk : kv = .ms id o n) : kvne kv' id := by
 rcases h id with h1 | h1
 ·exact h1
 ·exact absurd hk (h1 _ _)
structure Sep (idp N : Nat) (kvP kvS : V) (kvs : List V) : Prop where
 pw : List.Pairwise dj (kvP :: kvS :: kvs)
 ge : ∀ kv ∈ kvP :: kvS :: kvs, ∀ i, i < N → kvne kv i
 ne : ∀ kv ∈ kvP :: kvS :: kvs, kvne kv idp
theorem OV.setne {H : List Blk} {kv : V} {acc : List V} (h : OV H kv acc) {id : Nat} {b : Blk} (hk : kvne kv id) : OV (H.set id b) kv acc := by
 rcases h with h | ⟨h1, id', h2, h3⟩
 ·exact .inl h
 ·refine .inr ⟨h1, id', h2, ?_⟩
  rw [List.getElem?_set]
  split
  ·rename_i e; subst e; exact absurd h2 (hk _ _)
  ·exact h3
theorem OV.seteq {H : List Blk} {kv : V} {acc acc' : List V} (h : OV H kv acc) {id o n : Nat} (hk : kv = .ms id o n) (hl : acc'.length = acc.length) : OV (H.set id (.row acc')) kv acc' := by
 rcases h with ⟨_, h⟩ | ⟨h1, id', h2, h3⟩
 ·rw [h] at hk; cases hk
 ·have e := h2.symm.trans hk
  injection e with e1 e2 e3
  subst e1
  refine .inr ⟨fun hh => h1 ?_, id', by rw [h2, hl], ?_⟩
  ·rw [hh] at hl; exact List.length_eq_zero_iff.1 hl.symm
  ·rw [List.getElem?_set, if_pos rfl, if_pos (List.getElem?_eq_some_iff.1 h3).1]
theorem mem_of {i : Nat} {kv kvP kvS : V} {kvs : List V} (h : kvs[i]? = some kv) : kv ∈ kvP :: kvS :: kvs := by
 simp [List.mem_of_getElem? h]
theorem Sep.pS {idp N : Nat} {kvP kvS : V} {kvs : List V} (h : Sep idp N kvP kvS kvs) : dj kvP kvS := (List.pairwise_cons.1 h.pw).1 _ (by simp)
theorem Sep.pk {idp N : Nat} {kvP kvS : V} {kvs : List V} (h : Sep idp N kvP kvS kvs) {i : Nat} {kv : V} (hi : kvs[i]? = some kv) : dj kvP kv := (List.pairwise_cons.1 h.pw).1 _ (by simp [List.mem_of_getElem? hi])
theorem Sep.sk {idp N : Nat} {kvP kvS : V} {kvs : List V} (h : Sep idp N kvP kvS kvs) {i : Nat} {kv : V} (hi : kvs[i]? = some kv) : dj kvS kv := (List.pairwise_cons.1 (List.pairwise_cons.1 h.pw).2).1 _ (List.mem_of_getElem? hi)
theorem Sep.kk {idp N : Nat} {kvP kvS : V} {kvs : List V} (h : Sep idp N kvP kvS kvs) {i j : Nat} {kv kv' : V} (hi : kvs[i]? = some kv) (hj : kvs[j]? = some kv') (hne : i ≠ j) : ∀ id, kvne kv id ∨ kvne kv' id := by
 have hp := List.pairwise_iff_getElem.1 (List.pairwise_cons.1 (List.pairwise_cons.1 h.pw).2).2
 obtain ⟨h1, rfl⟩ := List.getElem?_eq_some_iff.1 hi
 obtain ⟨h2, rfl⟩ := List.getElem?_eq_some_iff.1 hj
 intro id
 rcases Nat.lt_or_gt_of_ne hne with hl | hl
 ·exact hp i j h1 h2 hl id
 ·exact (hp j i h2 h1 hl id).symm
theorem PSt.setS {H : List Blk} {idp N : Nat} {P : Pla} {kvP kvS : V} {kvs : List V} (h : PSt H idp P kvP kvS kvs) (hs : Sep idp N kvP kvS kvs) {id o n : Nat} (hk : kvS = .ms id o n) (ys : List St) (hl : ys.length = P.main.length) :
  PSt (H.set id (.row (ys.map encS))) idp ⟨P.procs, ys⟩ kvP kvS kvs where
 cell := by
  rw [List.getElem?_set, if_neg]
  ·exact h.cell
  ·rintro rfl; exact hs.ne kvS (by simp) _ _ hk
 ovP := h.ovP.setne (hs.pS.ne' hk)
 ovS := h.ovS.seteq hk (by simp [hl])
 len := h.len
 ovs i q kv h1 h2 := (h.ovs i q kv h1 h2).setne ((hs.sk h2).ne hk)
theorem zw_set {ps : List Pr} {kvs : List V} {i : Nat} {q : Pr} {kv : V} (hk : kvs[i]? = some kv) : zw (ps.set i q) kvs = (zw ps kvs).set i (zw1 q kv) := by
 apply List.ext_getElem?
 intro j
 simp only [zw, List.getElem?_zipWith, List.getElem?_set, List.length_zipWith]
 by_cases hij : i = j
 ·subst hij
  have hkl := (List.getElem?_eq_some_iff.1 hk).1
  by_cases hl : i < ps.length
  ·simp [hk, hl, hkl]
   exact ⟨by omega, by rw [(List.getElem?_eq_some_iff.1 hk).2]⟩
  ·simp [hl]
   omega
 ·simp [hij]
theorem zw_same {ps : List Pr} {kvs : List V} {i : Nat} {q q' : Pr} (hq : ps[i]? = some q) (h1 : q'.name = q.name) (h2 : q'.roles = q.roles) : zw (ps.set i q') kvs = zw ps kvs := by
 apply List.ext_getElem?
 intro j
 simp only [zw, List.getElem?_zipWith, List.getElem?_set]
 by_cases hij : i = j
 ·subst hij
  have hl := (List.getElem?_eq_some_iff.1 hq).1
  simp only [if_true, hl, hq]
  cases kvs[i]? <;> simp [zw1, h1, h2]
 ·simp [hij]
theorem PSt.setQ {H : List Blk} {idp N : Nat} {P : Pla} {kvP kvS : V} {kvs : List V} (h : PSt H idp P kvP kvS kvs) (hs : Sep idp N kvP kvS kvs) {at_ : Nat} {q : Pr} (hq : P.procs[at_]? = some q) {kv : V} (hkv : kvs[at_]? = some kv)
  {id o n : Nat} (hk : kv = .ms id o n) (ys : List St) (hl : ys.length = q.steps.length) :
  PSt (H.set id (.row (ys.map encS))) idp ⟨P.procs.set at_ ⟨q.name, q.roles, ys⟩, P.main⟩ kvP kvS kvs where
 cell := by
  rw [List.getElem?_set, if_neg]
  ·exact h.cell
  ·rintro rfl; exact hs.ne kv (mem_of hkv) _ _ hk
 ovP := by
  show OV _ _ (zw (P.procs.set at_ ⟨q.name, q.roles, ys⟩) kvs)
  rw [zw_same (q' := ⟨q.name, q.roles, ys⟩) hq rfl rfl]
  exact h.ovP.setne ((hs.pk hkv).ne' hk)
 ovS := h.ovS.setne ((hs.sk hkv).ne' hk)
 len := by simp [h.len]
 ovs i q2 kv2 h1 h2 := by
  simp only [List.getElem?_set] at h1
  by_cases hi : at_ = i
  ·subst hi
   rw [if_pos rfl, if_pos (List.getElem?_eq_some_iff.1 hq).1] at h1
   cases h1
   rw [hkv] at h2; cases h2
   exact (h.ovs _ _ _ hq hkv).seteq hk (by simp [hl])
  ·rw [if_neg hi] at h1
   refine (h.ovs i q2 kv2 h1 h2).setne ?_
   rcases hs.kk hkv h2 hi id with h3 | h3
   ·exact absurd hk (h3 _ _)
   ·exact h3
theorem PSt.setN {H : List Blk} {idp N : Nat} {P : Pla} {kvP kvS : V} {kvs : List V} (h : PSt H idp P kvP kvS kvs) (hs : Sep idp N kvP kvS kvs) {at_ : Nat} {q : Pr} (hq : P.procs[at_]? = some q) {kv : V} (hkv : kvs[at_]? = some kv)
  {id o n : Nat} (hk : kvP = .ms id o n) (nm : ByteArray) (rs : List ByteArray) :
  PSt (H.set id (.row ((zw P.procs kvs).set at_ (zw1 ⟨nm, rs, q.steps⟩ kv)))) idp ⟨P.procs.set at_ ⟨nm, rs, q.steps⟩, P.main⟩ kvP kvS kvs where
 cell := by
  rw [List.getElem?_set, if_neg]
  ·exact h.cell
  ·rintro rfl; exact hs.ne kvP (by simp) _ _ hk
 ovP := by
  show OV _ _ (zw (P.procs.set at_ ⟨nm, rs, q.steps⟩) kvs)
  rw [zw_set hkv]
  exact h.ovP.seteq hk (by simp)
 ovS := h.ovS.setne (hs.pS.ne hk)
 len := by simp [h.len]
 ovs i q2 kv2 h1 h2 := by
  refine OV.setne ?_ ((hs.pk h2).ne hk)
  simp only [List.getElem?_set] at h1
  by_cases hi : at_ = i
  ·subst hi
   rw [if_pos rfl, if_pos (List.getElem?_eq_some_iff.1 hq).1] at h1
   cases h1
   exact h.ovs at_ q kv2 hq h2
  ·rw [if_neg hi] at h1
   exact h.ovs i q2 kv2 h1 h2
theorem PSt.tail {A B X : List Blk} {N j : Nat} {P : Pla} {kvP kvS : V} {kvs : List V} (h : PSt (A ++ X) (N + j) P kvP kvS kvs) (hs : Sep (N + j) N kvP kvS kvs) (hA : A.length = N) (hB : B.length = N) : PSt (B ++ X) (N + j) P kvP kvS kvs where
 cell := by
  have := h.cell
  rw [List.getElem?_append_right (by omega), hA] at this
  rw [List.getElem?_append_right (by omega), hB]; exact this
 ovP := h.ovP.tail hA (hs.ge kvP (by simp)) hB
 ovS := h.ovS.tail hA (hs.ge kvS (by simp)) hB
 len := h.len
 ovs i q kv h1 h2 := (h.ovs i q kv h1 h2).tail hA (hs.ge kv (mem_of h2)) hB
theorem PSt.fzP {H : List Blk} {idp : Nat} {P : Pla} {kvP kvS : V} {kvs : List V} (h : PSt H idp P kvP kvS kvs) : fz H 20 (.agg [kvP, kvS]) = some (encPl P) := by
 have h1 : fz H 19 kvS = some (.fs (P.main.map encS)) := fz_OV (f := encS) (n := 17) (fun H x => fz_encS H 16 x) h.ovS
 have h2 : fz H 19 kvP = some (.fs (P.procs.map encP)) := by
  have key : fzL (fz H 18) (zw P.procs kvs) = some (P.procs.map encP) := by
   have : ∀ (ps : List Pr) (ks : List V), ks.length = ps.length → (∀ (i : Nat) q kv, ps[i]? = some q → ks[i]? = some kv → OV H kv (q.steps.map encS)) → fzL (fz H 18) (zw ps ks) = some (ps.map encP) := by
    intro ps
    induction ps with
    | nil => intro ks _ _; simp [zw, fzL_nil]
    | cons q ps ih =>
     intro ks hl ho
     cases ks with
     | nil => simp at hl
     | cons kv ks =>
      have h3 := ho 0 q kv rfl rfl
      have h4 : fz H 17 kv = some (.fs (q.steps.map encS)) := fz_OV (f := encS) (n := 15) (fun H x => fz_encS H 14 x) h3
      have h5 := ih ks (by simpa using hl) (fun i q kv h1 h2 => ho (i + 1) q kv h1 h2)
      show fzL (fz H 18) (zw1 q kv :: zw ps ks) = _
      have h6 : fz H 18 (zw1 q kv) = some (encP q) := by
       unfold zw1 encP
       simp -implicitDefEqProofs only [h4, push_cast, go_sem_proc]
      rw [fzL_cons, h6, h5]
      rfl
   exact this _ _ h.len h.ovs
  rcases h.ovP with ⟨h3, rfl⟩ | ⟨_, id, rfl, hid⟩
  ·rw [fz_nils]
   rw [h3, fzL_nil] at key
   have : P.procs.map encP = [] := by simpa using key.symm
   rw [this]
  ·rw [fz_ms, hid, fzM_row, if_pos (by simp), List.drop_zero, List.take_of_length_le (by simp), key]
   rfl
 show fz H (19 + 1) _ = _
 rw [fz_agg, fzL_cons, fzL_cons, fzL_nil, h2, h1]
 rfl
theorem t18any (L : List Int) (xs : List St) (a : Nat) (hx : xs ≠ []) (hl : xs.length ≤ 1000000) (ha : a ≤ 600000) : S18 L xs a := by
 have hb := nxF_bound (L := L) (a := a + 1) (n := 6) (by omega) (by omega)
 have : nxF L (a + 1) 6 = 0 ∨ nxF L (a + 1) 6 = 1 ∨ nxF L (a + 1) 6 = 2 ∨ nxF L (a + 1) 6 = 3 ∨ nxF L (a + 1) 6 = 4 ∨ nxF L (a + 1) 6 = 5 := by omega
 rcases this with h | h | h | h | h | h
 ·exact T18u0 L xs a hx hl ha h
 ·exact T18u1 L xs a hx hl ha h
 ·exact T18u2 L xs a hx hl ha h
 ·exact T18u3 L xs a hx hl ha h
 ·exact T18u4 L xs a hx hl ha h
 ·exact T18u5 L xs a hx hl ha h
theorem t18nil {e : Env} {H : List Blk} {k : Kont} {m : Nat} (e4 : e 4 = .nils) (hk : ∀ p e', F Tryz.prog (p + 1) (.app k .ret e' H)) : F Tryz.prog (m + 300) (.code bm18u964 e H k) := by
 simp -implicitDefEqProofs only [bm18u964, e4, Int.reduceEq, go_sem]
 all_goals exact hk _ _
theorem len_wSs : ∀ l : List St, l.length ≤ wSs l
 | [] => Nat.zero_le _
 | .mk _ _ _ _ _ e a b _ ps :: l => by have := len_wSs l; simp only [wSs, wS, List.length_cons]; omega
theorem wSs_set : ∀ (xs : List St) (i : Nat) (x' : St) (c : Nat), i < xs.length → wS x' ≤ wS (xs.getD i st0) + c → wSs (xs.set i x') ≤ wSs xs + c
 | [], i, _, _, h, _ => by simp at h
 | x :: xs, 0, x', c, _, h => by simp [wSs] at h ⊢; omega
 | x :: xs, i + 1, x', c, hl, h => by
  have := wSs_set xs i x' c (by simpa using hl) (by simpa using h)
  simp [wSs]; omega
theorem wPs_set : ∀ (xs : List Pr) (i : Nat) (q q' : Pr) (c : Nat), xs[i]? = some q → q'.roles.length + wSs q'.steps ≤ q.roles.length + wSs q.steps + c → wPs (xs.set i q') ≤ wPs xs + c
 | [], i, _, _, _, h, _ => by simp at h
 | x :: xs, 0, q, q', c, h0, h => by simp at h0; subst h0; simp [wPs]; omega
 | x :: xs, i + 1, q, q', c, hl, h => by
  have := wPs_set xs i q q' c (by simpa using hl) h
  simp [wPs]; omega
def R18 (L : List Int) (P : Pla) (a : Nat) (P' : Pla) (a' : Nat) : Prop :=
 ∀ sid N T, MS L sid N T → ∀ J jp kvP kvS kvs, PSt (T a ++ J) (N + jp) P kvP kvS kvs → Sep (N + jp) N kvP kvS kvs →
  ACall Tryz.prog 40 [.ptr sid 0 0, .ptr (N + jp) 0 0] (T a ++ J) (fun r H' => r = .tup [] ∧ ∃ J', H' = T a' ++ J' ∧ PSt (T a' ++ J') (N + jp) P' kvP kvS kvs ∧ ∀ i, (∀ kv ∈ kvP :: kvS :: kvs, kvne kv (N + i)) → J'[i]? = J[i]?)
theorem ms_of {A J : List Blk} {N : Nat} {kv : V} {acc : List V} (h : OV (A ++ J) kv acc) (hA : A.length = N) (hk : ∀ i, i < N → kvne kv i) : (acc = [] ∧ kv = .nils) ∨ (acc ≠ [] ∧ ∃ j, kv = .ms (N + j) 0 acc.length ∧ J[j]? = some (.row acc)) := by
 rcases h with h | ⟨h1, id, h2, h3⟩
 ·exact .inl h
 ·have hid : ¬ id < N := fun hl => hk id hl 0 _ h2
  refine .inr ⟨h1, id - N, by rw [h2]; congr 1; omega, ?_⟩
  rw [List.getElem?_append_right (by omega), hA] at h3; exact h3
theorem zw_len {ps : List Pr} {kvs : List V} (h : kvs.length = ps.length) : (zw ps kvs).length = ps.length := by simp [zw, h]
set_option maxRecDepth 20000 in
set_option maxHeartbeats 8000000 in
theorem t18main (L : List Int) (P : Pla) (a aT : Nat) (ha : aT ≤ 600000) (hw : wPl P ≤ 900000)
  (hc : (P.procs = [] ∧ aT = a) ∨ (P.procs ≠ [] ∧ decide (nxF L a 2 = 0) = false ∧ aT = a + 1)) : ∃ P' a', a ≤ a' ∧ a' ≤ a + 100 ∧ wPl P' ≤ wPl P + 200 ∧ P'.procs.length = P.procs.length ∧ R18 L P a P' a' := by
 have hf14 := t14 L a 2 (by omega)
 have hml : P.main.length ≤ 900000 := by have := len_wSs P.main; simp only [wPl] at hw; omega
 have walk : ∀ (sid N : Nat) (T : Nat → List Blk), MS L sid N T → ∀ (J : List Blk) (jp : Nat) (kvP kvS : V) (kvs : List V), PSt (T a ++ J) (N + jp) P kvP kvS kvs → Sep (N + jp) N kvP kvS kvs → ∀ (K : V → List Blk → Prop),
   (∀ (e : Env) (m : Nat), e 0 = .ptr sid 0 0 → e 4 = kvS → F Tryz.prog (m + 500) (.code bm18u964 e (T aT ++ J) (.post fun x e H => (x = .normal ∨ x = .ret) ∧ resP Tryz.prog rm18 e H fun v => K v H))) → ACall Tryz.prog 40 [.ptr sid 0 0, .ptr (N + jp) 0 0] (T a ++ J) K := by
  intro sid N T hT J jp kvP kvS kvs hP hS K hK
  have hcell := hP.cell
  rw [hT.tok.atS] at hcell
  have hone := hP.ovS.vone
  simp only [V.one] at hone
  have hc1 := hP.ovS.one
  refine ACall.intro cm18 600 (by simp) ?_
  rcases hc with ⟨hp, rfl⟩ | ⟨hp, h2, rfl⟩
  ·have hkP : kvP = .nils := by
    rcases hP.ovP with ⟨_, h⟩ | ⟨h, _⟩
    ·exact h
    ·exact absurd (by simp [zw, hp]) h
   subst hkP
   simp -implicitDefEqProofs only [sm18, hcell, hT.tok.len, hT.tok.at0, hT.tok.atS, hT.tok.set0, hT.tok.setS, hT.tok.get, Int.reduceLT, hone, hc1, go_sem]
   exact hK _ _ (by simp [upd, env0]) (by simp [upd])
  ·rw [h2] at hf14
   have hzl := zw_len hP.len
   rcases hP.ovP with ⟨h, _⟩ | ⟨_, id, rfl, hid⟩
   ·exact absurd (List.length_eq_zero_iff.1 (by rw [← hzl, h]; rfl)) hp
   ·have hpos : (0 : Int) < P.procs.length := by have := List.length_pos_iff.2 hp; omega
    simp -implicitDefEqProofs only [sm18, hcell, hT.tok.len, hT.tok.at0, hT.tok.atS, hT.tok.set0, hT.tok.setS, hT.tok.get, hpos, hone, hc1, hzl, go_sem]
    repeat' (first | ((first | (with_reducible refine cgA ((hf14.at hT _)) ?_) | (with_reducible refine F_q2 ?_)); simp -implicitDefEqProofs only [hcell, hT.tok.len, hT.tok.at0, hT.tok.atS, hT.tok.set0, hT.tok.setS, hT.tok.get, hpos, hone, hc1, hzl, go_sem]) | (with_reducible refine Fork.mk ?_ ?_) | (with_reducible refine And.intro ?_ ?_) | ((with_reducible refine rpI ?_); simp -implicitDefEqProofs only [rm18, hT.tok.len, hT.tok.at0, hT.tok.atS, hT.tok.set0, hT.tok.setS, hT.tok.get, push_cast, go_sem_proc]) | intro _)
    all_goals exact hK _ _ (by simp [upd, env0]) (by simp [upd])
 by_cases hm : P.main = []
 ·refine ⟨P, aT, by omega, by omega, by omega, rfl, ?_⟩
  intro sid N T hT J jp kvP kvS kvs hP hS
  refine walk sid N T hT J jp kvP kvS kvs hP hS _ (fun e m e0 e4 => ?_)
  have hkS : kvS = .nils := by
   rcases hP.ovS with ⟨_, h⟩ | ⟨h, _⟩
   ·exact h
   ·exact absurd (by simp [hm]) h
  subst hkS
  refine t18nil e4 (fun p e' => ?_)
  simp -implicitDefEqProofs only [go_sem]
  simp -implicitDefEqProofs only [rm18, push_cast, go_sem_proc]
  exact ⟨J, rfl, hP.tail hS (hT.tok.len _) (hT.tok.len _), fun _ _ => rfl⟩
 ·obtain ⟨i, x', a', hi, h1, h2, h3, h4⟩ := t18any L P.main aT hm (by omega) ha
  refine ⟨⟨P.procs, P.main.set i x'⟩, a', by omega, by omega, ?_, rfl, ?_⟩
  ·have := wSs_set P.main i x' 100 hi h3
   simp only [wPl] at hw ⊢; omega
  intro sid N T hT J jp kvP kvS kvs hP hS
  refine walk sid N T hT J jp kvP kvS kvs hP hS _ (fun e m e0 e4 => ?_)
  rcases ms_of hP.ovS (hT.tok.len _) (hS.ge kvS (by simp)) with ⟨h, _⟩ | ⟨_, j, hk, hJ⟩
  ·exact absurd (by simpa using h) hm
  ·rw [hk, List.length_map] at e4
   refine h4 sid N T J j e (m + 200) _ hT e0 e4 hJ (fun p e' => ?_)
   simp -implicitDefEqProofs only [go_sem]
   simp -implicitDefEqProofs only [rm18, push_cast, go_sem_proc]
   refine ⟨_, rfl, ?_⟩
   have hq := hP.setS hS hk (P.main.set i x') (by simp)
   rw [hT.tok.setS] at hq
   exact ⟨hq.tail hS (hT.tok.len _) (hT.tok.len _), fun i hi => List.getElem?_set_ne (fun h => by subst h; exact hi kvS (by simp) _ _ hk)⟩
theorem zw_get {ps : List Pr} {kvs : List V} {i : Nat} {q : Pr} {kv : V} (h1 : ps[i]? = some q) (h2 : kvs[i]? = some kv) : (zw ps kvs).getD i .any = zw1 q kv := by
 simp [zw, List.getD, List.getElem?_zipWith, h1, h2]
def opts2 : List (List ByteArray) := [[], [⟨#[113]⟩], [⟨#[113]⟩, ⟨#[113]⟩], [⟨#[113]⟩, ⟨#[114]⟩, ⟨#[116]⟩, ⟨#[117]⟩], [⟨#[105, 102]⟩]]
theorem opts2uat (v : Nat) (h : v < 5) : ([.fs [], .fs [.str ⟨#[113]⟩], .fs [.str ⟨#[113]⟩, .str ⟨#[113]⟩], .fs [.str ⟨#[113]⟩, .str ⟨#[114]⟩, .str ⟨#[116]⟩, .str ⟨#[117]⟩], .fs [.str ⟨#[105, 102]⟩]] : List V).getD v .any = .fs ((opts2.getD v []).map .str) := by
 have : v = 0 ∨ v = 1 ∨ v = 2 ∨ v = 3 ∨ v = 4 := by omega
 rcases this with rfl | rfl | rfl | rfl | rfl <;> rfl
set_option maxRecDepth 20000 in
set_option maxHeartbeats 8000000 in
theorem t18proc (L : List Int) (P : Pla) (a : Nat) (ha : a ≤ 500000) (hw : wPl P ≤ 900000) (hpn : P.procs.length ≤ 100000) (hp : P.procs ≠ []) (h2 : decide (nxF L a 2 = 0) = true) :
  ∃ P' a', a ≤ a' ∧ a' ≤ a + 100 ∧ wPl P' ≤ wPl P + 200 ∧ P'.procs.length = P.procs.length ∧ R18 L P a P' a' := by
 have hf14 := t14 L a 2 (by omega)
 rw [h2] at hf14
 have hlp : 0 < P.procs.length := List.length_pos_iff.2 hp
 have hpos : (0 : Int) < P.procs.length := by omega
 have hb := nxF_bound (L := L) (a := a + 1) (n := P.procs.length) (by omega) (by omega)
 have f1 := t16 L (a + 1) P.procs.length (by omega)
 have f3 := t14 L (a + 2) 3 (by omega)
 generalize nxF L (a + 1) P.procs.length = v0 at *
 obtain ⟨at_, rfl⟩ : ∃ i : Nat, v0 = i := ⟨v0.toNat, by omega⟩
 have hat : at_ < P.procs.length := by omega
 have hix : ixP (at_ : Int) P.procs.length = True := by simp [ixP]; omega
 have hne : ¬ ((P.procs.length : Int) = 0) := by omega
 obtain ⟨q, hq⟩ : ∃ q, P.procs[at_]? = some q := ⟨P.procs[at_], List.getElem?_eq_getElem hat⟩
 have hqw : q.roles.length + wSs q.steps ≤ wPl P := by
  have : ∀ (l : List Pr) (i : Nat), l[i]? = some q → q.roles.length + wSs q.steps ≤ wPs l := by
   intro l
   induction l with
   | nil => intro i h; simp at h
   | cons x l ih =>
    intro i h
    cases i with
    | zero => simp at h; subst h; simp [wPs]
    | succ i => have := ih i (by simpa using h); simp [wPs]; omega
  have := this _ _ hq
  simp only [wPl]; omega
 cases h3 : decide (nxF L (a + 2) 3 = 0) with
 | true =>
  rw [h3] at f3
  have f4 := t41 L (a + 3) [⟨#[]⟩, ⟨#[102]⟩, ⟨#[109, 97, 105, 110]⟩, ⟨#[65]⟩, ⟨#[107]⟩] (by omega) (by simp) (by simp)
  simp only [List.map_cons, List.map_nil] at f4
  generalize ([⟨#[]⟩, ⟨#[102]⟩, ⟨#[109, 97, 105, 110]⟩, ⟨#[65]⟩, ⟨#[107]⟩] : List ByteArray).getD _ _ = sf4 at f4
  have hb4 := nxF_bound (L := L) (a := a + 4) (n := 5) (by omega) (by omega)
  have f5 := t16 L (a + 4) 5 (by omega)
  generalize nxF L (a + 4) 5 = w0 at *
  obtain ⟨w, rfl⟩ : ∃ w : Nat, w0 = w := ⟨w0.toNat, by omega⟩
  have hw5 : ixP (w : Int) 5 = True := by simp [ixP]; omega
  have hop := opts2uat w (by omega)
  have hol : (opts2.getD w []).length ≤ 4 := by
   have : w = 0 ∨ w = 1 ∨ w = 2 ∨ w = 3 ∨ w = 4 := by omega
   rcases this with rfl | rfl | rfl | rfl | rfl <;> decide
  generalize opts2.getD w [] = rs2 at *
  refine ⟨⟨P.procs.set at_ ⟨sf4, rs2, q.steps⟩, P.main⟩, a + 5, by omega, by omega, ?_, by simp, ?_⟩
  ·have := wPs_set P.procs at_ q ⟨sf4, rs2, q.steps⟩ 4 hq (by simp; omega)
   simp only [wPl] at hw ⊢; omega
  intro sid N T hT J jp kvP kvS kvs hP hS
  obtain ⟨kv, hkv⟩ : ∃ kv, kvs[at_]? = some kv := ⟨kvs[at_]'(by rw [hP.len]; omega), List.getElem?_eq_getElem _⟩
  have hcell := hP.cell
  rw [hT.tok.atS] at hcell
  have hone := hP.ovS.vone
  simp only [V.one] at hone
  have hc1 := hP.ovS.one
  have hokv := (hP.ovs at_ q kv hq hkv)
  have hone2 := hokv.vone
  simp only [V.one] at hone2
  have hc2 := hokv.one
  have hzl := zw_len hP.len
  have hzg := zw_get hq hkv
  simp only [zw1] at hzg
  refine ACall.intro cm18 600 (by simp) ?_
  rcases ms_of hP.ovP (hT.tok.len _) (hS.ge kvP (by simp)) with ⟨h, _⟩ | ⟨_, jq, hkP, hJq⟩
  ·exact absurd (List.length_eq_zero_iff.1 (by rw [← hzl, h]; rfl)) hp
  ·have hnj : jq ≠ jp := by
    rintro rfl
    exact hS.ne kvP (by simp) _ _ hkP
   have hq2 := hP.setN hS hq hkv hkP sf4 rs2
   rw [hT.tok.setS] at hq2
   have hq3 := hq2.tail hS (hT.tok.len _) (hT.tok.len (a + 5))
   simp only [zw1] at hq3
   subst hkP
   have hJql := (List.getElem?_eq_some_iff.1 hJq).1
   have hJs : ∀ b, (J.set jq b)[jq]? = some b := fun b => by simp [hJql]
   have hJss : ∀ b c, (J.set jq b).set jq c = J.set jq c := fun b c => by simp
   have hJp : ∀ b, (J.set jq b)[jp]? = some (Blk.row [.agg [.ms (N + jq) 0 (zw P.procs kvs).length, kvS]]) := fun b => by rw [List.getElem?_set_ne hnj]; exact hcell
   have hgs : ∀ y, ((zw P.procs kvs).set at_ y).getD at_ .any = y := fun y => by simp [List.getD, hat, hzl]
   have hss : ∀ y z, ((zw P.procs kvs).set at_ y).set at_ z = (zw P.procs kvs).set at_ z := fun y z => by simp
   simp -implicitDefEqProofs only [sm18, hcell, hT.tok.len, hT.tok.at0, hT.tok.atS, hT.tok.set0, hT.tok.setS, hT.tok.get, hpos, hone, hc1, hzl, hJq, hzg, hix, hne, hone2, hc2, go_sem]
   repeat' (first | ((first | (with_reducible first | refine cgA ((hf14.at hT _)) ?_ | refine cgA ((f1.at hT _)) ?_ | refine cgA ((f3.at hT _)) ?_ | refine cgA ((f4.at hT _)) ?_ | refine cgA ((f5.at hT _)) ?_) | (with_reducible refine F_q2 ?_)); simp -implicitDefEqProofs only [hcell, hT.tok.len, hT.tok.at0, hT.tok.atS, hT.tok.set0, hT.tok.setS, hT.tok.get, hpos, hone, hc1, hzl, hJq, hzg, hix, hne, hone2, hc2, hat, Nat.le_refl, hJs, hJss, hJp, hgs, hss, hw5, hop, List.length_set, go_sem]) | (with_reducible refine Fork.mk ?_ ?_) | (with_reducible refine And.intro ?_ ?_) | ((with_reducible refine rpI ?_); simp -implicitDefEqProofs only [rm18, hT.tok.len, hT.tok.at0, hT.tok.atS, hT.tok.set0, hT.tok.setS, hT.tok.get, push_cast, go_sem_proc]) | intro _)
   all_goals first
    | omega
    | (rw [hzl] at hq3; exact ⟨_, rfl, hq3, fun i hi => List.getElem?_set_ne (fun h => by subst h; exact hi (.ms (N + jq) 0 P.procs.length) List.mem_cons_self _ _ rfl)⟩)
 | false =>
  rw [h3] at f3
  have walk : ∀ (sid N : Nat) (T : Nat → List Blk), MS L sid N T → ∀ (J : List Blk) (jp : Nat) (kvP kvS : V) (kvs : List V), PSt (T a ++ J) (N + jp) P kvP kvS kvs → Sep (N + jp) N kvP kvS kvs → ∀ (kv : V), kvs[at_]? = some kv → ∀ (K : V → List Blk → Prop),
    (∀ (e : Env) (m : Nat), e 0 = .ptr sid 0 0 → e 4 = kv → F Tryz.prog (m + 400) (.code bm18u964 e (T (a + 3) ++ J) (.post fun x e H => (x = .normal ∨ x = .ret) ∧ resP Tryz.prog rm18 e H fun v => K v H))) → ACall Tryz.prog 40 [.ptr sid 0 0, .ptr (N + jp) 0 0] (T a ++ J) K := by
   intro sid N T hT J jp kvP kvS kvs hP hS kv hkv K hK
   have hcell := hP.cell
   rw [hT.tok.atS] at hcell
   have hone := hP.ovS.vone
   simp only [V.one] at hone
   have hc1 := hP.ovS.one
   have hokv := (hP.ovs at_ q kv hq hkv)
   have hone2 := hokv.vone
   simp only [V.one] at hone2
   have hc2 := hokv.one
   have hzl := zw_len hP.len
   have hzg := zw_get hq hkv
   simp only [zw1] at hzg
   refine ACall.intro cm18 600 (by simp) ?_
   rcases ms_of hP.ovP (hT.tok.len _) (hS.ge kvP (by simp)) with ⟨h, _⟩ | ⟨_, jq, rfl, hJq⟩
   ·exact absurd (List.length_eq_zero_iff.1 (by rw [← hzl, h]; rfl)) hp
   ·simp -implicitDefEqProofs only [sm18, hcell, hT.tok.len, hT.tok.at0, hT.tok.atS, hT.tok.set0, hT.tok.setS, hT.tok.get, hpos, hone, hc1, hzl, hJq, hzg, hix, hne, hone2, hc2, go_sem]
    repeat' (first | ((first | (with_reducible first | refine cgA ((hf14.at hT _)) ?_ | refine cgA ((f1.at hT _)) ?_ | refine cgA ((f3.at hT _)) ?_) | (with_reducible refine F_q2 ?_)); simp -implicitDefEqProofs only [hcell, hT.tok.len, hT.tok.at0, hT.tok.atS, hT.tok.set0, hT.tok.setS, hT.tok.get, hpos, hone, hc1, hzl, hJq, hzg, hix, hne, hone2, hc2, hat, Nat.le_refl, go_sem]) | (with_reducible refine Fork.mk ?_ ?_) | (with_reducible refine And.intro ?_ ?_) | ((with_reducible refine rpI ?_); simp -implicitDefEqProofs only [rm18, hT.tok.len, hT.tok.at0, hT.tok.atS, hT.tok.set0, hT.tok.setS, hT.tok.get, push_cast, go_sem_proc]) | intro _)
    all_goals exact hK _ _ (by simp [upd, env0]) (by simp [upd])
  by_cases hm : q.steps = []
  ·refine ⟨P, a + 3, by omega, by omega, by omega, rfl, ?_⟩
   intro sid N T hT J jp kvP kvS kvs hP hS
   obtain ⟨kv, hkv⟩ : ∃ kv, kvs[at_]? = some kv := ⟨kvs[at_]'(by rw [hP.len]; omega), List.getElem?_eq_getElem _⟩
   refine walk sid N T hT J jp kvP kvS kvs hP hS kv hkv _ (fun e m e0 e4 => ?_)
   have hkS : kv = .nils := by
    rcases hP.ovs at_ q kv hq hkv with ⟨_, h⟩ | ⟨h, _⟩
    ·exact h
    ·exact absurd (by simp [hm]) h
   subst hkS
   refine t18nil e4 (fun p e' => ?_)
   simp -implicitDefEqProofs only [go_sem]
   simp -implicitDefEqProofs only [rm18, push_cast, go_sem_proc]
   exact ⟨J, rfl, hP.tail hS (hT.tok.len _) (hT.tok.len _), fun _ _ => rfl⟩
  ·have hsl : q.steps.length ≤ 1000000 := by have := len_wSs q.steps; omega
   obtain ⟨i, x', a', hi, h1, h2, h3, h4⟩ := t18any L q.steps (a + 3) hm hsl (by omega)
   refine ⟨⟨P.procs.set at_ ⟨q.name, q.roles, q.steps.set i x'⟩, P.main⟩, a', by omega, by omega, ?_, by simp, ?_⟩
   ·have := wSs_set q.steps i x' 100 hi h3
    have := wPs_set P.procs at_ q ⟨q.name, q.roles, q.steps.set i x'⟩ 100 hq (by simp; omega)
    simp only [wPl] at hw ⊢; omega
   intro sid N T hT J jp kvP kvS kvs hP hS
   obtain ⟨kv, hkv⟩ : ∃ kv, kvs[at_]? = some kv := ⟨kvs[at_]'(by rw [hP.len]; omega), List.getElem?_eq_getElem _⟩
   refine walk sid N T hT J jp kvP kvS kvs hP hS kv hkv _ (fun e m e0 e4 => ?_)
   rcases ms_of (hP.ovs at_ q kv hq hkv) (hT.tok.len _) (hS.ge kv (mem_of hkv)) with ⟨h, _⟩ | ⟨_, j, hk, hJ⟩
   ·exact absurd (by simpa using h) hm
   ·rw [hk, List.length_map] at e4
    refine h4 sid N T J j e (m + 100) _ hT e0 e4 hJ (fun p e' => ?_)
    simp -implicitDefEqProofs only [go_sem]
    simp -implicitDefEqProofs only [rm18, push_cast, go_sem_proc]
    refine ⟨_, rfl, ?_⟩
    have hq2 := hP.setQ hS hq hkv hk (q.steps.set i x') (by simp)
    rw [hT.tok.setS] at hq2
    exact ⟨hq2.tail hS (hT.tok.len _) (hT.tok.len _), fun i hi => List.getElem?_set_ne (fun h => by subst h; exact hi kv (mem_of hkv) _ _ hk)⟩
theorem t18 (L : List Int) (P : Pla) (a : Nat) (ha : a ≤ 500000) (hw : wPl P ≤ 900000) (hpn : P.procs.length ≤ 100000) : ∃ P' a', a ≤ a' ∧ a' ≤ a + 100 ∧ wPl P' ≤ wPl P + 200 ∧ P'.procs.length = P.procs.length ∧ R18 L P a P' a' := by
 by_cases hp : P.procs = []
 ·exact t18main L P a a (by omega) hw (.inl ⟨hp, rfl⟩)
 ·cases h2 : decide (nxF L a 2 = 0) with
  | false => exact t18main L P a (a + 1) (by omega) hw (.inr ⟨hp, h2, rfl⟩)
  | true => exact t18proc L P a ha hw hpn hp h2
def cands : List Hd := [(⟨#[102]⟩, [⟨#[113]⟩, ⟨#[114]⟩]), (⟨#[103]⟩, [⟨#[113]⟩, ⟨#[114]⟩, ⟨#[116]⟩]), (⟨#[104]⟩, [⟨#[113]⟩, ⟨#[114]⟩])]
def hdF (L : List Int) (a : Nat) : Nat → List Hd
 | 0 => []
 | j + 1 => hdF L a j ++ (if decide (nxF L (a + j) 2 = 0) = true then [cands.getD j (em, [])] else [])
theorem hdF_len (L : List Int) (a : Nat) : ∀ j, (hdF L a j).length ≤ j
 | 0 => Nat.le_refl _
 | j + 1 => by
  have := hdF_len L a j
  simp only [hdF, List.length_append]
  split <;> simp <;> omega
theorem hdF_mem (L : List Int) (a : Nat) : ∀ j, j ≤ 3 → ∀ h ∈ hdF L a j, 2 ≤ h.2.length ∧ h.2.length ≤ 3
 | 0, _, h, hm => by simp [hdF] at hm
 | j + 1, hj, h, hm => by
  simp only [hdF, List.mem_append] at hm
  rcases hm with hm | hm
  ·exact hdF_mem L a j (by omega) h hm
  ·split at hm
   ·have : j = 0 ∨ j = 1 ∨ j = 2 := by omega
    rcases this with rfl | rfl | rfl <;> (simp [cands] at hm; subst hm; simp)
   ·simp at hm
def Z2 : Blk := .row [.agg [.nils, .nils]]
set_option maxRecDepth 20000 in
set_option maxHeartbeats 8000000 in
theorem lp4u0 (L : List Int) (a : Nat) (ha : a ≤ 1000) {sid N : Nat} {T : Nat → List Blk} (hT : MS L sid N T) (e : Env) (m : Nat) (k : Kont) (e0 : e 0 = .ptr sid 0 0) (e2 : e 2 = .ptr N 0 0) (e3 : e 3 = .ptr (N + 1) 0 0) (e4 : e 4 = .nils)
  (e16 : e 16 = .fs (cands.map encH)) (e17 : e 17 = .int .i64 3) (e18 : e 18 = .int .i64 0)
  (hk : ∀ p e' kv J, m ≤ p → e' 0 = .ptr sid 0 0 → e' 2 = .ptr N 0 0 → e' 3 = .ptr (N + 1) 0 0 → e' 4 = kv → OV (T (a + 3) ++ ([Z2, Z2] ++ J)) kv ((hdF L a 3).map encH) → (∀ i, i < N + 2 → kvne kv i) → F Tryz.prog (p + 3) (.app k (.exit 0) e' (T (a + 3) ++ ([Z2, Z2] ++ J)))) :
  F Tryz.prog (m + 200) (.code (.loop bm4u0) e (T a ++ [Z2, Z2]) k) := by
 refine F_loop (fun q e H => ∃ j kv J, q = 3 - j ∧ j ≤ 3 ∧ e 0 = .ptr sid 0 0 ∧ e 2 = .ptr N 0 0 ∧ e 3 = .ptr (N + 1) 0 0 ∧ e 4 = kv ∧ e 16 = .fs (cands.map encH) ∧ e 17 = .int .i64 3 ∧ e 18 = .int .i64 (j : Nat) ∧
   H = T (a + j) ++ ([Z2, Z2] ++ J) ∧ OV H kv ((hdF L a j).map encH) ∧ ∀ i, i < N + 2 → kvne kv i) 3 ⟨0, .nils, [], rfl, by omega, e0, e2, e3, e4, e16, e17, e18, rfl, .inl ⟨rfl, rfl⟩, (fun i _ a b h => by cases h)⟩ ?_
 rintro q e H ⟨j, kv, J, rfl, hj, e0, e2, e3, e4, e16, e17, e18, rfl, hov, hkn⟩
 by_cases hj3 : j = 3
 ·subst hj3
  have hnl : ¬ (((3 : Nat) : Int) < 3) := by omega
  simp -implicitDefEqProofs only [bm4u0, e0, e2, e3, e4, e16, e17, e18, hnl, go_sem]
  exact hk _ _ kv J (by omega) (by simp [upd, e0]) (by simp [upd, e2]) (by simp [upd, e3]) (by simp [upd, e4]) hov hkn
 ·have hlt : ((j : Int) < 3) := by omega
  have hw2 : IntKind.i64.wrap ((j : Int) + 1) = ((j + 1 : Nat) : Int) := wrap_succ (by omega)
  have hix : ixP (j : Int) cands.length = True := by simp [ixP, cands]; omega
  obtain ⟨nm, rs, hcj⟩ : ∃ nm rs, cands.getD j (em, []) = (nm, rs) := ⟨_, _, rfl⟩
  have hg : (cands.map encH).getD j .any = .agg [.str nm, .fs (rs.map .str)] := by
   have h3 : j < cands.length := by simp [cands]; omega
   have : (cands.map encH).getD j .any = encH (cands.getD j (em, [])) := by simp [List.getD, h3]
   rw [this, hcj]; rfl
  have f1 := t14 L (a + j) 2 (by omega)
  have hone := hov.vone
  simp only [V.one] at hone
  have hc1 := hov.one
  obtain ⟨JJ, hJJ⟩ : ∃ JJ, JJ = [Z2, Z2] ++ J := ⟨_, rfl⟩
  rw [← hJJ] at hov ⊢
  cases hb : decide (nxF L (a + j) 2 = 0) with
  | false =>
   rw [hb] at f1
   have hH : hdF L a (j + 1) = hdF L a j := by simp [hdF, hb]
   simp -implicitDefEqProofs only [bm4u0, e0, e2, e3, e4, e16, e17, e18, hlt, hix, hg, hT.tok.len, hT.tok.at0, hT.tok.atS, hT.tok.set0, hT.tok.setS, hT.tok.get, hT.tok.set, go_sem]
   repeat' (first | ((first | (with_reducible refine cgA ((f1.at hT _)) ?_) | (with_reducible refine F_q2 ?_)); simp -implicitDefEqProofs only [e0, e2, e3, e4, e16, e17, e18, hlt, hix, hg, hw2, hT.tok.len, hT.tok.at0, hT.tok.atS, hT.tok.set0, hT.tok.setS, hT.tok.get, hT.tok.set, go_sem]) | (with_reducible refine Fork.mk ?_ ?_) | (with_reducible refine And.intro ?_ ?_) | ((with_reducible refine rpI ?_); simp -implicitDefEqProofs only [rm4, hT.tok.len, hT.tok.at0, hT.tok.atS, hT.tok.set0, hT.tok.setS, hT.tok.get, push_cast, go_sem_proc]) | intro _)
   have hov2 := (hov.tail (hT.tok.len _) (fun i hi => hkn i (by omega)) (hT.tok.len (a + (j + 1)))).app [Blk.row [V.agg [V.str nm, V.fs (List.map V.str rs)]]]
   refine ⟨3 - (j + 1), by omega, j + 1, kv, J ++ [Blk.row [V.agg [V.str nm, V.fs (List.map V.str rs)]]], rfl, by omega, rfl, rfl, ?_, ?_, hkn⟩
   ·rw [hJJ]; simp
   ·rw [hH]; simpa using hov2
  | true =>
   rw [hb] at f1
   have hH : hdF L a (j + 1) = hdF L a j ++ [(nm, rs)] := by
    show hdF L a j ++ (if decide (nxF L (a + j) 2 = 0) = true then [cands.getD j (em, [])] else []) = _
    rw [hb, hcj]; rfl
   simp -implicitDefEqProofs only [bm4u0, e0, e2, e3, e4, e16, e17, e18, hlt, hix, hg, hT.tok.len, hT.tok.at0, hT.tok.atS, hT.tok.set0, hT.tok.setS, hT.tok.get, hT.tok.set, hone, hc1, go_sem]
   repeat' (first | ((first | (with_reducible refine cgA ((f1.at hT _)) ?_) | (with_reducible refine F_q2 ?_)); simp -implicitDefEqProofs only [e0, e2, e3, e4, e16, e17, e18, hlt, hix, hg, hw2, hT.tok.len, hT.tok.at0, hT.tok.atS, hT.tok.set0, hT.tok.setS, hT.tok.get, hT.tok.set, hone, hc1, go_sem]) | (with_reducible refine Fork.mk ?_ ?_) | (with_reducible refine And.intro ?_ ?_) | ((with_reducible refine rpI ?_); simp -implicitDefEqProofs only [rm4, hT.tok.len, hT.tok.at0, hT.tok.atS, hT.tok.set0, hT.tok.setS, hT.tok.get, push_cast, go_sem_proc]) | intro _)
   have hov2 := (hov.tail (hT.tok.len _) (fun i hi => hkn i (by omega)) (hT.tok.len (a + (j + 1)))).app [Blk.row [V.agg [V.str nm, V.fs (List.map V.str rs)]]]
   subst hJJ
   rw [show ([Z2, Z2] ++ J) ++ [Blk.row [V.agg [V.str nm, V.fs (List.map V.str rs)]]] = [Z2, Z2] ++ (J ++ [Blk.row [V.agg [V.str nm, V.fs (List.map V.str rs)]]]) from by simp]
   refine app_T hT.tok (by simpa using hov2) hkn (fun i o l h => by cases h) (headOk_map encH 2 (fun _ => rfl) _) (by have := hdF_len L a j; simp; omega) ?_
   intro kv' J' hov' hkn'
   simp -implicitDefEqProofs only [e0, e2, e3, e4, e16, e17, e18, hw2, go_sem]
   refine ⟨3 - (j + 1), by omega, j + 1, kv', J', rfl, by omega, rfl, rfl, rfl, ?_, hkn'⟩
   rw [hH]; simpa [encH] using hov'
theorem OV.lt {H : List Blk} {kv : V} {acc : List V} (h : OV H kv acc) {id : Nat} (hi : H.length ≤ id) : kvne kv id := by
 intro a b hk
 rcases h with ⟨_, rfl⟩ | ⟨_, i2, rfl, h3⟩
 ·cases hk
 ·injection hk with h4 _ _
  have := (List.getElem?_eq_some_iff.1 h3).1
  omega
theorem OV.frame {H H' : List Blk} {kv : V} {acc : List V} (h : OV H kv acc) (hf : ∀ id o n, kv = .ms id o n → id < H.length → H'[id]? = H[id]?) : OV H' kv acc := by
 rcases h with h | ⟨h1, id, h2, h3⟩
 ·exact .inl h
 ·exact .inr ⟨h1, id, h2, by rw [hf id _ _ h2 (List.getElem?_eq_some_iff.1 h3).1]; exact h3⟩
structure G4 (H : List Blk) (N : Nat) (ps : List Pr) (kvP : V) (kvs : List V) : Prop where
 st : PSt H (N + 1) ⟨ps, []⟩ kvP .nils kvs
 sep : Sep (N + 1) (N + 1) kvP .nils kvs
 z : H[N]? = some Z2
theorem kvne_nils (i : Nat) : kvne .nils i := fun _ _ h => by cases h
theorem G4.mem_lt {H : List Blk} {N : Nat} {ps : List Pr} {kvP : V} {kvs : List V} (h : G4 H N ps kvP kvs) : ∀ kv ∈ kvP :: kvs, ∀ id, H.length ≤ id → kvne kv id := by
 intro kv hkv id hi
 rcases List.mem_cons.1 hkv with rfl | hm
 ·exact h.st.ovP.lt hi
 ·obtain ⟨i, hi2⟩ := List.mem_iff_getElem?.1 hm
  have hl : i < ps.length := by have := (List.getElem?_eq_some_iff.1 hi2).1; have := h.st.len; simp only at this; omega
  exact (h.st.ovs i ps[i] kv (List.getElem?_eq_getElem hl) hi2).lt hi
theorem G4.frame {H H' : List Blk} {N : Nat} {ps : List Pr} {kvP kv1 : V} {kvs : List V} (h : G4 H N ps kvP kvs) (hd : ∀ kv ∈ kvP :: kvs, dj kv kv1) (h0 : kvne kv1 N) (h1 : kvne kv1 (N + 1))
  (hf : ∀ j, N ≤ j → j < H.length → kvne kv1 j → H'[j]? = H[j]?) : G4 H' N ps kvP kvs where
 st := {
  cell := by rw [hf (N + 1) (by omega) (List.getElem?_eq_some_iff.1 h.st.cell).1 h1]; exact h.st.cell
  ovP := h.st.ovP.frame fun id o n hk hl => hf id (by
   by_cases hh : N ≤ id
   ·exact hh
   ·exact absurd hk (h.sep.ge kvP (by simp) id (by omega) _ _)) hl ((hd kvP (by simp)).ne hk)
  ovS := .inl ⟨rfl, rfl⟩
  len := h.st.len
  ovs := fun i q kv h2 h3 => (h.st.ovs i q kv h2 h3).frame fun id o n hk hl => hf id (by
   by_cases hh : N ≤ id
   ·exact hh
   ·exact absurd hk (h.sep.ge kv (mem_of h3) id (by omega) _ _)) hl ((hd kv (by simp [List.mem_of_getElem? h3])).ne hk) }
 sep := h.sep
 z := by rw [hf N (Nat.le_refl _) (List.getElem?_eq_some_iff.1 h.z).1 h0]; exact h.z
theorem zw_app {ps : List Pr} {kvs : List V} (h : kvs.length = ps.length) (q : Pr) (kv : V) : zw (ps ++ [q]) (kvs ++ [kv]) = zw ps kvs ++ [zw1 q kv] := by
 simp [zw, List.zipWith_append, h]
theorem G4.add {H H' : List Blk} {N : Nat} {ps : List Pr} {kvP kvP' kv2 : V} {kvs : List V} {q : Pr} (h : G4 H N ps kvP kvs) (hd : ∀ kv ∈ kvP :: kvs, dj kv kv2) (h2 : OV H kv2 (q.steps.map encS)) (hn : ∀ i, i < N + 2 → kvne kv2 i)
  (hov : OV H' kvP' (zw ps kvs ++ [zw1 q kv2])) (hfr : ∀ j, j < H.length → kvne kvP j → H'[j]? = H[j]? ∧ kvne kvP' j) (hle : H.length ≤ H'.length) :
  G4 (H'.set (N + 1) (.row [.agg [kvP', .nils]])) N (ps ++ [q]) kvP' (kvs ++ [kv2]) := by
 have hN1 : N + 1 < H.length := (List.getElem?_eq_some_iff.1 h.st.cell).1
 have hP1 : ∀ i, i < N + 2 → kvne kvP i := fun i hi => by
  by_cases hh : i < N + 1
  ·exact h.sep.ge kvP (by simp) i hh
  ·obtain rfl : i = N + 1 := by omega
   exact h.sep.ne kvP (by simp)
 have hlen : kvs.length = ps.length := h.st.len
 have hkP : dj kvP kv2 := hd kvP (by simp)
 have ne1 : ∀ kv ∈ kvs ++ [kv2], kvne kv (N + 1) := by
  intro kv hkv
  rcases List.mem_append.1 hkv with hm | hm
  ·exact h.sep.ne kv (by simp [hm])
  ·simp at hm; subst hm; exact hn _ (by omega)
 have ovAll : ∀ (i : Nat) q' kv, (ps ++ [q])[i]? = some q' → (kvs ++ [kv2])[i]? = some kv → OV H kv (q'.steps.map encS) := by
  intro i q' kv h3 h4
  by_cases hi : i < ps.length
  ·rw [List.getElem?_append_left hi] at h3
   rw [List.getElem?_append_left (by omega)] at h4
   exact h.st.ovs i q' kv h3 h4
  ·rw [List.getElem?_append_right (by omega)] at h3 h4
   obtain rfl : i = ps.length := by
    have := (List.getElem?_eq_some_iff.1 h3).1; simp at this; omega
   simp at h3; simp [hlen] at h4
   subst h3; subst h4; exact h2
 have djP : ∀ kv ∈ kvs ++ [kv2], dj kvP kv := by
  intro kv hkv
  rcases List.mem_append.1 hkv with hm | hm
  ·exact (List.pairwise_cons.1 h.sep.pw).1 kv (by simp [hm])
  ·simp at hm; subst hm; exact hkP
 have djP' : ∀ kv ∈ kvs ++ [kv2], dj kvP' kv := by
  intro kv hkv id
  by_cases hk : kvne kv id
  ·exact .inr hk
  ·left
   obtain ⟨i, hi⟩ := List.mem_iff_getElem?.1 hkv
   have hil : i < (ps ++ [q]).length := by have := (List.getElem?_eq_some_iff.1 hi).1; simp at this ⊢; omega
   have ho := ovAll i _ kv (List.getElem?_eq_getElem hil) hi
   have hidl : id < H.length := by
    by_cases hh : id < H.length
    ·exact hh
    ·exact absurd (ho.lt (by omega)) hk
   rcases djP kv hkv id with h5 | h5
   ·exact (hfr id hidl h5).2
   ·exact absurd h5 hk
 refine ⟨⟨?_, ?_, .inl ⟨rfl, rfl⟩, by simp [hlen], ?_⟩, ⟨?_, ?_, ?_⟩, ?_⟩
 ·rw [List.getElem?_set, if_pos rfl, if_pos (by omega)]
 ·show OV _ _ (zw (ps ++ [q]) (kvs ++ [kv2]))
  rw [zw_app hlen]
  exact hov.setne (hfr (N + 1) hN1 (hP1 _ (by omega))).2
 ·intro i q' kv h3 h4
  have hm : kv ∈ kvs ++ [kv2] := List.mem_of_getElem? h4
  refine ((ovAll i q' kv h3 h4).frame fun id o n hk hl => ?_).setne (ne1 kv hm)
  exact (hfr id hl ((djP kv hm).ne' hk)).1
 ·rw [List.pairwise_cons, List.pairwise_cons]
  refine ⟨?_, fun _ _ id => .inl (kvne_nils id), ?_⟩
  ·intro kv hkv
   rcases List.mem_cons.1 hkv with rfl | hm
   ·exact fun id => .inr (kvne_nils id)
   ·exact djP' kv hm
  ·rw [List.pairwise_append]
   refine ⟨(List.pairwise_cons.1 (List.pairwise_cons.1 h.sep.pw).2).2, by simp, ?_⟩
   intro x hx y hy
   simp at hy; subst hy
   exact hd x (by simp [hx])
 ·intro kv hkv i hi
  rcases List.mem_cons.1 hkv with rfl | hm
  ·exact (hfr i (by omega) (hP1 i (by omega))).2
  ·rcases List.mem_cons.1 hm with rfl | hm
   ·exact kvne_nils i
   ·rcases List.mem_append.1 hm with hm | hm
    ·exact h.sep.ge kv (by simp [hm]) i hi
    ·simp at hm; subst hm; exact hn i (by omega)
 ·intro kv hkv
  rcases List.mem_cons.1 hkv with rfl | hm
  ·exact (hfr (N + 1) hN1 (hP1 _ (by omega))).2
  ·rcases List.mem_cons.1 hm with rfl | hm
   ·exact kvne_nils _
   ·exact ne1 kv hm
 ·rw [List.getElem?_set, if_neg (by omega), (hfr N (by omega) (hP1 N (by omega))).1]; exact h.z
theorem headOk_zw (ps : List Pr) (kvs : List V) : headOk 3 (zw ps kvs) := by
 intro e he
 cases ps with
 | nil => simp [zw] at he
 | cons q ps =>
  cases kvs with
  | nil => simp [zw] at he
  | cons kv kvs => simp [zw] at he; subst he; simp [zw1, cellsV]
set_option maxRecDepth 20000 in
set_option maxHeartbeats 8000000 in
theorem lp4uB {L : List Int} {sid N : Nat} {T : Nat → List Blk} (hT : MS L sid N T) (a : Nat) (J : List Blk) (jb : Nat) (nm : ByteArray) (rs : List ByteArray) (zs : List St) (ps : List Pr) (kvP kv2 : V) (kvs : List V) (e : Env) (m : Nat) (k : Kont)
  (hG : G4 (T a ++ J) N ps kvP kvs) (hb : J[jb]? = some (.row [.agg [.str nm, .fs (rs.map .str)]])) (e3 : e 3 = .ptr (N + 1) 0 0) (e8 : e 8 = .ptr (N + jb) 0 0) (e9 : e 9 = kv2) (hov2 : OV (T a ++ J) kv2 (zs.map encS))
  (hd : ∀ kv ∈ kvP :: kvs, dj kv kv2) (hn : ∀ i, i < N + 2 → kvne kv2 i) (hpl : ps.length ≤ 100)
  (hk : ∀ p e' kvP' J', (∀ x, x < 61 → e' x = e x) → G4 (T a ++ J') N (ps ++ [⟨nm, rs, zs⟩]) kvP' (kvs ++ [kv2]) → F Tryz.prog (p + 20) (.app k .normal e' (T a ++ J'))) :
  F Tryz.prog (m + 100) (.code bm4u961 e (T a ++ J) k) := by
 have hcell := hG.st.cell
 rw [hT.tok.atS] at hcell
 have hone := hG.st.ovP.vone
 simp only [V.one] at hone
 have hc1 := hG.st.ovP.one
 have hone2 := hov2.vone
 simp only [V.one] at hone2
 have hc2 := hov2.one
 have hzl := zw_len hG.st.len
 simp only at hzl
 simp -implicitDefEqProofs only [bm4u961, e3, e8, e9, hcell, hb, hT.tok.len, hT.tok.at0, hT.tok.atS, hT.tok.set0, hT.tok.setS, hT.tok.get, hone, hc1, hone2, hc2, go_sem]
 refine ⟨by rcases hov2 with ⟨_, rfl⟩ | ⟨_, _, rfl, _⟩ <;> rfl, ?_⟩
 refine app_OV hG.st.ovP ?_ (headOk_zw _ _) ?_ ?_
 ·intro i o l h; cases h
 ·simp only [List.length_cons, List.length_nil, hzl]; omega
 intro kvP' H' hov' hle hfr
 have hN2 : N + 2 ≤ (T a ++ J).length := (List.getElem?_eq_some_iff.1 hG.st.cell).1
 have hP1 : ∀ i, i < N + 2 → kvne kvP i := fun i hi => by
  by_cases hh : i < N + 1
  ·exact hG.sep.ge kvP (by simp) i hh
  ·obtain rfl : i = N + 1 := by omega
   exact hG.sep.ne kvP (by simp)
 obtain ⟨J', rfl⟩ := prefix_eq (H := H') (A := T a) (by rw [List.length_append] at hle; omega) (fun j hj => by
  have hjN : j < N := by rw [hT.tok.len] at hj; exact hj
  rw [(hfr j (by omega) (hP1 j (by omega))).1, List.getElem?_append_left hj])
 have hcell' : J'[1]? = some (.row [.agg [kvP, .nils]]) := by
  rw [← hT.tok.atS a J' 1, (hfr (N + 1) (by omega) (hP1 _ (by omega))).1, hT.tok.atS]; exact hcell
 have hone' := hov'.vone
 simp only [V.one] at hone'
 have hc1' := hov'.one
 have hnew := hG.add (q := ⟨nm, rs, zs⟩) hd hov2 hn hov' hfr hle
 rw [hT.tok.setS] at hnew
 simp -implicitDefEqProofs only [bm4u961, e3, e8, e9, hcell', hT.tok.len, hT.tok.at0, hT.tok.atS, hT.tok.set0, hT.tok.setS, hT.tok.get, hone', hc1', go_sem]
 refine hk _ _ kvP' _ ?_ hnew
 intro x hx
 simp (disch := omega) only [upd_ne]
theorem Sep.weaken {idp N M : Nat} {kvP kvS : V} {kvs : List V} (h : Sep idp N kvP kvS kvs) (hm : M ≤ N) : Sep idp M kvP kvS kvs := ⟨h.pw, fun kv hk i hi => h.ge kv hk i (by omega), h.ne⟩
theorem G4.tail {A B X : List Blk} {N : Nat} {ps : List Pr} {kvP : V} {kvs : List V} (h : G4 (A ++ X) N ps kvP kvs) (hA : A.length = N) (hB : B.length = N) : G4 (B ++ X) N ps kvP kvs where
 st := h.st.tail (h.sep.weaken (by omega)) hA hB
 sep := h.sep
 z := by
  have := h.z
  rw [List.getElem?_append_right (by omega), hA] at this
  rw [List.getElem?_append_right (by omega), hB]; exact this
theorem G4.app {H : List Blk} {N : Nat} {ps : List Pr} {kvP : V} {kvs : List V} (h : G4 H N ps kvP kvs) (X : List Blk) : G4 (H ++ X) N ps kvP kvs :=
 h.frame (kv1 := .nils) (fun _ _ id => .inr (kvne_nils id)) (kvne_nils _) (kvne_nils _) (fun j _ hj _ => List.getElem?_append_left hj)
theorem OV_res {A : List Blk} {xs : List St} {n : Nat} (hn : A.length = n) : OV (A ++ resH xs) (resV n xs) (xs.map encS) := by
 by_cases hx : xs = []
 ·subst hx; exact .inl ⟨rfl, rfl⟩
 ·refine .inr ⟨by simpa using hx, n, by simp [resV, hx], ?_⟩
  rw [List.getElem?_append_right (by omega), hn]; simp [resH, hx]
theorem resV_ne {xs : List St} {n i : Nat} (h : i ≠ n) : kvne (resV n xs) i := by
 intro a b hk
 unfold resV at hk
 split at hk
 ·cases hk
 ·injection hk with h1; exact h h1.symm
def A4 (L : List Int) (heads : List Hd) (nm : ByteArray) (rs : List ByteArray) (a1 : Nat) (xs1 zs : List St) (a3 : Nat) : Prop :=
 ∀ (sid N : Nat) (T : Nat → List Blk), MS L sid N T → ∀ (J : List Blk) (jb : Nat) (ps : List Pr) (kvP kv1 : V) (kvs : List V) (e : Env) (m : Nat) (k : Kont),
  G4 (T a1 ++ J) N ps kvP kvs → J[jb]? = some (.row [.agg [.str nm, .fs (rs.map .str)]]) → e 0 = .ptr sid 0 0 → e 3 = .ptr (N + 1) 0 0 → e 4 = .fs (heads.map encH) → e 8 = .ptr (N + jb) 0 0 → e 9 = kv1 →
  OV (T a1 ++ J) kv1 (xs1.map encS) → (∀ kv ∈ kvP :: kvs, dj kv kv1) → (∀ i, i < N + 2 → kvne kv1 i) → kvne kv1 (N + jb) → ps.length ≤ 100 →
  (∀ p e' kvP' kv2 J', (∀ x, x < 44 → x ≠ 9 → e' x = e x) → G4 (T a3 ++ J') N (ps ++ [⟨nm, rs, zs⟩]) kvP' (kvs ++ [kv2]) → F Tryz.prog (p + 20) (.app k .normal e' (T a3 ++ J'))) →
  F Tryz.prog (m + 300) (.code bm4u944 e (T a1 ++ J) k)
set_option maxRecDepth 20000 in
set_option maxHeartbeats 8000000 in
theorem lp4uA2 (L : List Int) (heads : List Hd) (nm : ByteArray) (rs : List ByteArray) (a1 : Nat) (ha : a1 ≤ 100000) (xs1 : List St) (v : Int) (hv : nxF L a1 6 = v) (h0 : ¬ v = 0) (h1 : ¬ v = 1) (h2 : ¬ v = 2) : A4 L heads nm rs a1 xs1 xs1 (a1 + 1) := by
 intro sid N T hT J jb ps kvP kv1 kvs e m k hG hb e0 e3 e4 e8 e9 hov hd hn hnb hpl hk
 have f1 := t16 L a1 6 (by omega)
 rw [hv] at f1
 have hG' := hG.tail (hT.tok.len _) (hT.tok.len (a1 + 1))
 have hov' := hov.tail (hT.tok.len _) (fun i hi => hn i (by omega)) (hT.tok.len (a1 + 1))
 simp -implicitDefEqProofs only [bm4u944, e0, e3, e4, e8, e9, hT.tok.len, hT.tok.at0, hT.tok.atS, hT.tok.set0, hT.tok.setS, hT.tok.get, h0, h1, h2, go_sem]
 repeat' (first | ((first | (with_reducible refine cgA ((f1.at hT _)) ?_) | (with_reducible refine F_q2 ?_)); simp -implicitDefEqProofs only [e0, e3, e4, e8, e9, hT.tok.len, hT.tok.at0, hT.tok.atS, hT.tok.set0, hT.tok.setS, hT.tok.get, h0, h1, h2, go_sem]) | (with_reducible refine Fork.mk ?_ ?_) | (with_reducible refine And.intro ?_ ?_) | ((with_reducible refine rpI ?_); simp -implicitDefEqProofs only [rm4, hT.tok.len, hT.tok.at0, hT.tok.atS, hT.tok.set0, hT.tok.setS, hT.tok.get, push_cast, go_sem_proc]) | intro _)
 refine lp4uB hT (a1 + 1) J jb nm rs xs1 ps kvP kv1 kvs _ _ k hG' hb (by simp [upd, e3]) (by simp [upd, e8]) (by simp [upd, e9]) hov' hd hn hpl (fun p e' kvP' J' he' hG2 => hk p e' kvP' kv1 J' ?_ hG2)
 intro x hx hx9
 rw [he' x (by omega)]
 simp (disch := omega) only [upd_ne]
set_option maxRecDepth 20000 in
set_option maxHeartbeats 8000000 in
theorem lp4uA1 (L : List Int) (heads : List Hd) (nm : ByteArray) (rs : List ByteArray) (a1 : Nat) (ha : a1 ≤ 100000) (xs1 xs2 : List St) (a2 : Nat) (hv : nxF L a1 6 = 2)
  (h15 : MCO 37 L (a1 + 1) [.fs (rs.map .str), .int .i64 2, .int .i64 3, .fs (heads.map encH)] xs2 a2) : A4 L heads nm rs a1 xs1 xs2 a2 := by
 intro sid N T hT J jb ps kvP kv1 kvs e m k hG hb e0 e3 e4 e8 e9 hov hd hn hnb hpl hk
 have f1 := t16 L a1 6 (by omega)
 rw [hv] at f1
 have hG' := (hG.tail (hT.tok.len _) (hT.tok.len a2)).app (resH xs2)
 have h15' := h15 sid (N + J.length) _ (hT.app J)
 have hJ2 : 2 ≤ J.length := by
  have := (List.getElem?_eq_some_iff.1 hG.st.cell).1
  rw [List.length_append, hT.tok.len] at this; omega
 have hov2 : OV (T a2 ++ J ++ resH xs2) (resV (N + J.length) xs2) (xs2.map encS) := OV_res (by rw [List.length_append, hT.tok.len])
 have hd2 : ∀ kv ∈ kvP :: kvs, dj kv (resV (N + J.length) xs2) := by
  intro kv hkv id
  by_cases hid : id = N + J.length
  ·left; exact hG.mem_lt kv hkv id (by rw [List.length_append, hT.tok.len]; omega)
  ·right; exact resV_ne hid
 have hbb : (J ++ resH xs2)[jb]? = some (.row [.agg [.str nm, .fs (rs.map .str)]]) := by rw [List.getElem?_append_left (List.getElem?_eq_some_iff.1 hb).1]; exact hb
 rw [List.append_assoc] at hG' hov2
 simp -implicitDefEqProofs only [bm4u944, e0, e3, e4, e8, e9, hT.tok.len, hT.tok.at0, hT.tok.atS, hT.tok.set0, hT.tok.setS, hT.tok.get, Int.reduceEq, go_sem]
 repeat' (first | ((first | (with_reducible first | refine cgA ((f1.at hT _)) ?_ | refine cgA h15' ?_) | (with_reducible refine F_q2 ?_)); simp -implicitDefEqProofs only [e0, e3, e4, e8, e9, hb, hT.tok.len, hT.tok.at0, hT.tok.atS, hT.tok.set0, hT.tok.setS, hT.tok.get, Int.reduceEq, go_sem]) | (with_reducible refine Fork.mk ?_ ?_) | (with_reducible refine And.intro ?_ ?_) | ((with_reducible refine rpI ?_); simp -implicitDefEqProofs only [rm4, hT.tok.len, hT.tok.at0, hT.tok.atS, hT.tok.set0, hT.tok.setS, hT.tok.get, push_cast, go_sem_proc]) | intro _)
 refine lp4uB hT a2 (J ++ resH xs2) jb nm rs xs2 ps kvP (resV (N + J.length) xs2) kvs _ _ k hG' hbb (by simp [upd, e3]) (by simp [upd, e8]) (by simp [upd]) hov2 hd2 (fun i hi => resV_ne (by omega)) hpl (fun p e' kvP' J' he' hG2 => hk p e' kvP' _ J' ?_ hG2)
 intro x hx hx9
 rw [he' x (by omega)]
 simp (disch := omega) only [upd_ne]
set_option maxRecDepth 20000 in
set_option maxHeartbeats 8000000 in
theorem lp4uA0 (L : List Int) (heads : List Hd) (nm : ByteArray) (rs : List ByteArray) (a1 : Nat) (ha : a1 ≤ 100000) (xs1 : List St) (hx1 : xs1.length ≤ 100000) (x : St) (a2 : Nat) (v : Int) (hv : nxF L a1 6 = v) (hv01 : v = 0 ∨ v = 1)
  (h17 : MC 39 L (a1 + 1) [encH (nm, rs)] (.fs [encS x]) a2) : A4 L heads nm rs a1 xs1 (xs1 ++ [x]) a2 := by
 intro sid N T hT J jb ps kvP kv1 kvs e m k hG hb e0 e3 e4 e8 e9 hov hd hn hnb hpl hk
 have f1 := t16 L a1 6 (by omega)
 rw [hv] at f1
 simp only [encH] at h17
 have hG' := (hG.tail (hT.tok.len _) (hT.tok.len a2))
 have hov' := hov.tail (hT.tok.len _) (fun i hi => hn i (by omega)) (hT.tok.len a2)
 have hJ2 : 2 ≤ J.length := by
  have := (List.getElem?_eq_some_iff.1 hG.st.cell).1
  rw [List.length_append, hT.tok.len] at this; omega
 rcases hv01 with rfl | rfl
 all_goals
  simp -implicitDefEqProofs only [bm4u944, e0, e3, e4, e8, e9, hT.tok.len, hT.tok.at0, hT.tok.atS, hT.tok.set0, hT.tok.setS, hT.tok.get, Int.reduceEq, go_sem]
  repeat' (first | ((first | (with_reducible first | refine cgA ((f1.at hT _)) ?_ | refine cgA ((h17.at hT _)) ?_) | (with_reducible refine F_q2 ?_)); simp -implicitDefEqProofs only [e0, e3, e4, e8, e9, hb, hT.tok.len, hT.tok.at0, hT.tok.atS, hT.tok.set0, hT.tok.setS, hT.tok.get, Int.reduceEq, go_sem]) | (with_reducible refine Fork.mk ?_ ?_) | (with_reducible refine And.intro ?_ ?_) | ((with_reducible refine rpI ?_); simp -implicitDefEqProofs only [rm4, hT.tok.len, hT.tok.at0, hT.tok.atS, hT.tok.set0, hT.tok.setS, hT.tok.get, push_cast, go_sem_proc]) | intro _)
 all_goals first
  | (obtain ⟨k, r, t, vv, l, ⟨ek, en, es, eas⟩, sa, sb, p, ps⟩ := x; rw [encS_mk]; rfl)
  | skip
 all_goals refine app_OV hov' ?_ (headOk_S _) ?_ ?_
 all_goals first
  | (intro i o l h; cases h; done)
  | (simp; omega)
  | skip
 all_goals
  intro kv2 H' hov2 hle hfr
  have hHl : (T a2 ++ J).length = N + J.length := by rw [List.length_append, hT.tok.len]
  obtain ⟨J', rfl⟩ := prefix_eq (H := H') (A := T a2) (by rw [hT.tok.len]; omega) (fun j hj => by
   have hjN : j < N := by rw [hT.tok.len] at hj; exact hj
   rw [(hfr j (by omega) (hn j (by omega))).1, List.getElem?_append_left hj])
  have hG2 : G4 (T a2 ++ J') N ps kvP kvs := hG'.frame hd (hn N (by omega)) (hn (N + 1) (by omega)) (fun j _ hj hne => (hfr j hj hne).1)
  have hd2 : ∀ kv ∈ kvP :: kvs, dj kv kv2 := by
   intro kv hkv id
   by_cases hid : id < (T a2 ++ J).length
   ·rcases hd kv hkv id with h | h
    ·exact .inl h
    ·exact .inr (hfr id hid h).2
   ·exact .inl (hG'.mem_lt kv hkv id (by omega))
  have hn2 : ∀ i, i < N + 2 → kvne kv2 i := fun i hi => (hfr i (by omega) (hn i hi)).2
  have hbb : J'[jb]? = some (.row [.agg [.str nm, .fs (rs.map .str)]]) := by
   have hjl := (List.getElem?_eq_some_iff.1 hb).1
   rw [← hT.tok.atS a2 J' jb, (hfr (N + jb) (by omega) hnb).1, hT.tok.atS]; exact hb
  simp -implicitDefEqProofs only [e0, e3, e4, e8, e9, Int.reduceEq, go_sem]
  refine lp4uB hT a2 J' jb nm rs (xs1 ++ [x]) ps kvP kv2 kvs _ _ k hG2 hbb (by simp [upd, e3]) (by simp [upd, e8]) (by simp [upd]) (by simpa using hov2) hd2 hn2 hpl (fun p e' kvP' J' he' hG2 => hk p e' kvP' _ J' ?_ hG2)
  intro x hx hx9
  rw [he' x (by omega)]
  simp (disch := omega) only [upd_ne]
def B4 (L : List Int) (heads : List Hd) (j a : Nat) (zs : List St) (a3 : Nat) : Prop :=
 ∀ (sid N : Nat) (T : Nat → List Blk), MS L sid N T → ∀ (J : List Blk) (ps : List Pr) (kvP : V) (kvs : List V) (e : Env) (m : Nat) (k : Kont),
  G4 (T a ++ J) N ps kvP kvs → ps.length ≤ 100 → e 0 = .ptr sid 0 0 → e 3 = .ptr (N + 1) 0 0 → e 4 = .fs (heads.map encH) → e 29 = .fs (heads.map encH) → e 30 = .int .i64 heads.length → e 31 = .int .i64 j →
  (∀ p e' kvP' kv2 J', (∀ x, x < 31 → x ≠ 7 → x ≠ 8 → x ≠ 9 → e' x = e x) → e' 31 = .int .i64 ((j + 1 : Nat) : Int) → G4 (T a3 ++ J') N (ps ++ [⟨(heads.getD j (em, [])).1, (heads.getD j (em, [])).2, zs⟩]) kvP' (kvs ++ [kv2]) → F Tryz.prog (p + 1) (.app k .normal e' (T a3 ++ J'))) →
  F Tryz.prog (m + 500) (.code bm4u1 e (T a ++ J) k)
set_option maxRecDepth 20000 in
set_option maxHeartbeats 8000000 in
theorem b4 (L : List Int) (heads : List Hd) (hh : heads.length ≤ 10) (j a : Nat) (hj : j < heads.length) (xs1 zs : List St) (a1 a3 : Nat)
  (h15 : MCO 37 L a [.fs ((heads.getD j (em, [])).2.map .str), .int .i64 2, .int .i64 3, .fs ((heads.drop (j + 1)).map encH)] xs1 a1)
  (hA : A4 L heads (heads.getD j (em, [])).1 (heads.getD j (em, [])).2 a1 xs1 zs a3) : B4 L heads j a zs a3 := by
 intro sid N T hT J ps kvP kvs e m k hG hpl e0 e3 e4 e29 e30 e31 hk
 have hgd : (heads.map encH).getD j .any = encH (heads.getD j (em, [])) := by simp [List.getD, hj]
 generalize heads.getD j (em, []) = hd at *
 obtain ⟨nm, rs⟩ := hd
 simp only [encH] at hgd
 simp only at h15 hA hk
 have hlt : ((j : Int) < heads.length) := by omega
 have hix : ixP (j : Int) heads.length = True := by simp [ixP]; omega
 have hw2 : IntKind.i64.wrap ((j : Int) + 1) = ((j + 1 : Nat) : Int) := wrap_succ (by omega)
 have hle1 : j + 1 ≤ heads.length := hj
 have h15' := h15 sid (N + (J ++ [Blk.row [.agg [.str nm, .fs (rs.map .str)]]]).length) _ (hT.app (J ++ [Blk.row [.agg [.str nm, .fs (rs.map .str)]]]))
 have htk : (heads.map encH).take heads.length = heads.map encH := List.take_of_length_le (by simp)
 have hdr : (heads.map encH).drop (j + 1) = (heads.drop (j + 1)).map encH := by rw [List.map_drop]
 have hok : headOk 2 (heads.map encH) := headOk_map encH 2 (fun _ => rfl) _
 have hle2 : (((j + 1 : Nat) : Int) ≤ heads.length) := by omega
 have hle0 : (0 ≤ ((j + 1 : Nat) : Int)) := by omega
 simp -implicitDefEqProofs only [bm4u1, e0, e3, e4, e29, e30, e31, hlt, hix, hgd, hw2, hT.tok.len, hT.tok.at0, hT.tok.atS, hT.tok.set0, hT.tok.setS, hT.tok.get, hT.tok.set, htk, hdr, hok, hle2, hle0, Int.le_refl, go_sem]
 repeat' (first | ((first | (with_reducible refine cgA h15' ?_) | (with_reducible refine F_q2 ?_)); simp -implicitDefEqProofs only [e0, e3, e4, e29, e30, e31, hlt, hix, hgd, hw2, hT.tok.len, hT.tok.at0, hT.tok.atS, hT.tok.set0, hT.tok.setS, hT.tok.get, hT.tok.set, htk, hdr, hok, hle2, hle0, Int.le_refl, go_sem]) | (with_reducible refine Fork.mk ?_ ?_) | (with_reducible refine And.intro ?_ ?_) | ((with_reducible refine rpI ?_); simp -implicitDefEqProofs only [rm4, hT.tok.len, hT.tok.at0, hT.tok.atS, hT.tok.set0, hT.tok.setS, hT.tok.get, push_cast, go_sem_proc]) | intro _)
 have hHl : (T a ++ J).length = N + J.length := by rw [List.length_append, hT.tok.len]
 have hJ2 : N + 2 ≤ N + J.length := by
  have := (List.getElem?_eq_some_iff.1 hG.st.cell).1
  omega
 have hG1 : G4 (T a1 ++ (J ++ Blk.row [.agg [.str nm, .fs (rs.map .str)]] :: resH xs1)) N ps kvP kvs := by
  have := (hG.tail (hT.tok.len _) (hT.tok.len a1)).app (Blk.row [.agg [.str nm, .fs (rs.map .str)]] :: resH xs1)
  rwa [List.append_assoc] at this
 have hov : OV (T a1 ++ (J ++ Blk.row [.agg [.str nm, .fs (rs.map .str)]] :: resH xs1)) (resV (N + (J.length + 1)) xs1) (xs1.map encS) := by
  have := OV_res (A := T a1 ++ (J ++ [Blk.row [.agg [.str nm, .fs (rs.map .str)]]])) (xs := xs1) (n := N + (J.length + 1)) (by simp [hT.tok.len])
  simpa using this
 have hd : ∀ kv ∈ kvP :: kvs, dj kv (resV (N + (J.length + 1)) xs1) := by
  intro kv hkv id
  by_cases hid : id = N + (J.length + 1)
  ·left; exact hG.mem_lt kv hkv id (by omega)
  ·right; exact resV_ne hid
 refine hA sid N T hT (J ++ Blk.row [.agg [.str nm, .fs (rs.map .str)]] :: resH xs1) J.length ps kvP _ kvs _ _ _ hG1 (by simp) (by simp [upd, e0]) (by simp [upd, e3]) (by simp [upd, e4]) (by simp [upd]) (by simp [upd]) hov hd (fun i hi => resV_ne (by omega)) (resV_ne (by omega)) hpl ?_
 intro p e' kvP' kv2 J' he' hG2
 have f31 : e' 31 = .int .i64 j := (he' 31 (by omega) (by omega)).trans (by simp [upd, e31])
 simp -implicitDefEqProofs only [f31, hw2, go_sem]
 refine hk _ _ kvP' kv2 J' ?_ (by simp [upd]) hG2
 intro x hx h7 h8 h9
 simp (disch := omega) only [upd_ne]
 rw [he' x (by omega) h9]
 simp (disch := omega) only [upd_ne]
set_option maxRecDepth 20000 in
theorem b4any (L : List Int) (heads : List Hd) (hh : heads.length ≤ 10) (hh2 : ∀ h ∈ heads, 2 ≤ h.2.length ∧ h.2.length ≤ 3) (j a : Nat) (hj : j < heads.length) (ha : a ≤ 60000) :
  ∃ zs a3, a ≤ a3 ∧ a3 ≤ a + 10000 ∧ wSs zs ≤ 6000 ∧ B4 L heads j a zs a3 := by
 have hc : cW 2 = 1652 := by decide
 have hmem : heads.getD j (em, []) ∈ heads := by simp [List.getD, hj]
 obtain ⟨hr1, hr2⟩ := hh2 _ hmem
 obtain ⟨xs1, a1, g1, g2, g3, g4⟩ := t15 L (heads.getD j (em, [])).2 (heads.drop (j + 1)) (by omega) (by omega) (by simp; omega) (fun h hm => by have := hh2 h (List.mem_of_mem_drop hm); omega) 2 220000 (by omega) (by omega) (by omega) 3 a (by omega) (by omega) (by omega)
 simp only [hc] at g2 g3
 have g2' : a1 ≤ a + 1 + 3 * 1652 := g2
 have g3' : wSs xs1 ≤ 3 * 1652 := g3
 clear g2 g3
 have hb := nxF_bound (L := L) (a := a1) (n := 6) (by omega) (by omega)
 have hl1 := len_wSs xs1
 by_cases hv01 : nxF L a1 6 = 0 ∨ nxF L a1 6 = 1
 ·obtain ⟨x, a2, k1, k2, k3, k4⟩ := t17 L (a1 + 1) (by omega) (heads.getD j (em, [])) hr1 (by omega)
  refine ⟨xs1 ++ [x], a2, by omega, by omega, ?_, b4 L heads hh j a hj xs1 _ a1 a2 g4.mco (lp4uA0 L heads _ _ a1 (by omega) xs1 (by omega) x a2 _ rfl hv01 k4)⟩
  rw [wSs_append]; simp only [wSs]; omega
 ·by_cases hv2 : nxF L a1 6 = 2
  ·obtain ⟨xs2, a2, k1, k2, k3, k4⟩ := t15 L (heads.getD j (em, [])).2 heads (by omega) (by omega) hh (fun h hm => by have := hh2 h hm; omega) 2 220000 (by omega) (by omega) (by omega) 3 (a1 + 1) (by omega) (by omega) (by omega)
   simp only [hc] at k2 k3
   have k2' : a2 ≤ a1 + 1 + 1 + 3 * 1652 := k2
   have k3' : wSs xs2 ≤ 3 * 1652 := k3
   clear k2 k3
   exact ⟨xs2, a2, by omega, by omega, by omega, b4 L heads hh j a hj xs1 _ a1 a2 g4.mco (lp4uA1 L heads _ _ a1 (by omega) xs1 xs2 a2 hv2 k4.mco)⟩
  ·exact ⟨xs1, a1 + 1, by omega, by omega, by omega, b4 L heads hh j a hj xs1 _ a1 _ g4.mco (lp4uA2 L heads _ _ a1 (by omega) xs1 _ rfl (fun h => hv01 (.inl h)) (fun h => hv01 (.inr h)) hv2)⟩
theorem choose2 {α : Type} (x0 : α) {P : Nat → Nat → α → Prop} {n M : Nat} (h : ∀ j, j < n → ∀ a, a ≤ M → ∃ x, P j a x) : ∃ f : Nat → Nat → α, ∀ j, j < n → ∀ a, a ≤ M → P j a (f j a) := by
 have : ∀ j, ∃ g : Nat → α, j < n → ∀ a, a ≤ M → P j a (g a) := fun j => by
  by_cases hj : j < n
  ·obtain ⟨g, hg⟩ := choose_le x0 (h j hj)
   exact ⟨g, fun _ => hg⟩
  ·exact ⟨fun _ => x0, fun h => absurd h hj⟩
 exact ⟨fun j => (this j).choose, fun j hj => (this j).choose_spec hj⟩
def sq (heads : List Hd) (f : Nat → Nat → List St × Nat) (a : Nat) : Nat → List Pr × Nat
 | 0 => ([], a)
 | j + 1 => ((sq heads f a j).1 ++ [⟨(heads.getD j (em, [])).1, (heads.getD j (em, [])).2, (f j (sq heads f a j).2).1⟩], (f j (sq heads f a j).2).2)
set_option maxRecDepth 20000 in
set_option maxHeartbeats 8000000 in
theorem lp4u1 (L : List Int) (heads : List Hd) (hh : heads.length ≤ 3) (hh2 : ∀ h ∈ heads, 2 ≤ h.2.length ∧ h.2.length ≤ 3) (a : Nat) (ha : a ≤ 1000) :
  ∃ ps a', a ≤ a' ∧ a' ≤ a + 30000 ∧ wPs ps ≤ 20000 ∧ ps.length ≤ 3 ∧ ∀ (sid N : Nat) (T : Nat → List Blk), MS L sid N T → ∀ (J : List Blk) (e : Env) (m : Nat) (k : Kont),
   G4 (T a ++ J) N [] .nils [] → e 0 = .ptr sid 0 0 → e 2 = .ptr N 0 0 → e 3 = .ptr (N + 1) 0 0 → e 4 = .fs (heads.map encH) → e 29 = .fs (heads.map encH) → e 30 = .int .i64 heads.length → e 31 = .int .i64 0 →
   (∀ p e' kvP kvs J', m ≤ p → e' 0 = .ptr sid 0 0 → e' 2 = .ptr N 0 0 → e' 3 = .ptr (N + 1) 0 0 → e' 4 = .fs (heads.map encH) → G4 (T a' ++ J') N ps kvP kvs → F Tryz.prog (p + 3) (.app k (.exit 2) e' (T a' ++ J'))) →
   F Tryz.prog (m + 520) (.code (.loop bm4u1) e (T a ++ J) k) := by
 obtain ⟨f, hf⟩ : ∃ f : Nat → Nat → List St × Nat, ∀ j, j < heads.length → ∀ a, a ≤ 60000 → a ≤ (f j a).2 ∧ (f j a).2 ≤ a + 10000 ∧ wSs (f j a).1 ≤ 6000 ∧ B4 L heads j a (f j a).1 (f j a).2 := by
  have h : ∀ j, j < heads.length → ∀ a, a ≤ 60000 → ∃ x : List St × Nat, a ≤ x.2 ∧ x.2 ≤ a + 10000 ∧ wSs x.1 ≤ 6000 ∧ B4 L heads j a x.1 x.2 := fun j hj a ha => by
   obtain ⟨zs, a3, h1, h2, h3, h4⟩ := b4any L heads (by omega) hh2 j a hj ha
   exact ⟨(zs, a3), h1, h2, h3, h4⟩
  exact choose2 ([], 0) h
 have hsq : ∀ j, j ≤ heads.length → a ≤ (sq heads f a j).2 ∧ (sq heads f a j).2 ≤ a + j * 10000 ∧ wPs (sq heads f a j).1 ≤ j * 6003 ∧ (sq heads f a j).1.length = j := by
  intro j
  induction j with
  | zero => intro _; simp [sq, wPs]
  | succ j ih =>
   intro hj
   obtain ⟨h1, h2, h3, h4⟩ := ih (by omega)
   obtain ⟨g1, g2, g3, _⟩ := hf j (by omega) (sq heads f a j).2 (by omega)
   have hmem : heads.getD j (em, []) ∈ heads := by
    have : j < heads.length := by omega
    simp [List.getD, this]
   have := (hh2 _ hmem).2
   simp only [sq, wPs_append, wPs, List.length_append, List.length_cons, List.length_nil]
   refine ⟨by omega, by omega, by omega, by omega⟩
 obtain ⟨q1, q2, q3, q4⟩ := hsq heads.length (Nat.le_refl _)
 refine ⟨(sq heads f a heads.length).1, (sq heads f a heads.length).2, q1, by omega, by omega, by omega, ?_⟩
 intro sid N T hT J e m k hG e0 e2 e3 e4 e29 e30 e31 hk
 refine F_loop (fun q e H => ∃ j kvP kvs J, q = heads.length - j ∧ j ≤ heads.length ∧ e 0 = .ptr sid 0 0 ∧ e 2 = .ptr N 0 0 ∧ e 3 = .ptr (N + 1) 0 0 ∧ e 4 = .fs (heads.map encH) ∧ e 29 = .fs (heads.map encH) ∧ e 30 = .int .i64 heads.length ∧ e 31 = .int .i64 (j : Nat) ∧
   H = T (sq heads f a j).2 ++ J ∧ G4 H N (sq heads f a j).1 kvP kvs) heads.length ?_ ?_
 ·exact ⟨0, .nils, [], J, rfl, by omega, e0, e2, e3, e4, e29, e30, e31, rfl, hG⟩
 rintro q e H ⟨j, kvP, kvs, J, rfl, hj, e0, e2, e3, e4, e29, e30, e31, rfl, hG⟩
 by_cases hjn : j = heads.length
 ·subst hjn
  have hnl : ¬ ((heads.length : Int) < heads.length) := by omega
  simp -implicitDefEqProofs only [bm4u1, e0, e2, e3, e4, e29, e30, e31, hnl, go_sem]
  exact hk _ _ kvP kvs J (by omega) (by simp [upd, e0]) (by simp [upd, e2]) (by simp [upd, e3]) (by simp [upd, e4]) hG
 ·obtain ⟨h1, h2, h3, h4⟩ := hsq j hj
  obtain ⟨_, _, _, hB⟩ := hf j (by omega) (sq heads f a j).2 (by omega)
  refine hB sid N T hT J _ kvP kvs e _ _ hG (by omega) e0 e3 e4 e29 e30 e31 ?_
  intro p e' kvP' kv2 J' he' f31 hG2
  rw [F_loopN]
  refine ⟨heads.length - (j + 1), by omega, j + 1, kvP', kvs ++ [kv2], J', rfl, by omega, (he' 0 (by omega) (by omega) (by omega) (by omega)).trans e0, (he' 2 (by omega) (by omega) (by omega) (by omega)).trans e2, (he' 3 (by omega) (by omega) (by omega) (by omega)).trans e3, (he' 4 (by omega) (by omega) (by omega) (by omega)).trans e4,
   (he' 29 (by omega) (by omega) (by omega) (by omega)).trans e29, (he' 30 (by omega) (by omega) (by omega) (by omega)).trans e30, f31, rfl, hG2⟩
theorem fz_encH (H : List Blk) (n : Nat) (h : Hd) : fz H (n + 2) (encH h) = some (encH h) := by
 unfold encH
 simp -implicitDefEqProofs only [push_cast, go_sem_proc]
theorem PSt.setz {H : List Blk} {idp N i : Nat} {P : Pla} {kvP kvS : V} {kvs : List V} (h : PSt H idp P kvP kvS kvs) (hs : Sep idp N kvP kvS kvs) (hi : i < N) (hne : i ≠ idp) (b : Blk) : PSt (H.set i b) idp P kvP kvS kvs where
 cell := by rw [List.getElem?_set, if_neg hne]; exact h.cell
 ovP := h.ovP.setne (hs.ge kvP (by simp) i hi)
 ovS := h.ovS.setne (hs.ge kvS (by simp) i hi)
 len := h.len
 ovs j q kv h1 h2 := (h.ovs j q kv h1 h2).setne (hs.ge kv (mem_of h2) i hi)
theorem G4.main {H : List Blk} {N : Nat} {ps : List Pr} {kvP kvS : V} {kvs : List V} {xs : List St} (h : G4 H N ps kvP kvs) (hov : OV H kvS (xs.map encS)) (hd : ∀ kv ∈ kvP :: kvs, dj kv kvS) (hn : ∀ i, i < N + 2 → kvne kvS i) :
  PSt (H.set (N + 1) (.row [.agg [kvP, kvS]])) (N + 1) ⟨ps, xs⟩ kvP kvS kvs ∧ Sep (N + 1) (N + 1) kvP kvS kvs := by
 refine ⟨⟨?_, ?_, ?_, h.st.len, ?_⟩, ⟨?_, ?_, ?_⟩⟩
 ·rw [List.getElem?_set, if_pos rfl, if_pos (List.getElem?_eq_some_iff.1 h.st.cell).1]
 ·exact h.st.ovP.setne (h.sep.ne kvP (by simp))
 ·exact hov.setne (hn _ (by omega))
 ·intro i q kv h1 h2
  exact (h.st.ovs i q kv h1 h2).setne (h.sep.ne kv (mem_of h2))
 ·rw [List.pairwise_cons, List.pairwise_cons]
  have hp := List.pairwise_cons.1 h.sep.pw
  have hp2 := List.pairwise_cons.1 hp.2
  refine ⟨?_, ?_, hp2.2⟩
  ·intro kv hkv
   rcases List.mem_cons.1 hkv with rfl | hm
   ·exact hd kvP (by simp)
   ·exact hp.1 kv (by simp [hm])
  ·intro kv hkv id
   exact (hd kv (by simp [hkv]) id).symm
 ·intro kv hkv i hi
  rcases List.mem_cons.1 hkv with rfl | hm
  ·exact h.sep.ge kv (by simp) i hi
  ·rcases List.mem_cons.1 hm with rfl | hm
   ·exact hn i (by omega)
   ·exact h.sep.ge kv (by simp [hm]) i hi
 ·intro kv hkv
  rcases List.mem_cons.1 hkv with rfl | hm
  ·exact h.sep.ne kv (by simp)
  ·rcases List.mem_cons.1 hm with rfl | hm
   ·exact hn _ (by omega)
   ·exact h.sep.ne kv (by simp [hm])
def abc : List ByteArray := [⟨#[97]⟩, ⟨#[98]⟩, ⟨#[99]⟩]
set_option maxRecDepth 20000 in
set_option maxHeartbeats 8000000 in
theorem t4 (L : List Int) (a : Nat) (ha : a ≤ 500) : ∃ P a', a ≤ a' ∧ a' ≤ a + 80000 ∧ wPl P ≤ 100000 ∧ P.procs.length ≤ 3 ∧ MC 6 L a [] (encPl P) a' := by
 have hhl := hdF_len L a 3
 have hhm := hdF_mem L a 3 (Nat.le_refl _)
 have hc : cW 3 = 6940 := by decide
 obtain ⟨ps, a2, q1, q2, q3, q4, q5⟩ := lp4u1 L (hdF L a 3) hhl hhm (a + 3) (by omega)
 obtain ⟨xs, a3, g1, g2, g3, g4⟩ := t15 L abc (hdF L a 3) (by decide) (by decide) (by omega) (fun h hm => by have := hhm h hm; omega) 3 100000 (by omega) (by omega) (by omega) 5 a2 (by omega) (by omega) (by omega)
 simp only [hc] at g2 g3
 have g2' : a3 ≤ a2 + 1 + 5 * 6940 := g2
 have g3' : wSs xs ≤ 5 * 6940 := g3
 clear g2 g3
 have f1 := t14 L a3 12 (by omega)
 have hwp : wPl ⟨ps, xs⟩ ≤ 60000 := by simp only [wPl]; omega
 have walk : ∀ (sid N : Nat) (T : Nat → List Blk), MS L sid N T → ∀ (K : V → List Blk → Prop),
   (∀ (kvP kvS : V) (kvs : List V) (J : List Blk) (e : Env) (m : Nat), PSt (T a3 ++ J) (N + 1) ⟨ps, xs⟩ kvP kvS kvs → Sep (N + 1) (N + 1) kvP kvS kvs → J[0]? = some Z2 → e 0 = .ptr sid 0 0 → e 2 = .ptr N 0 0 → e 3 = .ptr (N + 1) 0 0 →
    F Tryz.prog (m + 200) (.code bm4u978 e (T a3 ++ J) (fin Tryz.prog rm4 K))) → ACall Tryz.prog 6 [.ptr sid 0 0] (T a) K := by
  intro sid N T hT K hK
  refine ACall.intro cm4 2000 (by simp) ?_
  simp -implicitDefEqProofs only [sm4, hT.tok.len, hT.tok.at0, hT.tok.atS, hT.tok.set0, hT.tok.setS, hT.tok.get, go_sem]
  intro _
  refine lp4u0 L a (by omega) hT _ _ _ ?_ ?_ ?_ ?_ ?_ ?_ ?_ ?_
  ·simp [upd, env0]
  ·simp [upd]
  ·simp [upd]
  ·simp [upd]
  ·simp [upd, cands, encH]
  ·simp [upd]
  ·simp [upd]
  intro p e' kv J hp e0 e2 e3 e4 hov hkn
  obtain ⟨p, rfl⟩ : ∃ q, p = q + 1500 := ⟨p - 1500, by omega⟩
  simp -implicitDefEqProofs only [e0, e2, e3, e4, go_sem]
  have hA2 : (T (a + 3) ++ [Z2, Z2]).length = N + 2 := by simp [hT.tok.len]
  have hre : T (a + 3) ++ Z2 :: Z2 :: J = (T (a + 3) ++ [Z2, Z2]) ++ J := by simp
  refine ⟨List.range' (N + 2) J.length, .fs ((hdF L a 3).map encH), ?_, ?_⟩
  ·rw [hre, keepL_tail' hA2 rfl]
   refine fz_OV (f := encH) (n := 18) (fun H x => fz_encH H 17 x) ?_
   refine OV.tail (A := T (a + 3) ++ [Z2, Z2]) (n := N + 2) (by simpa using hov) hA2 hkn (by simp)
  ·rw [hre, killL_tail2 hA2 rfl, List.append_assoc]
   generalize List.drop (N + 2) _ = J2
   simp -implicitDefEqProofs only [e0, e2, e3, e4, go_sem]
   intro _
   have hG0 : G4 (T (a + 3) ++ Z2 :: Z2 :: J2) N [] .nils [] := by
    refine ⟨⟨?_, .inl ⟨rfl, rfl⟩, .inl ⟨rfl, rfl⟩, rfl, ?_⟩, ⟨?_, ?_, ?_⟩, ?_⟩
    ·rw [hT.tok.atS]; rfl
    ·intro i q kv h; simp at h
    ·simp [dj, kvne]
    ·intro kv hkv i _; simp at hkv; subst hkv; exact kvne_nils i
    ·intro kv hkv; simp at hkv; subst hkv; exact kvne_nils _
    ·rw [hT.tok.at0]; rfl
   refine q5 sid N T hT (Z2 :: Z2 :: J2) _ _ _ hG0 ?_ ?_ ?_ ?_ ?_ ?_ ?_ ?_
   ·simp [upd, e0]
   ·simp [upd, e2]
   ·simp [upd, e3]
   ·simp [upd]
   ·simp [upd]
   ·simp [upd]
   ·simp [upd]
   intro p3 e3' kvP kvs J3 hp3 f0 f2 f3 f4 hG
   obtain ⟨p3, rfl⟩ : ∃ q, p3 = q + 700 := ⟨p3 - 700, by omega⟩
   have hHl : (T a2 ++ J3).length = N + J3.length := by rw [List.length_append, hT.tok.len]
   have hcell := hG.st.cell
   have hz := hG.z
   rw [hT.tok.atS] at hcell
   rw [hT.tok.at0] at hz
   have hJ2 : 2 ≤ J3.length := (List.getElem?_eq_some_iff.1 hcell).1
   have h15 := g4.mco sid (N + J3.length) _ (hT.app J3)
   simp only [abc, List.map_cons, List.map_nil] at h15
   have hcl : ∀ X : List Blk, (J3 ++ X)[1]? = some (.row [.agg [kvP, .nils]]) := fun X => by rw [List.getElem?_append_left (by omega)]; exact hcell
   have hov2 : OV (T a3 ++ J3 ++ resH xs) (resV (N + J3.length) xs) (xs.map encS) := OV_res (by rw [List.length_append, hT.tok.len])
   have hd2 : ∀ kv ∈ kvP :: kvs, dj kv (resV (N + J3.length) xs) := by
    intro kv hkv id
    by_cases hid : id = N + J3.length
    ·left; exact hG.mem_lt kv hkv id (by omega)
    ·right; exact resV_ne hid
   have hone := hov2.vone
   simp only [V.one] at hone
   have hc1 := hov2.one
   have honeP := hG.st.ovP.vone
   simp only [V.one] at honeP
   have hcP := hG.st.ovP.one
   obtain ⟨hP2, hS2⟩ := ((hG.tail (hT.tok.len _) (hT.tok.len a3)).app (resH xs)).main hov2 hd2 (fun i hi => resV_ne (by omega))
   rw [List.append_assoc, hT.tok.setS] at hP2
   have hz2 : ((J3 ++ resH xs).set 1 (.row [.agg [kvP, resV (N + J3.length) xs]]))[0]? = some Z2 := by
    rw [List.getElem?_set_ne (by omega), List.getElem?_append_left (by omega)]; exact hz
   simp -implicitDefEqProofs only [f0, f2, f3, f4, hT.tok.len, hT.tok.at0, hT.tok.atS, hT.tok.set0, hT.tok.setS, hT.tok.get, go_sem]
   repeat' (first | ((first | (with_reducible refine cgA h15 ?_) | (with_reducible refine F_q2 ?_)); simp -implicitDefEqProofs only [f0, f2, f3, f4, hT.tok.len, hT.tok.at0, hT.tok.atS, hT.tok.set0, hT.tok.setS, hT.tok.get, hcl, hone, hc1, honeP, hcP, go_sem]) | (with_reducible refine Fork.mk ?_ ?_) | (with_reducible refine And.intro ?_ ?_) | ((with_reducible refine rpI ?_); simp -implicitDefEqProofs only [rm4, hT.tok.len, hT.tok.at0, hT.tok.atS, hT.tok.set0, hT.tok.setS, hT.tok.get, push_cast, go_sem_proc]) | intro _)
   exact hK kvP _ kvs _ _ _ hP2 hS2 hz2 (by simp [upd, f0]) (by simp [upd, f2]) (by simp [upd, f3])
 have fini : ∀ (sid N : Nat) (T : Nat → List Blk), MS L sid N T → ∀ (b : Nat) (P : Pla) (J : List Blk) (kvP kvS : V) (kvs : List V), PSt (T b ++ J) (N + 1) P kvP kvS kvs → Sep (N + 1) (N + 1) kvP kvS kvs →
   ∃ X, T b ++ J.set 0 (.row [.agg [kvP, kvS]]) = T b ++ X ∧ ∃ r2, fz (List.replicate N .dead ++ X) 20 (.agg [kvP, kvS]) = some r2 ∧ r2 = encPl P := by
  intro sid N T hT b P J kvP kvS kvs hP hS
  refine ⟨_, rfl, _, ?_, rfl⟩
  have h1 := hP.setz hS (i := N) (by omega) (by omega) (.row [.agg [kvP, kvS]])
  rw [hT.tok.set0] at h1
  exact (h1.tail (hS.weaken (by omega)) (hT.tok.len b) (by simp) : PSt (List.replicate N .dead ++ _) (N + 1) P kvP kvS kvs).fzP
 cases hb : decide (nxF L a3 12 = 0) with
 | false =>
  rw [hb] at f1
  refine ⟨⟨ps, xs⟩, a3 + 1, by omega, by omega, by omega, q4, fun sid N T hT => hT.trimO (noref_encPl _) ?_⟩
  refine walk sid N T hT _ (fun kvP kvS kvs J e m hP hS hz e0 e2 e3 => ?_)
  have hcell := hP.cell
  rw [hT.tok.atS] at hcell
  have honeP := hP.ovP.vone
  simp only [V.one] at honeP
  have hcP := hP.ovP.one
  have honeS := hP.ovS.vone
  simp only [V.one] at honeS
  have hcS := hP.ovS.one
  have hP' := hP.tail (hS.weaken (by omega)) (hT.tok.len _) (hT.tok.len (a3 + 1))
  simp only [Z2] at hz
  have hz1 : ∀ b, (J.set 0 b)[0]? = some b := fun b => by simp [(List.getElem?_eq_some_iff.1 hz).1]
  simp -implicitDefEqProofs only [bm4u978, e0, e2, e3, hcell, hz, hT.tok.len, hT.tok.at0, hT.tok.atS, hT.tok.set0, hT.tok.setS, hT.tok.get, go_sem]
  repeat' (first | ((first | (with_reducible refine cgA ((f1.at hT _)) ?_) | (with_reducible refine F_q2 ?_)); simp -implicitDefEqProofs only [e0, e2, e3, hcell, hz, hT.tok.len, hT.tok.at0, hT.tok.atS, hT.tok.set0, hT.tok.setS, hT.tok.get, honeP, hcP, honeS, hcS, go_sem]) | (with_reducible refine Fork.mk ?_ ?_) | (with_reducible refine And.intro ?_ ?_) | ((with_reducible refine rpI ?_); simp -implicitDefEqProofs only [rm4, hT.tok.len, hT.tok.at0, hT.tok.atS, hT.tok.set0, hT.tok.setS, hT.tok.get, hz1, e2, push_cast, go_sem_proc]) | intro _)
  all_goals (obtain ⟨X, h1, r2, h2, h3⟩ := fini sid N T hT (a3 + 1) _ J kvP kvS kvs hP' hS; simp -implicitDefEqProofs only [push_cast, go_sem_proc] at h2; exact ⟨X, h1, r2, h2, h3⟩)
 | true =>
  rw [hb] at f1
  obtain ⟨P', a', k1, k2, k3, k4, k5⟩ := t18 L ⟨ps, xs⟩ (a3 + 1) (by omega) (by omega) (by simp only; omega)
  simp only at k4
  refine ⟨P', a', by omega, by omega, by omega, by omega, fun sid N T hT => hT.trimO (noref_encPl _) ?_⟩
  refine walk sid N T hT _ (fun kvP kvS kvs J e m hP hS hz e0 e2 e3 => ?_)
  have hP' := hP.tail (hS.weaken (by omega)) (hT.tok.len _) (hT.tok.len (a3 + 1))
  have h18 := k5 sid N T hT J 1 kvP kvS kvs hP' (hS.weaken (by omega))
  simp -implicitDefEqProofs only [bm4u978, e0, e2, e3, hT.tok.len, hT.tok.at0, hT.tok.atS, hT.tok.set0, hT.tok.setS, hT.tok.get, go_sem]
  repeat' (first | ((first | (with_reducible refine cgA ((f1.at hT _)) ?_) | (with_reducible refine F_q2 ?_)); simp -implicitDefEqProofs only [e0, e2, e3, hT.tok.len, hT.tok.at0, hT.tok.atS, hT.tok.set0, hT.tok.setS, hT.tok.get, go_sem]) | (with_reducible refine Fork.mk ?_ ?_) | (with_reducible refine And.intro ?_ ?_) | ((with_reducible refine rpI ?_); simp -implicitDefEqProofs only [rm4, hT.tok.len, hT.tok.at0, hT.tok.atS, hT.tok.set0, hT.tok.setS, hT.tok.get, push_cast, go_sem_proc]) | intro _)
  refine h18.mono ?_
  rintro r H' ⟨rfl, J', rfl, hP2, hfr⟩
  have hz' : J'[0]? = some Z2 := (hfr 0 (fun kv hkv => hS.ge kv hkv (N + 0) (by omega))).trans hz
  have hcell := hP2.cell
  rw [hT.tok.atS] at hcell
  have honeP := hP2.ovP.vone
  simp only [V.one] at honeP
  have hcP := hP2.ovP.one
  have honeS := hP2.ovS.vone
  simp only [V.one] at honeS
  have hcS := hP2.ovS.one
  simp only [Z2] at hz'
  have hz1 : ∀ b, (J'.set 0 b)[0]? = some b := fun b => by simp [(List.getElem?_eq_some_iff.1 hz').1]
  simp -implicitDefEqProofs only [e0, e2, e3, hcell, hz', hT.tok.len, hT.tok.at0, hT.tok.atS, hT.tok.set0, hT.tok.setS, hT.tok.get, honeP, hcP, honeS, hcS, go_sem]
  repeat' (first | ((with_reducible refine F_q2 ?_); simp -implicitDefEqProofs only [e0, e2, e3, hcell, hz', hT.tok.len, hT.tok.at0, hT.tok.atS, hT.tok.set0, hT.tok.setS, hT.tok.get, honeP, hcP, honeS, hcS, go_sem]) | (with_reducible refine Fork.mk ?_ ?_) | (with_reducible refine And.intro ?_ ?_) | ((with_reducible refine rpI ?_); simp -implicitDefEqProofs only [rm4, hT.tok.len, hT.tok.at0, hT.tok.atS, hT.tok.set0, hT.tok.setS, hT.tok.get, hz1, e2, push_cast, go_sem_proc]) | intro _)
  all_goals (obtain ⟨X, h1, r2, h2, h3⟩ := fini sid N T hT a' _ J' kvP kvS kvs hP2 hS; simp -implicitDefEqProofs only [push_cast, go_sem_proc] at h2; exact ⟨X, h1, r2, h2, h3⟩)
def P7 : Pla := ⟨[], [.mk 3 ⟨#[97]⟩ em ⟨#[120]⟩ em (.mk 1 7 em []) [] [] em []]⟩
theorem t38 : PCall Tryz.prog 62 [] (·= encPl P7) := by
 refine PCall.intro c38 100 (by simp) 20 ?_
 simp -implicitDefEqProofs only [s38, go_sem]
 simp -implicitDefEqProofs only [r38, push_cast, go_sem_proc]
 simp [P7, encPl, encS_mk, em]
theorem ck7 : ckF P7 = 0 := by
 rw [ck_pl]
 decide
theorem tot7 : total P7 = 1 := by decide
theorem t13 : PCall Tryz.prog 19 [] (·= .bool true) := by
 have h6 := t6 P7 (by rw [tot7]; omega)
 rw [ck7, tot7] at h6
 simp only [if_true] at h6
 refine PCall.intro c13 200 (by simp) 20 ?_
 simp -implicitDefEqProofs only [s13, go_sem]
 repeat' (first | ((first | ((with_reducible first | refine cgR t38 ?_ ?_ | refine cgR h6 ?_ ?_); (·simp [norefL, noref, nrb])) | ((with_reducible apply cgF); (·simp -implicitDefEqProofs only [List.map_cons, List.map_nil, push_cast, go_sem_proc] <;> rfl); (with_reducible first | exact t38 | exact h6); (·rfl)) | (with_reducible refine F_q2 ?_)); simp -implicitDefEqProofs only [Int.reduceEq, go_sem]) | (with_reducible refine Fork.mk ?_ ?_) | (with_reducible refine And.intro ?_ ?_) | ((with_reducible refine rpI ?_); simp -implicitDefEqProofs only [r13, push_cast, go_sem_proc]) | intro _)
 all_goals rfl
end Go.Proofs.YtdgoeblpcnjlbaaGreatDoor.Av
