/- Proved: for every list of numbers the law PlaysChecked answers true and leaves its argument as it was (the tied card); no condition beyond the row's own. Text 14 of 14. -/
import Derived.Test.YteoboibjepokoaaGreatDoorCards
import Derived.Test.YteoboibjepokoaaGreatDoorTie
import Derived.WalkKit
import Derived.ProofKit
import Derived.OpenShut
import Derived.Carry
import Derived.Deep.DeepHandedRow
import Derived.Lib.LaidTab
import Derived.LaidMore
import Derived.Lay
import Derived.SevenTiedAt
import Derived.Stop.Joined
import Derived.Test.YteoboibjepokoaaGreatDoorW13
set_option linter.unusedVariables false
set_option linter.unusedSimpArgs false
set_option linter.unusedSectionVars false
set_option linter.all false
namespace Go.Proofs.YteoboibjepokoaaGreatDoor.Av
open Go.RowKit
theorem zw_get {ps : List Pr} {kvs : List V} {i : Nat} {q : Pr} {kv : V} (h1 : ps[i]? = some q) (h2 : kvs[i]? = some kv) : (zw ps kvs).getD i .any = zw1 q kv := by
  simp [zw, List.getD, List.getElem?_zipWith, h1, h2]
def opts2 : List (List ByteArray) := [[], [⟨#[113]⟩], [⟨#[113]⟩, ⟨#[113]⟩], [⟨#[113]⟩, ⟨#[114]⟩, ⟨#[116]⟩, ⟨#[117]⟩], [⟨#[105, 102]⟩]]
theorem opts2uat (v : Nat) (h : v < 5) : ([.fs [], .fs [.str ⟨#[113]⟩], .fs [.str ⟨#[113]⟩, .str ⟨#[113]⟩], .fs [.str ⟨#[113]⟩, .str ⟨#[114]⟩, .str ⟨#[116]⟩, .str ⟨#[117]⟩], .fs [.str ⟨#[105, 102]⟩]] : List V).getD v .any = .fs ((opts2.getD v []).map .str) := by
  have : v = 0 ∨ v = 1 ∨ v = 2 ∨ v = 3 ∨ v = 4 := by omega
  rcases this with rfl | rfl | rfl | rfl | rfl <;> rfl
set_option maxRecDepth 20000 in
set_option maxHeartbeats 8000000 in
theorem t18proc (L : List Int) (P : Pla) (a : Nat) (ha : a ≤ 500000) (hw : wPl P ≤ 900000) (hpn : P.procs.length ≤ 100000) (hp : P.procs ≠ []) (h2 : decide (nxF L a 2 = 0) = true) :
    ∃ P' a', a ≤ a' ∧ a' ≤ a + 100 ∧ wPl P' ≤ wPl P + 200 ∧ P'.procs.length = P.procs.length ∧ R18 L P a P' a' := by
  have hf14 := t14 L a 2 (by omega)
  rw [h2] at hf14
  have hlp : 0 < P.procs.length := List.length_pos_iff.2 hp
  have hpos : (0 : Int) < P.procs.length := by omega
  have hb := nxF_bound (L := L) (a := a + 1) (n := P.procs.length) (by omega) (by omega)
  have f1 := t16 L (a + 1) P.procs.length (by omega)
  have f3 := t14 L (a + 2) 3 (by omega)
  generalize nxF L (a + 1) P.procs.length = v0 at *
  obtain ⟨at_, rfl⟩ : ∃ i : Nat, v0 = i := ⟨v0.toNat, by omega⟩
  have hat : at_ < P.procs.length := by omega
  have hix : ixP (at_ : Int) P.procs.length = True := by simp [ixP]; omega
  have hne : ¬ ((P.procs.length : Int) = 0) := by omega
  obtain ⟨q, hq⟩ : ∃ q, P.procs[at_]? = some q := ⟨P.procs[at_], List.getElem?_eq_getElem hat⟩
  have hqw : q.roles.length + wSs q.steps ≤ wPl P := by
    have : ∀ (l : List Pr) (i : Nat), l[i]? = some q → q.roles.length + wSs q.steps ≤ wPs l := by
      intro l
      induction l with
      | nil => intro i h; simp at h
      | cons x l ih =>
        intro i h
        cases i with
        | zero => simp at h; subst h; simp [wPs]
        | succ i => have := ih i (by simpa using h); simp [wPs]; omega
    have := this _ _ hq
    simp only [wPl]; omega
  cases h3 : decide (nxF L (a + 2) 3 = 0) with
  | true =>
    rw [h3] at f3
    have f4 := t41 L (a + 3) [⟨#[]⟩, ⟨#[102]⟩, ⟨#[109, 97, 105, 110]⟩, ⟨#[65]⟩, ⟨#[107]⟩] (by omega) (by simp) (by simp)
    simp only [List.map_cons, List.map_nil] at f4
    generalize ([⟨#[]⟩, ⟨#[102]⟩, ⟨#[109, 97, 105, 110]⟩, ⟨#[65]⟩, ⟨#[107]⟩] : List ByteArray).getD _ _ = sf4 at f4
    have hb4 := nxF_bound (L := L) (a := a + 4) (n := 5) (by omega) (by omega)
    have f5 := t16 L (a + 4) 5 (by omega)
    generalize nxF L (a + 4) 5 = w0 at *
    obtain ⟨w, rfl⟩ : ∃ w : Nat, w0 = w := ⟨w0.toNat, by omega⟩
    have hw5 : ixP (w : Int) 5 = True := by simp [ixP]; omega
    have hop := opts2uat w (by omega)
    have hol : (opts2.getD w []).length ≤ 4 := by
      have : w = 0 ∨ w = 1 ∨ w = 2 ∨ w = 3 ∨ w = 4 := by omega
      rcases this with rfl | rfl | rfl | rfl | rfl <;> decide
    generalize opts2.getD w [] = rs2 at *
    refine ⟨⟨P.procs.set at_ ⟨sf4, rs2, q.steps⟩, P.main⟩, a + 5, by omega, by omega, ?_, by simp, ?_⟩
    · have := wPs_set P.procs at_ q ⟨sf4, rs2, q.steps⟩ 4 hq (by simp; omega)
      simp only [wPl] at hw ⊢; omega
    intro sid N T hT J jp kvP kvS kvs hP hS
    obtain ⟨kv, hkv⟩ : ∃ kv, kvs[at_]? = some kv := ⟨kvs[at_]'(by rw [hP.len]; omega), List.getElem?_eq_getElem _⟩
    have hcell := hP.cell
    rw [hT.tok.atS] at hcell
    have hone := hP.ovS.vone
    simp only [V.one] at hone
    have hc1 := hP.ovS.one
    have hokv := (hP.ovs at_ q kv hq hkv)
    have hone2 := hokv.vone
    simp only [V.one] at hone2
    have hc2 := hokv.one
    have hzl := zw_len hP.len
    have hzg := zw_get hq hkv
    simp only [zw1] at hzg
    refine ACall.intro cm18 600 (by simp) ?_
    rcases ms_of hP.ovP (hT.tok.len _) (hS.ge kvP (by simp)) with ⟨h, _⟩ | ⟨_, jq, hkP, hJq⟩
    · exact absurd (List.length_eq_zero_iff.1 (by rw [← hzl, h]; rfl)) hp
    · have hnj : jq ≠ jp := by
        rintro rfl
        exact hS.ne kvP (by simp) _ _ hkP
      have hq2 := hP.setN hS hq hkv hkP sf4 rs2
      rw [hT.tok.setS] at hq2
      have hq3 := hq2.tail hS (hT.tok.len _) (hT.tok.len (a + 5))
      simp only [zw1] at hq3
      subst hkP
      have hJql := (List.getElem?_eq_some_iff.1 hJq).1
      have hJs : ∀ b, (J.set jq b)[jq]? = some b := fun b => by simp [hJql]
      have hJss : ∀ b c, (J.set jq b).set jq c = J.set jq c := fun b c => by simp
      have hJp : ∀ b, (J.set jq b)[jp]? = some (Blk.row [.agg [.ms (N + jq) 0 (zw P.procs kvs).length, kvS]]) := fun b => by rw [List.getElem?_set_ne hnj]; exact hcell
      have hgs : ∀ y, ((zw P.procs kvs).set at_ y).getD at_ .any = y := fun y => by simp [List.getD, hat, hzl]
      have hss : ∀ y z, ((zw P.procs kvs).set at_ y).set at_ z = (zw P.procs kvs).set at_ z := fun y z => by simp
      simp (maxSteps := 1000000) -implicitDefEqProofs only [sm18, hcell, hT.tok.len, hT.tok.at0, hT.tok.atS, hT.tok.set0, hT.tok.setS, hT.tok.get, hpos, hone, hc1, hzl, hJq, hzg, hix, hne, hone2, hc2, go_sem, ↓reduceIte, Nat.reduceEqDiff, Nat.reduceBEq, Int.reduceToNat, Nat.reduceAdd, Nat.reduceLT, Nat.reduceLeDiff, reduceCtorEq, Nat.reduceSub]
      repeat' (first | ((with_reducible first | refine cgA ((hf14.at hT _)) ?_ | refine cgA ((f1.at hT _)) ?_ | refine cgA ((f3.at hT _)) ?_ | refine cgA ((f4.at hT _)) ?_ | refine cgA ((f5.at hT _)) ?_); simp (maxSteps := 1000000) -implicitDefEqProofs only [hcell, hT.tok.len, hT.tok.at0, hT.tok.atS, hT.tok.set0, hT.tok.setS, hT.tok.get, hpos, hone, hc1, hzl, hJq, hzg, hix, hne, hone2, hc2, hat, Nat.le_refl, hJs, hJss, hJp, hgs, hss, hw5, hop, List.length_set, go_sem, ↓reduceIte, Nat.reduceEqDiff, Nat.reduceBEq, Int.reduceToNat, Nat.reduceAdd, Nat.reduceLT, Nat.reduceLeDiff, reduceCtorEq, Nat.reduceSub]) | ((with_reducible show F _ _ (Cfg.code (SCode.qregion _) _ _ _)); refine F_q2 ?_; simp (maxSteps := 1000000) -implicitDefEqProofs only [hcell, hT.tok.len, hT.tok.at0, hT.tok.atS, hT.tok.set0, hT.tok.setS, hT.tok.get, hpos, hone, hc1, hzl, hJq, hzg, hix, hne, hone2, hc2, hat, Nat.le_refl, hJs, hJss, hJp, hgs, hss, hw5, hop, List.length_set, go_sem, ↓reduceIte, Nat.reduceEqDiff, Nat.reduceBEq, Int.reduceToNat, Nat.reduceAdd, Nat.reduceLT, Nat.reduceLeDiff, reduceCtorEq, Nat.reduceSub]) | ((with_reducible show F _ _ (Cfg.code (SCode.pregion _ _ _ _ _) _ _ _)); refine F_p2 ?_; simp (maxSteps := 1000000) -implicitDefEqProofs only [hcell, hT.tok.len, hT.tok.at0, hT.tok.atS, hT.tok.set0, hT.tok.setS, hT.tok.get, hpos, hone, hc1, hzl, hJq, hzg, hix, hne, hone2, hc2, hat, Nat.le_refl, hJs, hJss, hJp, hgs, hss, hw5, hop, List.length_set, go_sem, ↓reduceIte, Nat.reduceEqDiff, Nat.reduceBEq, Int.reduceToNat, Nat.reduceAdd, Nat.reduceLT, Nat.reduceLeDiff, reduceCtorEq, Nat.reduceSub]) | with_reducible refine Fork.mk (fun _ => ?_) (fun _ => ?_) | with_reducible refine And.intro ?_ ?_ | ((with_reducible show resP _ _ _ _ _); simp (maxSteps := 1000000) -implicitDefEqProofs only [rm18, hT.tok.len, hT.tok.at0, hT.tok.atS, hT.tok.set0, hT.tok.setS, hT.tok.get, push_cast, ↓reduceIte, Nat.reduceEqDiff, reduceCtorEq, Nat.reduceAdd, Nat.reduceLT, Nat.reduceLeDiff]) | (intro _))
      all_goals first
        | omega
        | (rw [hzl] at hq3; exact ⟨_, rfl, hq3, fun i hi => List.getElem?_set_ne (fun h => by subst h; exact hi (.ms (N + jq) 0 P.procs.length) List.mem_cons_self _ _ rfl)⟩)
  | false =>
    rw [h3] at f3
    have walk : ∀ (sid N : Nat) (T : Nat → List Blk), MS L sid N T → ∀ (J : List Blk) (jp : Nat) (kvP kvS : V) (kvs : List V), PSt (T a ++ J) (N + jp) P kvP kvS kvs → Sep (N + jp) N kvP kvS kvs → ∀ (kv : V), kvs[at_]? = some kv → ∀ (K : V → List Blk → Prop),
        (∀ (e : Env) (m : Nat), e 0 = .ptr sid 0 0 → e 4 = kv → F Tryz.prog (m + 400) (.code bm18u964 e (T (a + 3) ++ J) (.post fun x e H => (x = .normal ∨ x = .ret) ∧ resP Tryz.prog rm18 e H fun v => K v H))) → ACall Tryz.prog 18 [.ptr sid 0 0, .ptr (N + jp) 0 0] (T a ++ J) K := by
      intro sid N T hT J jp kvP kvS kvs hP hS kv hkv K hK
      have hcell := hP.cell
      rw [hT.tok.atS] at hcell
      have hone := hP.ovS.vone
      simp only [V.one] at hone
      have hc1 := hP.ovS.one
      have hokv := (hP.ovs at_ q kv hq hkv)
      have hone2 := hokv.vone
      simp only [V.one] at hone2
      have hc2 := hokv.one
      have hzl := zw_len hP.len
      have hzg := zw_get hq hkv
      simp only [zw1] at hzg
      refine ACall.intro cm18 600 (by simp) ?_
      rcases ms_of hP.ovP (hT.tok.len _) (hS.ge kvP (by simp)) with ⟨h, _⟩ | ⟨_, jq, rfl, hJq⟩
      · exact absurd (List.length_eq_zero_iff.1 (by rw [← hzl, h]; rfl)) hp
      · simp (maxSteps := 1000000) -implicitDefEqProofs only [sm18, hcell, hT.tok.len, hT.tok.at0, hT.tok.atS, hT.tok.set0, hT.tok.setS, hT.tok.get, hpos, hone, hc1, hzl, hJq, hzg, hix, hne, hone2, hc2, go_sem, ↓reduceIte, Nat.reduceEqDiff, Nat.reduceBEq, Int.reduceToNat, Nat.reduceAdd, Nat.reduceLT, Nat.reduceLeDiff, reduceCtorEq, Nat.reduceSub]
        repeat' (first | ((with_reducible first | refine cgA ((hf14.at hT _)) ?_ | refine cgA ((f1.at hT _)) ?_ | refine cgA ((f3.at hT _)) ?_); simp (maxSteps := 1000000) -implicitDefEqProofs only [hcell, hT.tok.len, hT.tok.at0, hT.tok.atS, hT.tok.set0, hT.tok.setS, hT.tok.get, hpos, hone, hc1, hzl, hJq, hzg, hix, hne, hone2, hc2, hat, Nat.le_refl, go_sem, ↓reduceIte, Nat.reduceEqDiff, Nat.reduceBEq, Int.reduceToNat, Nat.reduceAdd, Nat.reduceLT, Nat.reduceLeDiff, reduceCtorEq, Nat.reduceSub]) | ((with_reducible show F _ _ (Cfg.code (SCode.qregion _) _ _ _)); refine F_q2 ?_; simp (maxSteps := 1000000) -implicitDefEqProofs only [hcell, hT.tok.len, hT.tok.at0, hT.tok.atS, hT.tok.set0, hT.tok.setS, hT.tok.get, hpos, hone, hc1, hzl, hJq, hzg, hix, hne, hone2, hc2, hat, Nat.le_refl, go_sem, ↓reduceIte, Nat.reduceEqDiff, Nat.reduceBEq, Int.reduceToNat, Nat.reduceAdd, Nat.reduceLT, Nat.reduceLeDiff, reduceCtorEq, Nat.reduceSub]) | ((with_reducible show F _ _ (Cfg.code (SCode.pregion _ _ _ _ _) _ _ _)); refine F_p2 ?_; simp (maxSteps := 1000000) -implicitDefEqProofs only [hcell, hT.tok.len, hT.tok.at0, hT.tok.atS, hT.tok.set0, hT.tok.setS, hT.tok.get, hpos, hone, hc1, hzl, hJq, hzg, hix, hne, hone2, hc2, hat, Nat.le_refl, go_sem, ↓reduceIte, Nat.reduceEqDiff, Nat.reduceBEq, Int.reduceToNat, Nat.reduceAdd, Nat.reduceLT, Nat.reduceLeDiff, reduceCtorEq, Nat.reduceSub]) | with_reducible refine Fork.mk (fun _ => ?_) (fun _ => ?_) | with_reducible refine And.intro ?_ ?_ | ((with_reducible show resP _ _ _ _ _); simp (maxSteps := 1000000) -implicitDefEqProofs only [rm18, hT.tok.len, hT.tok.at0, hT.tok.atS, hT.tok.set0, hT.tok.setS, hT.tok.get, push_cast, ↓reduceIte, Nat.reduceEqDiff, reduceCtorEq, Nat.reduceAdd, Nat.reduceLT, Nat.reduceLeDiff]) | (intro _))
        all_goals exact hK _ _ (by simp [upd, env0]) (by simp [upd])
    by_cases hm : q.steps = []
    · refine ⟨P, a + 3, by omega, by omega, by omega, rfl, ?_⟩
      intro sid N T hT J jp kvP kvS kvs hP hS
      obtain ⟨kv, hkv⟩ : ∃ kv, kvs[at_]? = some kv := ⟨kvs[at_]'(by rw [hP.len]; omega), List.getElem?_eq_getElem _⟩
      refine walk sid N T hT J jp kvP kvS kvs hP hS kv hkv _ (fun e m e0 e4 => ?_)
      have hkS : kv = .nils := by
        rcases hP.ovs at_ q kv hq hkv with ⟨_, h⟩ | ⟨h, _⟩
        · exact h
        · exact absurd (by simp [hm]) h
      subst hkS
      refine t18nil e4 (fun p e' => ?_)
      simp (maxSteps := 1000000) -implicitDefEqProofs only [go_sem, ↓reduceIte, Nat.reduceEqDiff, Nat.reduceBEq, Int.reduceToNat, Nat.reduceAdd, Nat.reduceLT, Nat.reduceLeDiff, reduceCtorEq, Nat.reduceSub]
      simp (maxSteps := 1000000) -implicitDefEqProofs only [rm18, push_cast, ↓reduceIte, Nat.reduceEqDiff, reduceCtorEq, Nat.reduceAdd, Nat.reduceLT, Nat.reduceLeDiff]
      exact ⟨J, rfl, hP.tail hS (hT.tok.len _) (hT.tok.len _), fun _ _ => rfl⟩
    · have hsl : q.steps.length ≤ 1000000 := by have := len_wSs q.steps; omega
      obtain ⟨i, x', a', hi, h1, h2, h3, h4⟩ := t18any L q.steps (a + 3) hm hsl (by omega)
      refine ⟨⟨P.procs.set at_ ⟨q.name, q.roles, q.steps.set i x'⟩, P.main⟩, a', by omega, by omega, ?_, by simp, ?_⟩
      · have := wSs_set q.steps i x' 100 hi h3
        have := wPs_set P.procs at_ q ⟨q.name, q.roles, q.steps.set i x'⟩ 100 hq (by simp; omega)
        simp only [wPl] at hw ⊢; omega
      intro sid N T hT J jp kvP kvS kvs hP hS
      obtain ⟨kv, hkv⟩ : ∃ kv, kvs[at_]? = some kv := ⟨kvs[at_]'(by rw [hP.len]; omega), List.getElem?_eq_getElem _⟩
      refine walk sid N T hT J jp kvP kvS kvs hP hS kv hkv _ (fun e m e0 e4 => ?_)
      rcases ms_of (hP.ovs at_ q kv hq hkv) (hT.tok.len _) (hS.ge kv (mem_of hkv)) with ⟨h, _⟩ | ⟨_, j, hk, hJ⟩
      · exact absurd (by simpa using h) hm
      · rw [hk, List.length_map] at e4
        refine h4 sid N T J j e (m + 100) _ hT e0 e4 hJ (fun p e' => ?_)
        simp (maxSteps := 1000000) -implicitDefEqProofs only [go_sem, ↓reduceIte, Nat.reduceEqDiff, Nat.reduceBEq, Int.reduceToNat, Nat.reduceAdd, Nat.reduceLT, Nat.reduceLeDiff, reduceCtorEq, Nat.reduceSub]
        simp (maxSteps := 1000000) -implicitDefEqProofs only [rm18, push_cast, ↓reduceIte, Nat.reduceEqDiff, reduceCtorEq, Nat.reduceAdd, Nat.reduceLT, Nat.reduceLeDiff]
        refine ⟨_, rfl, ?_⟩
        have hq2 := hP.setQ hS hq hkv hk (q.steps.set i x') (by simp)
        rw [hT.tok.setS] at hq2
        exact ⟨hq2.tail hS (hT.tok.len _) (hT.tok.len _), fun i hi => List.getElem?_set_ne (fun h => by subst h; exact hi kv (mem_of hkv) _ _ hk)⟩
theorem t18 (L : List Int) (P : Pla) (a : Nat) (ha : a ≤ 500000) (hw : wPl P ≤ 900000) (hpn : P.procs.length ≤ 100000) : ∃ P' a', a ≤ a' ∧ a' ≤ a + 100 ∧ wPl P' ≤ wPl P + 200 ∧ P'.procs.length = P.procs.length ∧ R18 L P a P' a' := by
  by_cases hp : P.procs = []
  · exact t18main L P a a (by omega) hw (.inl ⟨hp, rfl⟩)
  · cases h2 : decide (nxF L a 2 = 0) with
    | false => exact t18main L P a (a + 1) (by omega) hw (.inr ⟨hp, h2, rfl⟩)
    | true => exact t18proc L P a ha hw hpn hp h2
def cands : List Hd := [(⟨#[102]⟩, [⟨#[113]⟩, ⟨#[114]⟩]), (⟨#[103]⟩, [⟨#[113]⟩, ⟨#[114]⟩, ⟨#[116]⟩]), (⟨#[104]⟩, [⟨#[113]⟩, ⟨#[114]⟩])]
def hdF (L : List Int) (a : Nat) : Nat → List Hd
  | 0 => []
  | j + 1 => hdF L a j ++ (if decide (nxF L (a + j) 2 = 0) = true then [cands.getD j (em, [])] else [])
theorem hdF_len (L : List Int) (a : Nat) : ∀ j, (hdF L a j).length ≤ j
  | 0 => Nat.le_refl _
  | j + 1 => by
    have := hdF_len L a j
    simp only [hdF, List.length_append]
    split <;> simp <;> omega
theorem hdF_mem (L : List Int) (a : Nat) : ∀ j, j ≤ 3 → ∀ h ∈ hdF L a j, 2 ≤ h.2.length ∧ h.2.length ≤ 3
  | 0, _, h, hm => by simp [hdF] at hm
  | j + 1, hj, h, hm => by
    simp only [hdF, List.mem_append] at hm
    rcases hm with hm | hm
    · exact hdF_mem L a j (by omega) h hm
    · split at hm
      · have : j = 0 ∨ j = 1 ∨ j = 2 := by omega
        rcases this with rfl | rfl | rfl <;> (simp [cands] at hm; subst hm; simp)
      · simp at hm
def Z2 : Blk := .row [.agg [.nils, .nils]]
set_option maxRecDepth 20000 in
set_option maxHeartbeats 8000000 in
theorem lp4u0 (L : List Int) (a : Nat) (ha : a ≤ 1000) {sid N : Nat} {T : Nat → List Blk} (hT : MS L sid N T) (e : Env) (m : Nat) (k : Kont) (e0 : e 0 = .ptr sid 0 0) (e2 : e 2 = .ptr N 0 0) (e3 : e 3 = .ptr (N + 1) 0 0) (e4 : e 4 = .nils)
    (e16 : e 16 = .fs (cands.map encH)) (e17 : e 17 = .int .i64 3) (e18 : e 18 = .int .i64 0)
    (hk : ∀ p e' kv J, m ≤ p → e' 0 = .ptr sid 0 0 → e' 2 = .ptr N 0 0 → e' 3 = .ptr (N + 1) 0 0 → e' 4 = kv → OV (T (a + 3) ++ ([Z2, Z2] ++ J)) kv ((hdF L a 3).map encH) → (∀ i, i < N + 2 → kvne kv i) → F Tryz.prog (p + 3) (.app k (.exit 0) e' (T (a + 3) ++ ([Z2, Z2] ++ J)))) :
    F Tryz.prog (m + 200) (.code (.loop bm4u0) e (T a ++ [Z2, Z2]) k) := by
  refine F_loop (fun q e H => ∃ j kv J, q = 3 - j ∧ j ≤ 3 ∧ e 0 = .ptr sid 0 0 ∧ e 2 = .ptr N 0 0 ∧ e 3 = .ptr (N + 1) 0 0 ∧ e 4 = kv ∧ e 16 = .fs (cands.map encH) ∧ e 17 = .int .i64 3 ∧ e 18 = .int .i64 (j : Nat) ∧
      H = T (a + j) ++ ([Z2, Z2] ++ J) ∧ OV H kv ((hdF L a j).map encH) ∧ ∀ i, i < N + 2 → kvne kv i) 3 ⟨0, .nils, [], rfl, by omega, e0, e2, e3, e4, e16, e17, e18, rfl, .inl ⟨rfl, rfl⟩, (fun i _ a b h => by cases h)⟩ ?_
  rintro q e H ⟨j, kv, J, rfl, hj, e0, e2, e3, e4, e16, e17, e18, rfl, hov, hkn⟩
  by_cases hj3 : j = 3
  · subst hj3
    have hnl : ¬ (((3 : Nat) : Int) < 3) := by omega
    simp (maxSteps := 1000000) -implicitDefEqProofs only [bm4u0, e0, e2, e3, e4, e16, e17, e18, hnl, go_sem, ↓reduceIte, Nat.reduceEqDiff, Nat.reduceBEq, Int.reduceToNat, Nat.reduceAdd, Nat.reduceLT, Nat.reduceLeDiff, reduceCtorEq, Nat.reduceSub]
    exact hk _ _ kv J (by omega) (by simp [upd, e0]) (by simp [upd, e2]) (by simp [upd, e3]) (by simp [upd, e4]) hov hkn
  · have hlt : ((j : Int) < 3) := by omega
    have hw2 : IntKind.i64.wrap ((j : Int) + 1) = ((j + 1 : Nat) : Int) := wrap_succ (by omega)
    have hix : ixP (j : Int) cands.length = True := by simp [ixP, cands]; omega
    obtain ⟨nm, rs, hcj⟩ : ∃ nm rs, cands.getD j (em, []) = (nm, rs) := ⟨_, _, rfl⟩
    have hg : (cands.map encH).getD j .any = .agg [.str nm, .fs (rs.map .str)] := by
      have h3 : j < cands.length := by simp [cands]; omega
      have : (cands.map encH).getD j .any = encH (cands.getD j (em, [])) := by simp [List.getD, h3]
      rw [this, hcj]; rfl
    have f1 := t14 L (a + j) 2 (by omega)
    have hone := hov.vone
    simp only [V.one] at hone
    have hc1 := hov.one
    obtain ⟨JJ, hJJ⟩ : ∃ JJ, JJ = [Z2, Z2] ++ J := ⟨_, rfl⟩
    rw [← hJJ] at hov ⊢
    cases hb : decide (nxF L (a + j) 2 = 0) with
    | false =>
      rw [hb] at f1
      have hH : hdF L a (j + 1) = hdF L a j := by simp [hdF, hb]
      simp (maxSteps := 1000000) -implicitDefEqProofs only [bm4u0, e0, e2, e3, e4, e16, e17, e18, hlt, hix, hg, hT.tok.len, hT.tok.at0, hT.tok.atS, hT.tok.set0, hT.tok.setS, hT.tok.get, hT.tok.set, go_sem, ↓reduceIte, Nat.reduceEqDiff, Nat.reduceBEq, Int.reduceToNat, Nat.reduceAdd, Nat.reduceLT, Nat.reduceLeDiff, reduceCtorEq, Nat.reduceSub]
      repeat' (first | ((with_reducible first | refine cgA ((f1.at hT _)) ?_); simp (maxSteps := 1000000) -implicitDefEqProofs only [e0, e2, e3, e4, e16, e17, e18, hlt, hix, hg, hw2, hT.tok.len, hT.tok.at0, hT.tok.atS, hT.tok.set0, hT.tok.setS, hT.tok.get, hT.tok.set, go_sem, ↓reduceIte, Nat.reduceEqDiff, Nat.reduceBEq, Int.reduceToNat, Nat.reduceAdd, Nat.reduceLT, Nat.reduceLeDiff, reduceCtorEq, Nat.reduceSub]) | ((with_reducible show F _ _ (Cfg.code (SCode.qregion _) _ _ _)); refine F_q2 ?_; simp (maxSteps := 1000000) -implicitDefEqProofs only [e0, e2, e3, e4, e16, e17, e18, hlt, hix, hg, hw2, hT.tok.len, hT.tok.at0, hT.tok.atS, hT.tok.set0, hT.tok.setS, hT.tok.get, hT.tok.set, go_sem, ↓reduceIte, Nat.reduceEqDiff, Nat.reduceBEq, Int.reduceToNat, Nat.reduceAdd, Nat.reduceLT, Nat.reduceLeDiff, reduceCtorEq, Nat.reduceSub]) | ((with_reducible show F _ _ (Cfg.code (SCode.pregion _ _ _ _ _) _ _ _)); refine F_p2 ?_; simp (maxSteps := 1000000) -implicitDefEqProofs only [e0, e2, e3, e4, e16, e17, e18, hlt, hix, hg, hw2, hT.tok.len, hT.tok.at0, hT.tok.atS, hT.tok.set0, hT.tok.setS, hT.tok.get, hT.tok.set, go_sem, ↓reduceIte, Nat.reduceEqDiff, Nat.reduceBEq, Int.reduceToNat, Nat.reduceAdd, Nat.reduceLT, Nat.reduceLeDiff, reduceCtorEq, Nat.reduceSub]) | with_reducible refine Fork.mk (fun _ => ?_) (fun _ => ?_) | with_reducible refine And.intro ?_ ?_ | ((with_reducible show resP _ _ _ _ _); simp (maxSteps := 1000000) -implicitDefEqProofs only [rm4, hT.tok.len, hT.tok.at0, hT.tok.atS, hT.tok.set0, hT.tok.setS, hT.tok.get, push_cast, ↓reduceIte, Nat.reduceEqDiff, reduceCtorEq, Nat.reduceAdd, Nat.reduceLT, Nat.reduceLeDiff]) | (intro _))
      have hov2 := (hov.tail (hT.tok.len _) (fun i hi => hkn i (by omega)) (hT.tok.len (a + (j + 1)))).app [Blk.row [V.agg [V.str nm, V.fs (List.map V.str rs)]]]
      refine ⟨3 - (j + 1), by omega, j + 1, kv, J ++ [Blk.row [V.agg [V.str nm, V.fs (List.map V.str rs)]]], rfl, by omega, rfl, rfl, ?_, ?_, hkn⟩
      · rw [hJJ]; simp
      · rw [hH]; simpa using hov2
    | true =>
      rw [hb] at f1
      have hH : hdF L a (j + 1) = hdF L a j ++ [(nm, rs)] := by
        show hdF L a j ++ (if decide (nxF L (a + j) 2 = 0) = true then [cands.getD j (em, [])] else []) = _
        rw [hb, hcj]; rfl
      simp (maxSteps := 1000000) -implicitDefEqProofs only [bm4u0, e0, e2, e3, e4, e16, e17, e18, hlt, hix, hg, hT.tok.len, hT.tok.at0, hT.tok.atS, hT.tok.set0, hT.tok.setS, hT.tok.get, hT.tok.set, hone, hc1, go_sem, ↓reduceIte, Nat.reduceEqDiff, Nat.reduceBEq, Int.reduceToNat, Nat.reduceAdd, Nat.reduceLT, Nat.reduceLeDiff, reduceCtorEq, Nat.reduceSub]
      repeat' (first | ((with_reducible first | refine cgA ((f1.at hT _)) ?_); simp (maxSteps := 1000000) -implicitDefEqProofs only [e0, e2, e3, e4, e16, e17, e18, hlt, hix, hg, hw2, hT.tok.len, hT.tok.at0, hT.tok.atS, hT.tok.set0, hT.tok.setS, hT.tok.get, hT.tok.set, hone, hc1, go_sem, ↓reduceIte, Nat.reduceEqDiff, Nat.reduceBEq, Int.reduceToNat, Nat.reduceAdd, Nat.reduceLT, Nat.reduceLeDiff, reduceCtorEq, Nat.reduceSub]) | ((with_reducible show F _ _ (Cfg.code (SCode.qregion _) _ _ _)); refine F_q2 ?_; simp (maxSteps := 1000000) -implicitDefEqProofs only [e0, e2, e3, e4, e16, e17, e18, hlt, hix, hg, hw2, hT.tok.len, hT.tok.at0, hT.tok.atS, hT.tok.set0, hT.tok.setS, hT.tok.get, hT.tok.set, hone, hc1, go_sem, ↓reduceIte, Nat.reduceEqDiff, Nat.reduceBEq, Int.reduceToNat, Nat.reduceAdd, Nat.reduceLT, Nat.reduceLeDiff, reduceCtorEq, Nat.reduceSub]) | ((with_reducible show F _ _ (Cfg.code (SCode.pregion _ _ _ _ _) _ _ _)); refine F_p2 ?_; simp (maxSteps := 1000000) -implicitDefEqProofs only [e0, e2, e3, e4, e16, e17, e18, hlt, hix, hg, hw2, hT.tok.len, hT.tok.at0, hT.tok.atS, hT.tok.set0, hT.tok.setS, hT.tok.get, hT.tok.set, hone, hc1, go_sem, ↓reduceIte, Nat.reduceEqDiff, Nat.reduceBEq, Int.reduceToNat, Nat.reduceAdd, Nat.reduceLT, Nat.reduceLeDiff, reduceCtorEq, Nat.reduceSub]) | with_reducible refine Fork.mk (fun _ => ?_) (fun _ => ?_) | with_reducible refine And.intro ?_ ?_ | ((with_reducible show resP _ _ _ _ _); simp (maxSteps := 1000000) -implicitDefEqProofs only [rm4, hT.tok.len, hT.tok.at0, hT.tok.atS, hT.tok.set0, hT.tok.setS, hT.tok.get, push_cast, ↓reduceIte, Nat.reduceEqDiff, reduceCtorEq, Nat.reduceAdd, Nat.reduceLT, Nat.reduceLeDiff]) | (intro _))
      have hov2 := (hov.tail (hT.tok.len _) (fun i hi => hkn i (by omega)) (hT.tok.len (a + (j + 1)))).app [Blk.row [V.agg [V.str nm, V.fs (List.map V.str rs)]]]
      subst hJJ
      rw [show ([Z2, Z2] ++ J) ++ [Blk.row [V.agg [V.str nm, V.fs (List.map V.str rs)]]] = [Z2, Z2] ++ (J ++ [Blk.row [V.agg [V.str nm, V.fs (List.map V.str rs)]]]) from by simp]
      refine app_T hT.tok (by simpa using hov2) hkn (fun i o l h => by cases h) (headOk_map encH 2 (fun _ => rfl) _) (by have := hdF_len L a j; simp; omega) ?_
      intro kv' J' hov' hkn'
      simp (maxSteps := 1000000) -implicitDefEqProofs only [e0, e2, e3, e4, e16, e17, e18, hw2, go_sem, ↓reduceIte, Nat.reduceEqDiff, Nat.reduceBEq, Int.reduceToNat, Nat.reduceAdd, Nat.reduceLT, Nat.reduceLeDiff, reduceCtorEq, Nat.reduceSub]
      refine ⟨3 - (j + 1), by omega, j + 1, kv', J', rfl, by omega, rfl, rfl, rfl, ?_, hkn'⟩
      rw [hH]; simpa [encH] using hov'
theorem OV.lt {H : List Blk} {kv : V} {acc : List V} (h : OV H kv acc) {id : Nat} (hi : H.length ≤ id) : kvne kv id := by
  intro a b hk
  rcases h with ⟨_, rfl⟩ | ⟨_, i2, rfl, h3⟩
  · cases hk
  · injection hk with h4 _ _
    have := (List.getElem?_eq_some_iff.1 h3).1
    omega
theorem OV.frame {H H' : List Blk} {kv : V} {acc : List V} (h : OV H kv acc) (hf : ∀ id o n, kv = .ms id o n → id < H.length → H'[id]? = H[id]?) : OV H' kv acc := by
  rcases h with h | ⟨h1, id, h2, h3⟩
  · exact .inl h
  · exact .inr ⟨h1, id, h2, by rw [hf id _ _ h2 (List.getElem?_eq_some_iff.1 h3).1]; exact h3⟩
structure G4 (H : List Blk) (N : Nat) (ps : List Pr) (kvP : V) (kvs : List V) : Prop where
  st : PSt H (N + 1) ⟨ps, []⟩ kvP .nils kvs
  sep : Sep (N + 1) (N + 1) kvP .nils kvs
  z : H[N]? = some Z2
theorem kvne_nils (i : Nat) : kvne .nils i := fun _ _ h => by cases h
theorem G4.mem_lt {H : List Blk} {N : Nat} {ps : List Pr} {kvP : V} {kvs : List V} (h : G4 H N ps kvP kvs) : ∀ kv ∈ kvP :: kvs, ∀ id, H.length ≤ id → kvne kv id := by
  intro kv hkv id hi
  rcases List.mem_cons.1 hkv with rfl | hm
  · exact h.st.ovP.lt hi
  · obtain ⟨i, hi2⟩ := List.mem_iff_getElem?.1 hm
    have hl : i < ps.length := by have := (List.getElem?_eq_some_iff.1 hi2).1; have := h.st.len; simp only at this; omega
    exact (h.st.ovs i ps[i] kv (List.getElem?_eq_getElem hl) hi2).lt hi
theorem G4.frame {H H' : List Blk} {N : Nat} {ps : List Pr} {kvP kv1 : V} {kvs : List V} (h : G4 H N ps kvP kvs) (hd : ∀ kv ∈ kvP :: kvs, dj kv kv1) (h0 : kvne kv1 N) (h1 : kvne kv1 (N + 1))
    (hf : ∀ j, N ≤ j → j < H.length → kvne kv1 j → H'[j]? = H[j]?) : G4 H' N ps kvP kvs where
  st := {
    cell := by rw [hf (N + 1) (by omega) (List.getElem?_eq_some_iff.1 h.st.cell).1 h1]; exact h.st.cell
    ovP := h.st.ovP.frame fun id o n hk hl => hf id (by
      by_cases hh : N ≤ id
      · exact hh
      · exact absurd hk (h.sep.ge kvP (by simp) id (by omega) _ _)) hl ((hd kvP (by simp)).ne hk)
    ovS := .inl ⟨rfl, rfl⟩
    len := h.st.len
    ovs := fun i q kv h2 h3 => (h.st.ovs i q kv h2 h3).frame fun id o n hk hl => hf id (by
      by_cases hh : N ≤ id
      · exact hh
      · exact absurd hk (h.sep.ge kv (mem_of h3) id (by omega) _ _)) hl ((hd kv (by simp [List.mem_of_getElem? h3])).ne hk) }
  sep := h.sep
  z := by rw [hf N (Nat.le_refl _) (List.getElem?_eq_some_iff.1 h.z).1 h0]; exact h.z
theorem zw_app {ps : List Pr} {kvs : List V} (h : kvs.length = ps.length) (q : Pr) (kv : V) : zw (ps ++ [q]) (kvs ++ [kv]) = zw ps kvs ++ [zw1 q kv] := by
  simp [zw, List.zipWith_append, h]
theorem G4.add {H H' : List Blk} {N : Nat} {ps : List Pr} {kvP kvP' kv2 : V} {kvs : List V} {q : Pr} (h : G4 H N ps kvP kvs) (hd : ∀ kv ∈ kvP :: kvs, dj kv kv2) (h2 : OV H kv2 (q.steps.map encS)) (hn : ∀ i, i < N + 2 → kvne kv2 i)
    (hov : OV H' kvP' (zw ps kvs ++ [zw1 q kv2])) (hfr : ∀ j, j < H.length → kvne kvP j → H'[j]? = H[j]? ∧ kvne kvP' j) (hle : H.length ≤ H'.length) :
    G4 (H'.set (N + 1) (.row [.agg [kvP', .nils]])) N (ps ++ [q]) kvP' (kvs ++ [kv2]) := by
  have hN1 : N + 1 < H.length := (List.getElem?_eq_some_iff.1 h.st.cell).1
  have hP1 : ∀ i, i < N + 2 → kvne kvP i := fun i hi => by
    by_cases hh : i < N + 1
    · exact h.sep.ge kvP (by simp) i hh
    · obtain rfl : i = N + 1 := by omega
      exact h.sep.ne kvP (by simp)
  have hlen : kvs.length = ps.length := h.st.len
  have hkP : dj kvP kv2 := hd kvP (by simp)
  have ne1 : ∀ kv ∈ kvs ++ [kv2], kvne kv (N + 1) := by
    intro kv hkv
    rcases List.mem_append.1 hkv with hm | hm
    · exact h.sep.ne kv (by simp [hm])
    · simp at hm; subst hm; exact hn _ (by omega)
  have ovAll : ∀ (i : Nat) q' kv, (ps ++ [q])[i]? = some q' → (kvs ++ [kv2])[i]? = some kv → OV H kv (q'.steps.map encS) := by
    intro i q' kv h3 h4
    by_cases hi : i < ps.length
    · rw [List.getElem?_append_left hi] at h3
      rw [List.getElem?_append_left (by omega)] at h4
      exact h.st.ovs i q' kv h3 h4
    · rw [List.getElem?_append_right (by omega)] at h3 h4
      obtain rfl : i = ps.length := by
        have := (List.getElem?_eq_some_iff.1 h3).1; simp at this; omega
      simp at h3; simp [hlen] at h4
      subst h3; subst h4; exact h2
  have djP : ∀ kv ∈ kvs ++ [kv2], dj kvP kv := by
    intro kv hkv
    rcases List.mem_append.1 hkv with hm | hm
    · exact (List.pairwise_cons.1 h.sep.pw).1 kv (by simp [hm])
    · simp at hm; subst hm; exact hkP
  have djP' : ∀ kv ∈ kvs ++ [kv2], dj kvP' kv := by
    intro kv hkv id
    by_cases hk : kvne kv id
    · exact .inr hk
    · left
      obtain ⟨i, hi⟩ := List.mem_iff_getElem?.1 hkv
      have hil : i < (ps ++ [q]).length := by have := (List.getElem?_eq_some_iff.1 hi).1; simp at this ⊢; omega
      have ho := ovAll i _ kv (List.getElem?_eq_getElem hil) hi
      have hidl : id < H.length := by
        by_cases hh : id < H.length
        · exact hh
        · exact absurd (ho.lt (by omega)) hk
      rcases djP kv hkv id with h5 | h5
      · exact (hfr id hidl h5).2
      · exact absurd h5 hk
  refine ⟨⟨?_, ?_, .inl ⟨rfl, rfl⟩, by simp [hlen], ?_⟩, ⟨?_, ?_, ?_⟩, ?_⟩
  · rw [List.getElem?_set, if_pos rfl, if_pos (by omega)]
  · show OV _ _ (zw (ps ++ [q]) (kvs ++ [kv2]))
    rw [zw_app hlen]
    exact hov.setne (hfr (N + 1) hN1 (hP1 _ (by omega))).2
  · intro i q' kv h3 h4
    have hm : kv ∈ kvs ++ [kv2] := List.mem_of_getElem? h4
    refine ((ovAll i q' kv h3 h4).frame fun id o n hk hl => ?_).setne (ne1 kv hm)
    exact (hfr id hl ((djP kv hm).ne' hk)).1
  · rw [List.pairwise_cons, List.pairwise_cons]
    refine ⟨?_, fun _ _ id => .inl (kvne_nils id), ?_⟩
    · intro kv hkv
      rcases List.mem_cons.1 hkv with rfl | hm
      · exact fun id => .inr (kvne_nils id)
      · exact djP' kv hm
    · rw [List.pairwise_append]
      refine ⟨(List.pairwise_cons.1 (List.pairwise_cons.1 h.sep.pw).2).2, by simp, ?_⟩
      intro x hx y hy
      simp at hy; subst hy
      exact hd x (by simp [hx])
  · intro kv hkv i hi
    rcases List.mem_cons.1 hkv with rfl | hm
    · exact (hfr i (by omega) (hP1 i (by omega))).2
    · rcases List.mem_cons.1 hm with rfl | hm
      · exact kvne_nils i
      · rcases List.mem_append.1 hm with hm | hm
        · exact h.sep.ge kv (by simp [hm]) i hi
        · simp at hm; subst hm; exact hn i (by omega)
  · intro kv hkv
    rcases List.mem_cons.1 hkv with rfl | hm
    · exact (hfr (N + 1) hN1 (hP1 _ (by omega))).2
    · rcases List.mem_cons.1 hm with rfl | hm
      · exact kvne_nils _
      · exact ne1 kv hm
  · rw [List.getElem?_set, if_neg (by omega), (hfr N (by omega) (hP1 N (by omega))).1]; exact h.z
theorem headOk_zw (ps : List Pr) (kvs : List V) : headOk 3 (zw ps kvs) := by
  intro e he
  cases ps with
  | nil => simp [zw] at he
  | cons q ps =>
    cases kvs with
    | nil => simp [zw] at he
    | cons kv kvs => simp [zw] at he; subst he; simp [zw1, cellsV]
set_option maxRecDepth 20000 in
set_option maxHeartbeats 8000000 in
theorem lp4uB {L : List Int} {sid N : Nat} {T : Nat → List Blk} (hT : MS L sid N T) (a : Nat) (J : List Blk) (jb : Nat) (nm : ByteArray) (rs : List ByteArray) (zs : List St) (ps : List Pr) (kvP kv2 : V) (kvs : List V) (e : Env) (m : Nat) (k : Kont)
    (hG : G4 (T a ++ J) N ps kvP kvs) (hb : J[jb]? = some (.row [.agg [.str nm, .fs (rs.map .str)]])) (e3 : e 3 = .ptr (N + 1) 0 0) (e8 : e 8 = .ptr (N + jb) 0 0) (e9 : e 9 = kv2) (hov2 : OV (T a ++ J) kv2 (zs.map encS))
    (hd : ∀ kv ∈ kvP :: kvs, dj kv kv2) (hn : ∀ i, i < N + 2 → kvne kv2 i) (hpl : ps.length ≤ 100)
    (hk : ∀ p e' kvP' J', (∀ x, x < 61 → e' x = e x) → G4 (T a ++ J') N (ps ++ [⟨nm, rs, zs⟩]) kvP' (kvs ++ [kv2]) → F Tryz.prog (p + 20) (.app k .normal e' (T a ++ J'))) :
    F Tryz.prog (m + 100) (.code bm4u961 e (T a ++ J) k) := by
  have hcell := hG.st.cell
  rw [hT.tok.atS] at hcell
  have hone := hG.st.ovP.vone
  simp only [V.one] at hone
  have hc1 := hG.st.ovP.one
  have hone2 := hov2.vone
  simp only [V.one] at hone2
  have hc2 := hov2.one
  have hzl := zw_len hG.st.len
  simp only at hzl
  simp (maxSteps := 1000000) -implicitDefEqProofs only [bm4u961, e3, e8, e9, hcell, hb, hT.tok.len, hT.tok.at0, hT.tok.atS, hT.tok.set0, hT.tok.setS, hT.tok.get, hone, hc1, hone2, hc2, go_sem, ↓reduceIte, Nat.reduceEqDiff, Nat.reduceBEq, Int.reduceToNat, Nat.reduceAdd, Nat.reduceLT, Nat.reduceLeDiff, reduceCtorEq, Nat.reduceSub]
  refine ⟨by rcases hov2 with ⟨_, rfl⟩ | ⟨_, _, rfl, _⟩ <;> rfl, ?_⟩
  refine app_OV hG.st.ovP ?_ (headOk_zw _ _) ?_ ?_
  · intro i o l h; cases h
  · simp only [List.length_cons, List.length_nil, hzl]; omega
  intro kvP' H' hov' hle hfr
  have hN2 : N + 2 ≤ (T a ++ J).length := (List.getElem?_eq_some_iff.1 hG.st.cell).1
  have hP1 : ∀ i, i < N + 2 → kvne kvP i := fun i hi => by
    by_cases hh : i < N + 1
    · exact hG.sep.ge kvP (by simp) i hh
    · obtain rfl : i = N + 1 := by omega
      exact hG.sep.ne kvP (by simp)
  obtain ⟨J', rfl⟩ := prefix_eq (H := H') (A := T a) (by rw [List.length_append] at hle; omega) (fun j hj => by
    have hjN : j < N := by rw [hT.tok.len] at hj; exact hj
    rw [(hfr j (by omega) (hP1 j (by omega))).1, List.getElem?_append_left hj])
  have hcell' : J'[1]? = some (.row [.agg [kvP, .nils]]) := by
    rw [← hT.tok.atS a J' 1, (hfr (N + 1) (by omega) (hP1 _ (by omega))).1, hT.tok.atS]; exact hcell
  have hone' := hov'.vone
  simp only [V.one] at hone'
  have hc1' := hov'.one
  have hnew := hG.add (q := ⟨nm, rs, zs⟩) hd hov2 hn hov' hfr hle
  rw [hT.tok.setS] at hnew
  simp (maxSteps := 1000000) -implicitDefEqProofs only [bm4u961, e3, e8, e9, hcell', hT.tok.len, hT.tok.at0, hT.tok.atS, hT.tok.set0, hT.tok.setS, hT.tok.get, hone', hc1', go_sem, ↓reduceIte, Nat.reduceEqDiff, Nat.reduceBEq, Int.reduceToNat, Nat.reduceAdd, Nat.reduceLT, Nat.reduceLeDiff, reduceCtorEq, Nat.reduceSub]
  refine hk _ _ kvP' _ ?_ hnew
  intro x hx
  simp (disch := omega) only [upd_ne]
theorem Sep.weaken {idp N M : Nat} {kvP kvS : V} {kvs : List V} (h : Sep idp N kvP kvS kvs) (hm : M ≤ N) : Sep idp M kvP kvS kvs := ⟨h.pw, fun kv hk i hi => h.ge kv hk i (by omega), h.ne⟩
theorem G4.tail {A B X : List Blk} {N : Nat} {ps : List Pr} {kvP : V} {kvs : List V} (h : G4 (A ++ X) N ps kvP kvs) (hA : A.length = N) (hB : B.length = N) : G4 (B ++ X) N ps kvP kvs where
  st := h.st.tail (h.sep.weaken (by omega)) hA hB
  sep := h.sep
  z := by
    have := h.z
    rw [List.getElem?_append_right (by omega), hA] at this
    rw [List.getElem?_append_right (by omega), hB]; exact this
theorem G4.app {H : List Blk} {N : Nat} {ps : List Pr} {kvP : V} {kvs : List V} (h : G4 H N ps kvP kvs) (X : List Blk) : G4 (H ++ X) N ps kvP kvs :=
  h.frame (kv1 := .nils) (fun _ _ id => .inr (kvne_nils id)) (kvne_nils _) (kvne_nils _) (fun j _ hj _ => List.getElem?_append_left hj)
theorem OV_res {A : List Blk} {xs : List St} {n : Nat} (hn : A.length = n) : OV (A ++ resH xs) (resV n xs) (xs.map encS) := by
  by_cases hx : xs = []
  · subst hx; exact .inl ⟨rfl, rfl⟩
  · refine .inr ⟨by simpa using hx, n, by simp [resV, hx], ?_⟩
    rw [List.getElem?_append_right (by omega), hn]; simp [resH, hx]
theorem resV_ne {xs : List St} {n i : Nat} (h : i ≠ n) : kvne (resV n xs) i := by
  intro a b hk
  unfold resV at hk
  split at hk
  · cases hk
  · injection hk with h1; exact h h1.symm
def A4 (L : List Int) (heads : List Hd) (nm : ByteArray) (rs : List ByteArray) (a1 : Nat) (xs1 zs : List St) (a3 : Nat) : Prop :=
  ∀ (sid N : Nat) (T : Nat → List Blk), MS L sid N T → ∀ (J : List Blk) (jb : Nat) (ps : List Pr) (kvP kv1 : V) (kvs : List V) (e : Env) (m : Nat) (k : Kont),
    G4 (T a1 ++ J) N ps kvP kvs → J[jb]? = some (.row [.agg [.str nm, .fs (rs.map .str)]]) → e 0 = .ptr sid 0 0 → e 3 = .ptr (N + 1) 0 0 → e 4 = .fs (heads.map encH) → e 8 = .ptr (N + jb) 0 0 → e 9 = kv1 →
    OV (T a1 ++ J) kv1 (xs1.map encS) → (∀ kv ∈ kvP :: kvs, dj kv kv1) → (∀ i, i < N + 2 → kvne kv1 i) → kvne kv1 (N + jb) → ps.length ≤ 100 →
    (∀ p e' kvP' kv2 J', (∀ x, x < 44 → x ≠ 9 → e' x = e x) → G4 (T a3 ++ J') N (ps ++ [⟨nm, rs, zs⟩]) kvP' (kvs ++ [kv2]) → F Tryz.prog (p + 20) (.app k .normal e' (T a3 ++ J'))) →
    F Tryz.prog (m + 300) (.code bm4u944 e (T a1 ++ J) k)
set_option maxRecDepth 20000 in
set_option maxHeartbeats 8000000 in
theorem lp4uA2 (L : List Int) (heads : List Hd) (nm : ByteArray) (rs : List ByteArray) (a1 : Nat) (ha : a1 ≤ 100000) (xs1 : List St) (v : Int) (hv : nxF L a1 6 = v) (h0 : ¬ v = 0) (h1 : ¬ v = 1) (h2 : ¬ v = 2) : A4 L heads nm rs a1 xs1 xs1 (a1 + 1) := by
  intro sid N T hT J jb ps kvP kv1 kvs e m k hG hb e0 e3 e4 e8 e9 hov hd hn hnb hpl hk
  have f1 := t16 L a1 6 (by omega)
  rw [hv] at f1
  have hG' := hG.tail (hT.tok.len _) (hT.tok.len (a1 + 1))
  have hov' := hov.tail (hT.tok.len _) (fun i hi => hn i (by omega)) (hT.tok.len (a1 + 1))
  simp (maxSteps := 1000000) -implicitDefEqProofs only [bm4u944, e0, e3, e4, e8, e9, hT.tok.len, hT.tok.at0, hT.tok.atS, hT.tok.set0, hT.tok.setS, hT.tok.get, h0, h1, h2, go_sem, ↓reduceIte, Nat.reduceEqDiff, Nat.reduceBEq, Int.reduceToNat, Nat.reduceAdd, Nat.reduceLT, Nat.reduceLeDiff, reduceCtorEq, Nat.reduceSub]
  repeat' (first | ((with_reducible first | refine cgA ((f1.at hT _)) ?_); simp (maxSteps := 1000000) -implicitDefEqProofs only [e0, e3, e4, e8, e9, hT.tok.len, hT.tok.at0, hT.tok.atS, hT.tok.set0, hT.tok.setS, hT.tok.get, h0, h1, h2, go_sem, ↓reduceIte, Nat.reduceEqDiff, Nat.reduceBEq, Int.reduceToNat, Nat.reduceAdd, Nat.reduceLT, Nat.reduceLeDiff, reduceCtorEq, Nat.reduceSub]) | ((with_reducible show F _ _ (Cfg.code (SCode.qregion _) _ _ _)); refine F_q2 ?_; simp (maxSteps := 1000000) -implicitDefEqProofs only [e0, e3, e4, e8, e9, hT.tok.len, hT.tok.at0, hT.tok.atS, hT.tok.set0, hT.tok.setS, hT.tok.get, h0, h1, h2, go_sem, ↓reduceIte, Nat.reduceEqDiff, Nat.reduceBEq, Int.reduceToNat, Nat.reduceAdd, Nat.reduceLT, Nat.reduceLeDiff, reduceCtorEq, Nat.reduceSub]) | ((with_reducible show F _ _ (Cfg.code (SCode.pregion _ _ _ _ _) _ _ _)); refine F_p2 ?_; simp (maxSteps := 1000000) -implicitDefEqProofs only [e0, e3, e4, e8, e9, hT.tok.len, hT.tok.at0, hT.tok.atS, hT.tok.set0, hT.tok.setS, hT.tok.get, h0, h1, h2, go_sem, ↓reduceIte, Nat.reduceEqDiff, Nat.reduceBEq, Int.reduceToNat, Nat.reduceAdd, Nat.reduceLT, Nat.reduceLeDiff, reduceCtorEq, Nat.reduceSub]) | with_reducible refine Fork.mk (fun _ => ?_) (fun _ => ?_) | with_reducible refine And.intro ?_ ?_ | ((with_reducible show resP _ _ _ _ _); simp (maxSteps := 1000000) -implicitDefEqProofs only [rm4, hT.tok.len, hT.tok.at0, hT.tok.atS, hT.tok.set0, hT.tok.setS, hT.tok.get, push_cast, ↓reduceIte, Nat.reduceEqDiff, reduceCtorEq, Nat.reduceAdd, Nat.reduceLT, Nat.reduceLeDiff]) | (intro _))
  refine lp4uB hT (a1 + 1) J jb nm rs xs1 ps kvP kv1 kvs _ _ k hG' hb (by simp [upd, e3]) (by simp [upd, e8]) (by simp [upd, e9]) hov' hd hn hpl (fun p e' kvP' J' he' hG2 => hk p e' kvP' kv1 J' ?_ hG2)
  intro x hx hx9
  rw [he' x (by omega)]
  simp (disch := omega) only [upd_ne]
set_option maxRecDepth 20000 in
set_option maxHeartbeats 8000000 in
theorem lp4uA1 (L : List Int) (heads : List Hd) (nm : ByteArray) (rs : List ByteArray) (a1 : Nat) (ha : a1 ≤ 100000) (xs1 xs2 : List St) (a2 : Nat) (hv : nxF L a1 6 = 2)
    (h15 : MCO 15 L (a1 + 1) [.fs (rs.map .str), .int .i64 2, .int .i64 3, .fs (heads.map encH)] xs2 a2) : A4 L heads nm rs a1 xs1 xs2 a2 := by
  intro sid N T hT J jb ps kvP kv1 kvs e m k hG hb e0 e3 e4 e8 e9 hov hd hn hnb hpl hk
  have f1 := t16 L a1 6 (by omega)
  rw [hv] at f1
  have hG' := (hG.tail (hT.tok.len _) (hT.tok.len a2)).app (resH xs2)
  have h15' := h15 sid (N + J.length) _ (hT.app J)
  have hJ2 : 2 ≤ J.length := by
    have := (List.getElem?_eq_some_iff.1 hG.st.cell).1
    rw [List.length_append, hT.tok.len] at this; omega
  have hov2 : OV (T a2 ++ J ++ resH xs2) (resV (N + J.length) xs2) (xs2.map encS) := OV_res (by rw [List.length_append, hT.tok.len])
  have hd2 : ∀ kv ∈ kvP :: kvs, dj kv (resV (N + J.length) xs2) := by
    intro kv hkv id
    by_cases hid : id = N + J.length
    · left; exact hG.mem_lt kv hkv id (by rw [List.length_append, hT.tok.len]; omega)
    · right; exact resV_ne hid
  have hbb : (J ++ resH xs2)[jb]? = some (.row [.agg [.str nm, .fs (rs.map .str)]]) := by rw [List.getElem?_append_left (List.getElem?_eq_some_iff.1 hb).1]; exact hb
  rw [List.append_assoc] at hG' hov2
  simp (maxSteps := 1000000) -implicitDefEqProofs only [bm4u944, e0, e3, e4, e8, e9, hT.tok.len, hT.tok.at0, hT.tok.atS, hT.tok.set0, hT.tok.setS, hT.tok.get, Int.reduceEq, go_sem, ↓reduceIte, Nat.reduceEqDiff, Nat.reduceBEq, Int.reduceToNat, Nat.reduceAdd, Nat.reduceLT, Nat.reduceLeDiff, reduceCtorEq, Nat.reduceSub]
  repeat' (first | ((with_reducible first | refine cgA ((f1.at hT _)) ?_ | refine cgA h15' ?_); simp (maxSteps := 1000000) -implicitDefEqProofs only [e0, e3, e4, e8, e9, hb, hT.tok.len, hT.tok.at0, hT.tok.atS, hT.tok.set0, hT.tok.setS, hT.tok.get, Int.reduceEq, go_sem, ↓reduceIte, Nat.reduceEqDiff, Nat.reduceBEq, Int.reduceToNat, Nat.reduceAdd, Nat.reduceLT, Nat.reduceLeDiff, reduceCtorEq, Nat.reduceSub]) | ((with_reducible show F _ _ (Cfg.code (SCode.qregion _) _ _ _)); refine F_q2 ?_; simp (maxSteps := 1000000) -implicitDefEqProofs only [e0, e3, e4, e8, e9, hb, hT.tok.len, hT.tok.at0, hT.tok.atS, hT.tok.set0, hT.tok.setS, hT.tok.get, Int.reduceEq, go_sem, ↓reduceIte, Nat.reduceEqDiff, Nat.reduceBEq, Int.reduceToNat, Nat.reduceAdd, Nat.reduceLT, Nat.reduceLeDiff, reduceCtorEq, Nat.reduceSub]) | ((with_reducible show F _ _ (Cfg.code (SCode.pregion _ _ _ _ _) _ _ _)); refine F_p2 ?_; simp (maxSteps := 1000000) -implicitDefEqProofs only [e0, e3, e4, e8, e9, hb, hT.tok.len, hT.tok.at0, hT.tok.atS, hT.tok.set0, hT.tok.setS, hT.tok.get, Int.reduceEq, go_sem, ↓reduceIte, Nat.reduceEqDiff, Nat.reduceBEq, Int.reduceToNat, Nat.reduceAdd, Nat.reduceLT, Nat.reduceLeDiff, reduceCtorEq, Nat.reduceSub]) | with_reducible refine Fork.mk (fun _ => ?_) (fun _ => ?_) | with_reducible refine And.intro ?_ ?_ | ((with_reducible show resP _ _ _ _ _); simp (maxSteps := 1000000) -implicitDefEqProofs only [rm4, hT.tok.len, hT.tok.at0, hT.tok.atS, hT.tok.set0, hT.tok.setS, hT.tok.get, push_cast, ↓reduceIte, Nat.reduceEqDiff, reduceCtorEq, Nat.reduceAdd, Nat.reduceLT, Nat.reduceLeDiff]) | (intro _))
  refine lp4uB hT a2 (J ++ resH xs2) jb nm rs xs2 ps kvP (resV (N + J.length) xs2) kvs _ _ k hG' hbb (by simp [upd, e3]) (by simp [upd, e8]) (by simp [upd]) hov2 hd2 (fun i hi => resV_ne (by omega)) hpl (fun p e' kvP' J' he' hG2 => hk p e' kvP' _ J' ?_ hG2)
  intro x hx hx9
  rw [he' x (by omega)]
  simp (disch := omega) only [upd_ne]
set_option maxRecDepth 20000 in
set_option maxHeartbeats 8000000 in
theorem lp4uA0 (L : List Int) (heads : List Hd) (nm : ByteArray) (rs : List ByteArray) (a1 : Nat) (ha : a1 ≤ 100000) (xs1 : List St) (hx1 : xs1.length ≤ 100000) (x : St) (a2 : Nat) (v : Int) (hv : nxF L a1 6 = v) (hv01 : v = 0 ∨ v = 1)
    (h17 : MC 17 L (a1 + 1) [encH (nm, rs)] (.fs [encS x]) a2) : A4 L heads nm rs a1 xs1 (xs1 ++ [x]) a2 := by
  intro sid N T hT J jb ps kvP kv1 kvs e m k hG hb e0 e3 e4 e8 e9 hov hd hn hnb hpl hk
  have f1 := t16 L a1 6 (by omega)
  rw [hv] at f1
  simp only [encH] at h17
  have hG' := (hG.tail (hT.tok.len _) (hT.tok.len a2))
  have hov' := hov.tail (hT.tok.len _) (fun i hi => hn i (by omega)) (hT.tok.len a2)
  have hJ2 : 2 ≤ J.length := by
    have := (List.getElem?_eq_some_iff.1 hG.st.cell).1
    rw [List.length_append, hT.tok.len] at this; omega
  rcases hv01 with rfl | rfl
  all_goals
    simp (maxSteps := 1000000) -implicitDefEqProofs only [bm4u944, e0, e3, e4, e8, e9, hT.tok.len, hT.tok.at0, hT.tok.atS, hT.tok.set0, hT.tok.setS, hT.tok.get, Int.reduceEq, go_sem, ↓reduceIte, Nat.reduceEqDiff, Nat.reduceBEq, Int.reduceToNat, Nat.reduceAdd, Nat.reduceLT, Nat.reduceLeDiff, reduceCtorEq, Nat.reduceSub]
    repeat' (first | ((with_reducible first | refine cgA ((f1.at hT _)) ?_ | refine cgA ((h17.at hT _)) ?_); simp (maxSteps := 1000000) -implicitDefEqProofs only [e0, e3, e4, e8, e9, hb, hT.tok.len, hT.tok.at0, hT.tok.atS, hT.tok.set0, hT.tok.setS, hT.tok.get, Int.reduceEq, go_sem, ↓reduceIte, Nat.reduceEqDiff, Nat.reduceBEq, Int.reduceToNat, Nat.reduceAdd, Nat.reduceLT, Nat.reduceLeDiff, reduceCtorEq, Nat.reduceSub]) | ((with_reducible show F _ _ (Cfg.code (SCode.qregion _) _ _ _)); refine F_q2 ?_; simp (maxSteps := 1000000) -implicitDefEqProofs only [e0, e3, e4, e8, e9, hb, hT.tok.len, hT.tok.at0, hT.tok.atS, hT.tok.set0, hT.tok.setS, hT.tok.get, Int.reduceEq, go_sem, ↓reduceIte, Nat.reduceEqDiff, Nat.reduceBEq, Int.reduceToNat, Nat.reduceAdd, Nat.reduceLT, Nat.reduceLeDiff, reduceCtorEq, Nat.reduceSub]) | ((with_reducible show F _ _ (Cfg.code (SCode.pregion _ _ _ _ _) _ _ _)); refine F_p2 ?_; simp (maxSteps := 1000000) -implicitDefEqProofs only [e0, e3, e4, e8, e9, hb, hT.tok.len, hT.tok.at0, hT.tok.atS, hT.tok.set0, hT.tok.setS, hT.tok.get, Int.reduceEq, go_sem, ↓reduceIte, Nat.reduceEqDiff, Nat.reduceBEq, Int.reduceToNat, Nat.reduceAdd, Nat.reduceLT, Nat.reduceLeDiff, reduceCtorEq, Nat.reduceSub]) | with_reducible refine Fork.mk (fun _ => ?_) (fun _ => ?_) | with_reducible refine And.intro ?_ ?_ | ((with_reducible show resP _ _ _ _ _); simp (maxSteps := 1000000) -implicitDefEqProofs only [rm4, hT.tok.len, hT.tok.at0, hT.tok.atS, hT.tok.set0, hT.tok.setS, hT.tok.get, push_cast, ↓reduceIte, Nat.reduceEqDiff, reduceCtorEq, Nat.reduceAdd, Nat.reduceLT, Nat.reduceLeDiff]) | (intro _))
  all_goals first
    | (obtain ⟨k, r, t, vv, l, ⟨ek, en, es, eas⟩, sa, sb, p, ps⟩ := x; rw [encS_mk]; rfl)
    | skip
  all_goals refine app_OV hov' ?_ (headOk_S _) ?_ ?_
  all_goals first
    | (intro i o l h; cases h; done)
    | (simp; omega)
    | skip
  all_goals
    intro kv2 H' hov2 hle hfr
    have hHl : (T a2 ++ J).length = N + J.length := by rw [List.length_append, hT.tok.len]
    obtain ⟨J', rfl⟩ := prefix_eq (H := H') (A := T a2) (by rw [hT.tok.len]; omega) (fun j hj => by
      have hjN : j < N := by rw [hT.tok.len] at hj; exact hj
      rw [(hfr j (by omega) (hn j (by omega))).1, List.getElem?_append_left hj])
    have hG2 : G4 (T a2 ++ J') N ps kvP kvs := hG'.frame hd (hn N (by omega)) (hn (N + 1) (by omega)) (fun j _ hj hne => (hfr j hj hne).1)
    have hd2 : ∀ kv ∈ kvP :: kvs, dj kv kv2 := by
      intro kv hkv id
      by_cases hid : id < (T a2 ++ J).length
      · rcases hd kv hkv id with h | h
        · exact .inl h
        · exact .inr (hfr id hid h).2
      · exact .inl (hG'.mem_lt kv hkv id (by omega))
    have hn2 : ∀ i, i < N + 2 → kvne kv2 i := fun i hi => (hfr i (by omega) (hn i hi)).2
    have hbb : J'[jb]? = some (.row [.agg [.str nm, .fs (rs.map .str)]]) := by
      have hjl := (List.getElem?_eq_some_iff.1 hb).1
      rw [← hT.tok.atS a2 J' jb, (hfr (N + jb) (by omega) hnb).1, hT.tok.atS]; exact hb
    simp (maxSteps := 1000000) -implicitDefEqProofs only [e0, e3, e4, e8, e9, Int.reduceEq, go_sem, ↓reduceIte, Nat.reduceEqDiff, Nat.reduceBEq, Int.reduceToNat, Nat.reduceAdd, Nat.reduceLT, Nat.reduceLeDiff, reduceCtorEq, Nat.reduceSub]
    refine lp4uB hT a2 J' jb nm rs (xs1 ++ [x]) ps kvP kv2 kvs _ _ k hG2 hbb (by simp [upd, e3]) (by simp [upd, e8]) (by simp [upd]) (by simpa using hov2) hd2 hn2 hpl (fun p e' kvP' J' he' hG2 => hk p e' kvP' _ J' ?_ hG2)
    intro x hx hx9
    rw [he' x (by omega)]
    simp (disch := omega) only [upd_ne]
def B4 (L : List Int) (heads : List Hd) (j a : Nat) (zs : List St) (a3 : Nat) : Prop :=
  ∀ (sid N : Nat) (T : Nat → List Blk), MS L sid N T → ∀ (J : List Blk) (ps : List Pr) (kvP : V) (kvs : List V) (e : Env) (m : Nat) (k : Kont),
    G4 (T a ++ J) N ps kvP kvs → ps.length ≤ 100 → e 0 = .ptr sid 0 0 → e 3 = .ptr (N + 1) 0 0 → e 4 = .fs (heads.map encH) → e 29 = .fs (heads.map encH) → e 30 = .int .i64 heads.length → e 31 = .int .i64 j →
    (∀ p e' kvP' kv2 J', (∀ x, x < 31 → x ≠ 7 → x ≠ 8 → x ≠ 9 → e' x = e x) → e' 31 = .int .i64 ((j + 1 : Nat) : Int) → G4 (T a3 ++ J') N (ps ++ [⟨(heads.getD j (em, [])).1, (heads.getD j (em, [])).2, zs⟩]) kvP' (kvs ++ [kv2]) → F Tryz.prog (p + 1) (.app k .normal e' (T a3 ++ J'))) →
    F Tryz.prog (m + 500) (.code bm4u1 e (T a ++ J) k)
set_option maxRecDepth 20000 in
set_option maxHeartbeats 8000000 in
theorem b4 (L : List Int) (heads : List Hd) (hh : heads.length ≤ 10) (j a : Nat) (hj : j < heads.length) (xs1 zs : List St) (a1 a3 : Nat)
    (h15 : MCO 15 L a [.fs ((heads.getD j (em, [])).2.map .str), .int .i64 2, .int .i64 3, .fs ((heads.drop (j + 1)).map encH)] xs1 a1)
    (hA : A4 L heads (heads.getD j (em, [])).1 (heads.getD j (em, [])).2 a1 xs1 zs a3) : B4 L heads j a zs a3 := by
  intro sid N T hT J ps kvP kvs e m k hG hpl e0 e3 e4 e29 e30 e31 hk
  have hgd : (heads.map encH).getD j .any = encH (heads.getD j (em, [])) := by simp [List.getD, hj]
  generalize heads.getD j (em, []) = hd at *
  obtain ⟨nm, rs⟩ := hd
  simp only [encH] at hgd
  simp only at h15 hA hk
  have hlt : ((j : Int) < heads.length) := by omega
  have hix : ixP (j : Int) heads.length = True := by simp [ixP]; omega
  have hw2 : IntKind.i64.wrap ((j : Int) + 1) = ((j + 1 : Nat) : Int) := wrap_succ (by omega)
  have hle1 : j + 1 ≤ heads.length := hj
  have h15' := h15 sid (N + (J ++ [Blk.row [.agg [.str nm, .fs (rs.map .str)]]]).length) _ (hT.app (J ++ [Blk.row [.agg [.str nm, .fs (rs.map .str)]]]))
  have htk : (heads.map encH).take heads.length = heads.map encH := List.take_of_length_le (by simp)
  have hdr : (heads.map encH).drop (j + 1) = (heads.drop (j + 1)).map encH := by rw [List.map_drop]
  have hok : headOk 2 (heads.map encH) := headOk_map encH 2 (fun _ => rfl) _
  have hle2 : (((j + 1 : Nat) : Int) ≤ heads.length) := by omega
  have hle0 : (0 ≤ ((j + 1 : Nat) : Int)) := by omega
  simp (maxSteps := 1000000) -implicitDefEqProofs only [bm4u1, e0, e3, e4, e29, e30, e31, hlt, hix, hgd, hw2, hT.tok.len, hT.tok.at0, hT.tok.atS, hT.tok.set0, hT.tok.setS, hT.tok.get, hT.tok.set, htk, hdr, hok, hle2, hle0, Int.le_refl, go_sem, ↓reduceIte, Nat.reduceEqDiff, Nat.reduceBEq, Int.reduceToNat, Nat.reduceAdd, Nat.reduceLT, Nat.reduceLeDiff, reduceCtorEq, Nat.reduceSub]
  repeat' (first | ((with_reducible first | refine cgA h15' ?_); simp (maxSteps := 1000000) -implicitDefEqProofs only [e0, e3, e4, e29, e30, e31, hlt, hix, hgd, hw2, hT.tok.len, hT.tok.at0, hT.tok.atS, hT.tok.set0, hT.tok.setS, hT.tok.get, hT.tok.set, htk, hdr, hok, hle2, hle0, Int.le_refl, go_sem, ↓reduceIte, Nat.reduceEqDiff, Nat.reduceBEq, Int.reduceToNat, Nat.reduceAdd, Nat.reduceLT, Nat.reduceLeDiff, reduceCtorEq, Nat.reduceSub]) | ((with_reducible show F _ _ (Cfg.code (SCode.qregion _) _ _ _)); refine F_q2 ?_; simp (maxSteps := 1000000) -implicitDefEqProofs only [e0, e3, e4, e29, e30, e31, hlt, hix, hgd, hw2, hT.tok.len, hT.tok.at0, hT.tok.atS, hT.tok.set0, hT.tok.setS, hT.tok.get, hT.tok.set, htk, hdr, hok, hle2, hle0, Int.le_refl, go_sem, ↓reduceIte, Nat.reduceEqDiff, Nat.reduceBEq, Int.reduceToNat, Nat.reduceAdd, Nat.reduceLT, Nat.reduceLeDiff, reduceCtorEq, Nat.reduceSub]) | ((with_reducible show F _ _ (Cfg.code (SCode.pregion _ _ _ _ _) _ _ _)); refine F_p2 ?_; simp (maxSteps := 1000000) -implicitDefEqProofs only [e0, e3, e4, e29, e30, e31, hlt, hix, hgd, hw2, hT.tok.len, hT.tok.at0, hT.tok.atS, hT.tok.set0, hT.tok.setS, hT.tok.get, hT.tok.set, htk, hdr, hok, hle2, hle0, Int.le_refl, go_sem, ↓reduceIte, Nat.reduceEqDiff, Nat.reduceBEq, Int.reduceToNat, Nat.reduceAdd, Nat.reduceLT, Nat.reduceLeDiff, reduceCtorEq, Nat.reduceSub]) | with_reducible refine Fork.mk (fun _ => ?_) (fun _ => ?_) | with_reducible refine And.intro ?_ ?_ | ((with_reducible show resP _ _ _ _ _); simp (maxSteps := 1000000) -implicitDefEqProofs only [rm4, hT.tok.len, hT.tok.at0, hT.tok.atS, hT.tok.set0, hT.tok.setS, hT.tok.get, push_cast, ↓reduceIte, Nat.reduceEqDiff, reduceCtorEq, Nat.reduceAdd, Nat.reduceLT, Nat.reduceLeDiff]) | (intro _))
  have hHl : (T a ++ J).length = N + J.length := by rw [List.length_append, hT.tok.len]
  have hJ2 : N + 2 ≤ N + J.length := by
    have := (List.getElem?_eq_some_iff.1 hG.st.cell).1
    omega
  have hG1 : G4 (T a1 ++ (J ++ Blk.row [.agg [.str nm, .fs (rs.map .str)]] :: resH xs1)) N ps kvP kvs := by
    have := (hG.tail (hT.tok.len _) (hT.tok.len a1)).app (Blk.row [.agg [.str nm, .fs (rs.map .str)]] :: resH xs1)
    rwa [List.append_assoc] at this
  have hov : OV (T a1 ++ (J ++ Blk.row [.agg [.str nm, .fs (rs.map .str)]] :: resH xs1)) (resV (N + (J.length + 1)) xs1) (xs1.map encS) := by
    have := OV_res (A := T a1 ++ (J ++ [Blk.row [.agg [.str nm, .fs (rs.map .str)]]])) (xs := xs1) (n := N + (J.length + 1)) (by simp [hT.tok.len])
    simpa using this
  have hd : ∀ kv ∈ kvP :: kvs, dj kv (resV (N + (J.length + 1)) xs1) := by
    intro kv hkv id
    by_cases hid : id = N + (J.length + 1)
    · left; exact hG.mem_lt kv hkv id (by omega)
    · right; exact resV_ne hid
  refine hA sid N T hT (J ++ Blk.row [.agg [.str nm, .fs (rs.map .str)]] :: resH xs1) J.length ps kvP _ kvs _ _ _ hG1 (by simp) (by simp [upd, e0]) (by simp [upd, e3]) (by simp [upd, e4]) (by simp [upd]) (by simp [upd]) hov hd (fun i hi => resV_ne (by omega)) (resV_ne (by omega)) hpl ?_
  intro p e' kvP' kv2 J' he' hG2
  have f31 : e' 31 = .int .i64 j := (he' 31 (by omega) (by omega)).trans (by simp [upd, e31])
  simp (maxSteps := 1000000) -implicitDefEqProofs only [f31, hw2, go_sem, ↓reduceIte, Nat.reduceEqDiff, Nat.reduceBEq, Int.reduceToNat, Nat.reduceAdd, Nat.reduceLT, Nat.reduceLeDiff, reduceCtorEq, Nat.reduceSub]
  refine hk _ _ kvP' kv2 J' ?_ (by simp [upd]) hG2
  intro x hx h7 h8 h9
  simp (disch := omega) only [upd_ne]
  rw [he' x (by omega) h9]
  simp (disch := omega) only [upd_ne]
set_option maxRecDepth 20000 in
theorem b4any (L : List Int) (heads : List Hd) (hh : heads.length ≤ 10) (hh2 : ∀ h ∈ heads, 2 ≤ h.2.length ∧ h.2.length ≤ 3) (j a : Nat) (hj : j < heads.length) (ha : a ≤ 60000) :
    ∃ zs a3, a ≤ a3 ∧ a3 ≤ a + 10000 ∧ wSs zs ≤ 6000 ∧ B4 L heads j a zs a3 := by
  have hc : cW 2 = 1652 := by decide
  have hmem : heads.getD j (em, []) ∈ heads := by simp [List.getD, hj]
  obtain ⟨hr1, hr2⟩ := hh2 _ hmem
  obtain ⟨xs1, a1, g1, g2, g3, g4⟩ := t15 L (heads.getD j (em, [])).2 (heads.drop (j + 1)) (by omega) (by omega) (by simp; omega) (fun h hm => by have := hh2 h (List.mem_of_mem_drop hm); omega) 2 220000 (by omega) (by omega) (by omega) 3 a (by omega) (by omega) (by omega)
  simp only [hc] at g2 g3
  have g2' : a1 ≤ a + 1 + 3 * 1652 := g2
  have g3' : wSs xs1 ≤ 3 * 1652 := g3
  clear g2 g3
  have hb := nxF_bound (L := L) (a := a1) (n := 6) (by omega) (by omega)
  have hl1 := len_wSs xs1
  by_cases hv01 : nxF L a1 6 = 0 ∨ nxF L a1 6 = 1
  · obtain ⟨x, a2, k1, k2, k3, k4⟩ := t17 L (a1 + 1) (by omega) (heads.getD j (em, [])) hr1 (by omega)
    refine ⟨xs1 ++ [x], a2, by omega, by omega, ?_, b4 L heads hh j a hj xs1 _ a1 a2 g4.mco (lp4uA0 L heads _ _ a1 (by omega) xs1 (by omega) x a2 _ rfl hv01 k4)⟩
    rw [wSs_append]; simp only [wSs]; omega
  · by_cases hv2 : nxF L a1 6 = 2
    · obtain ⟨xs2, a2, k1, k2, k3, k4⟩ := t15 L (heads.getD j (em, [])).2 heads (by omega) (by omega) hh (fun h hm => by have := hh2 h hm; omega) 2 220000 (by omega) (by omega) (by omega) 3 (a1 + 1) (by omega) (by omega) (by omega)
      simp only [hc] at k2 k3
      have k2' : a2 ≤ a1 + 1 + 1 + 3 * 1652 := k2
      have k3' : wSs xs2 ≤ 3 * 1652 := k3
      clear k2 k3
      exact ⟨xs2, a2, by omega, by omega, by omega, b4 L heads hh j a hj xs1 _ a1 a2 g4.mco (lp4uA1 L heads _ _ a1 (by omega) xs1 xs2 a2 hv2 k4.mco)⟩
    · exact ⟨xs1, a1 + 1, by omega, by omega, by omega, b4 L heads hh j a hj xs1 _ a1 _ g4.mco (lp4uA2 L heads _ _ a1 (by omega) xs1 _ rfl (fun h => hv01 (.inl h)) (fun h => hv01 (.inr h)) hv2)⟩
theorem choose2 {α : Type} (x0 : α) {P : Nat → Nat → α → Prop} {n M : Nat} (h : ∀ j, j < n → ∀ a, a ≤ M → ∃ x, P j a x) : ∃ f : Nat → Nat → α, ∀ j, j < n → ∀ a, a ≤ M → P j a (f j a) := by
  have : ∀ j, ∃ g : Nat → α, j < n → ∀ a, a ≤ M → P j a (g a) := fun j => by
    by_cases hj : j < n
    · obtain ⟨g, hg⟩ := choose_le x0 (h j hj)
      exact ⟨g, fun _ => hg⟩
    · exact ⟨fun _ => x0, fun h => absurd h hj⟩
  exact ⟨fun j => (this j).choose, fun j hj => (this j).choose_spec hj⟩
def sq (heads : List Hd) (f : Nat → Nat → List St × Nat) (a : Nat) : Nat → List Pr × Nat
  | 0 => ([], a)
  | j + 1 => ((sq heads f a j).1 ++ [⟨(heads.getD j (em, [])).1, (heads.getD j (em, [])).2, (f j (sq heads f a j).2).1⟩], (f j (sq heads f a j).2).2)
set_option maxRecDepth 20000 in
set_option maxHeartbeats 8000000 in
theorem lp4u1 (L : List Int) (heads : List Hd) (hh : heads.length ≤ 3) (hh2 : ∀ h ∈ heads, 2 ≤ h.2.length ∧ h.2.length ≤ 3) (a : Nat) (ha : a ≤ 1000) :
    ∃ ps a', a ≤ a' ∧ a' ≤ a + 30000 ∧ wPs ps ≤ 20000 ∧ ps.length ≤ 3 ∧ ∀ (sid N : Nat) (T : Nat → List Blk), MS L sid N T → ∀ (J : List Blk) (e : Env) (m : Nat) (k : Kont),
      G4 (T a ++ J) N [] .nils [] → e 0 = .ptr sid 0 0 → e 2 = .ptr N 0 0 → e 3 = .ptr (N + 1) 0 0 → e 4 = .fs (heads.map encH) → e 29 = .fs (heads.map encH) → e 30 = .int .i64 heads.length → e 31 = .int .i64 0 →
      (∀ p e' kvP kvs J', m ≤ p → e' 0 = .ptr sid 0 0 → e' 2 = .ptr N 0 0 → e' 3 = .ptr (N + 1) 0 0 → e' 4 = .fs (heads.map encH) → G4 (T a' ++ J') N ps kvP kvs → F Tryz.prog (p + 3) (.app k (.exit 2) e' (T a' ++ J'))) →
      F Tryz.prog (m + 520) (.code (.loop bm4u1) e (T a ++ J) k) := by
  obtain ⟨f, hf⟩ : ∃ f : Nat → Nat → List St × Nat, ∀ j, j < heads.length → ∀ a, a ≤ 60000 → a ≤ (f j a).2 ∧ (f j a).2 ≤ a + 10000 ∧ wSs (f j a).1 ≤ 6000 ∧ B4 L heads j a (f j a).1 (f j a).2 := by
    have h : ∀ j, j < heads.length → ∀ a, a ≤ 60000 → ∃ x : List St × Nat, a ≤ x.2 ∧ x.2 ≤ a + 10000 ∧ wSs x.1 ≤ 6000 ∧ B4 L heads j a x.1 x.2 := fun j hj a ha => by
      obtain ⟨zs, a3, h1, h2, h3, h4⟩ := b4any L heads (by omega) hh2 j a hj ha
      exact ⟨(zs, a3), h1, h2, h3, h4⟩
    exact choose2 ([], 0) h
  have hsq : ∀ j, j ≤ heads.length → a ≤ (sq heads f a j).2 ∧ (sq heads f a j).2 ≤ a + j * 10000 ∧ wPs (sq heads f a j).1 ≤ j * 6003 ∧ (sq heads f a j).1.length = j := by
    intro j
    induction j with
    | zero => intro _; simp [sq, wPs]
    | succ j ih =>
      intro hj
      obtain ⟨h1, h2, h3, h4⟩ := ih (by omega)
      obtain ⟨g1, g2, g3, _⟩ := hf j (by omega) (sq heads f a j).2 (by omega)
      have hmem : heads.getD j (em, []) ∈ heads := by
        have : j < heads.length := by omega
        simp [List.getD, this]
      have := (hh2 _ hmem).2
      simp only [sq, wPs_append, wPs, List.length_append, List.length_cons, List.length_nil]
      refine ⟨by omega, by omega, by omega, by omega⟩
  obtain ⟨q1, q2, q3, q4⟩ := hsq heads.length (Nat.le_refl _)
  refine ⟨(sq heads f a heads.length).1, (sq heads f a heads.length).2, q1, by omega, by omega, by omega, ?_⟩
  intro sid N T hT J e m k hG e0 e2 e3 e4 e29 e30 e31 hk
  refine F_loop (fun q e H => ∃ j kvP kvs J, q = heads.length - j ∧ j ≤ heads.length ∧ e 0 = .ptr sid 0 0 ∧ e 2 = .ptr N 0 0 ∧ e 3 = .ptr (N + 1) 0 0 ∧ e 4 = .fs (heads.map encH) ∧ e 29 = .fs (heads.map encH) ∧ e 30 = .int .i64 heads.length ∧ e 31 = .int .i64 (j : Nat) ∧
      H = T (sq heads f a j).2 ++ J ∧ G4 H N (sq heads f a j).1 kvP kvs) heads.length ?_ ?_
  · exact ⟨0, .nils, [], J, rfl, by omega, e0, e2, e3, e4, e29, e30, e31, rfl, hG⟩
  rintro q e H ⟨j, kvP, kvs, J, rfl, hj, e0, e2, e3, e4, e29, e30, e31, rfl, hG⟩
  by_cases hjn : j = heads.length
  · subst hjn
    have hnl : ¬ ((heads.length : Int) < heads.length) := by omega
    simp (maxSteps := 1000000) -implicitDefEqProofs only [bm4u1, e0, e2, e3, e4, e29, e30, e31, hnl, go_sem, ↓reduceIte, Nat.reduceEqDiff, Nat.reduceBEq, Int.reduceToNat, Nat.reduceAdd, Nat.reduceLT, Nat.reduceLeDiff, reduceCtorEq, Nat.reduceSub]
    exact hk _ _ kvP kvs J (by omega) (by simp [upd, e0]) (by simp [upd, e2]) (by simp [upd, e3]) (by simp [upd, e4]) hG
  · obtain ⟨h1, h2, h3, h4⟩ := hsq j hj
    obtain ⟨_, _, _, hB⟩ := hf j (by omega) (sq heads f a j).2 (by omega)
    refine hB sid N T hT J _ kvP kvs e _ _ hG (by omega) e0 e3 e4 e29 e30 e31 ?_
    intro p e' kvP' kv2 J' he' f31 hG2
    rw [F_loopN]
    refine ⟨heads.length - (j + 1), by omega, j + 1, kvP', kvs ++ [kv2], J', rfl, by omega, (he' 0 (by omega) (by omega) (by omega) (by omega)).trans e0, (he' 2 (by omega) (by omega) (by omega) (by omega)).trans e2, (he' 3 (by omega) (by omega) (by omega) (by omega)).trans e3, (he' 4 (by omega) (by omega) (by omega) (by omega)).trans e4,
      (he' 29 (by omega) (by omega) (by omega) (by omega)).trans e29, (he' 30 (by omega) (by omega) (by omega) (by omega)).trans e30, f31, rfl, hG2⟩
theorem fz_encH (H : List Blk) (n : Nat) (h : Hd) : fz H (n + 2) (encH h) = some (encH h) := by
  unfold encH
  simp (maxSteps := 1000000) -implicitDefEqProofs only [push_cast, ↓reduceIte, Nat.reduceEqDiff, reduceCtorEq, Nat.reduceAdd, Nat.reduceLT, Nat.reduceLeDiff]
theorem PSt.setz {H : List Blk} {idp N i : Nat} {P : Pla} {kvP kvS : V} {kvs : List V} (h : PSt H idp P kvP kvS kvs) (hs : Sep idp N kvP kvS kvs) (hi : i < N) (hne : i ≠ idp) (b : Blk) : PSt (H.set i b) idp P kvP kvS kvs where
  cell := by rw [List.getElem?_set, if_neg hne]; exact h.cell
  ovP := h.ovP.setne (hs.ge kvP (by simp) i hi)
  ovS := h.ovS.setne (hs.ge kvS (by simp) i hi)
  len := h.len
  ovs j q kv h1 h2 := (h.ovs j q kv h1 h2).setne (hs.ge kv (mem_of h2) i hi)
theorem G4.main {H : List Blk} {N : Nat} {ps : List Pr} {kvP kvS : V} {kvs : List V} {xs : List St} (h : G4 H N ps kvP kvs) (hov : OV H kvS (xs.map encS)) (hd : ∀ kv ∈ kvP :: kvs, dj kv kvS) (hn : ∀ i, i < N + 2 → kvne kvS i) :
    PSt (H.set (N + 1) (.row [.agg [kvP, kvS]])) (N + 1) ⟨ps, xs⟩ kvP kvS kvs ∧ Sep (N + 1) (N + 1) kvP kvS kvs := by
  refine ⟨⟨?_, ?_, ?_, h.st.len, ?_⟩, ⟨?_, ?_, ?_⟩⟩
  · rw [List.getElem?_set, if_pos rfl, if_pos (List.getElem?_eq_some_iff.1 h.st.cell).1]
  · exact h.st.ovP.setne (h.sep.ne kvP (by simp))
  · exact hov.setne (hn _ (by omega))
  · intro i q kv h1 h2
    exact (h.st.ovs i q kv h1 h2).setne (h.sep.ne kv (mem_of h2))
  · rw [List.pairwise_cons, List.pairwise_cons]
    have hp := List.pairwise_cons.1 h.sep.pw
    have hp2 := List.pairwise_cons.1 hp.2
    refine ⟨?_, ?_, hp2.2⟩
    · intro kv hkv
      rcases List.mem_cons.1 hkv with rfl | hm
      · exact hd kvP (by simp)
      · exact hp.1 kv (by simp [hm])
    · intro kv hkv id
      exact (hd kv (by simp [hkv]) id).symm
  · intro kv hkv i hi
    rcases List.mem_cons.1 hkv with rfl | hm
    · exact h.sep.ge kv (by simp) i hi
    · rcases List.mem_cons.1 hm with rfl | hm
      · exact hn i (by omega)
      · exact h.sep.ge kv (by simp [hm]) i hi
  · intro kv hkv
    rcases List.mem_cons.1 hkv with rfl | hm
    · exact h.sep.ne kv (by simp)
    · rcases List.mem_cons.1 hm with rfl | hm
      · exact hn _ (by omega)
      · exact h.sep.ne kv (by simp [hm])
def abc : List ByteArray := [⟨#[97]⟩, ⟨#[98]⟩, ⟨#[99]⟩]
set_option maxRecDepth 20000 in
set_option maxHeartbeats 8000000 in
theorem t4 (L : List Int) (a : Nat) (ha : a ≤ 500) : ∃ P a', a ≤ a' ∧ a' ≤ a + 80000 ∧ wPl P ≤ 100000 ∧ P.procs.length ≤ 3 ∧ MC 4 L a [] (encPl P) a' := by
  have hhl := hdF_len L a 3
  have hhm := hdF_mem L a 3 (Nat.le_refl _)
  have hc : cW 3 = 6940 := by decide
  obtain ⟨ps, a2, q1, q2, q3, q4, q5⟩ := lp4u1 L (hdF L a 3) hhl hhm (a + 3) (by omega)
  obtain ⟨xs, a3, g1, g2, g3, g4⟩ := t15 L abc (hdF L a 3) (by decide) (by decide) (by omega) (fun h hm => by have := hhm h hm; omega) 3 100000 (by omega) (by omega) (by omega) 5 a2 (by omega) (by omega) (by omega)
  simp only [hc] at g2 g3
  have g2' : a3 ≤ a2 + 1 + 5 * 6940 := g2
  have g3' : wSs xs ≤ 5 * 6940 := g3
  clear g2 g3
  have f1 := t14 L a3 12 (by omega)
  have hwp : wPl ⟨ps, xs⟩ ≤ 60000 := by simp only [wPl]; omega
  have walk : ∀ (sid N : Nat) (T : Nat → List Blk), MS L sid N T → ∀ (K : V → List Blk → Prop),
      (∀ (kvP kvS : V) (kvs : List V) (J : List Blk) (e : Env) (m : Nat), PSt (T a3 ++ J) (N + 1) ⟨ps, xs⟩ kvP kvS kvs → Sep (N + 1) (N + 1) kvP kvS kvs → J[0]? = some Z2 → e 0 = .ptr sid 0 0 → e 2 = .ptr N 0 0 → e 3 = .ptr (N + 1) 0 0 →
        F Tryz.prog (m + 200) (.code bm4u978 e (T a3 ++ J) (fin Tryz.prog rm4 K))) → ACall Tryz.prog 4 [.ptr sid 0 0] (T a) K := by
    intro sid N T hT K hK
    refine ACall.intro cm4 2000 (by simp) ?_
    simp (maxSteps := 1000000) -implicitDefEqProofs only [sm4, hT.tok.len, hT.tok.at0, hT.tok.atS, hT.tok.set0, hT.tok.setS, hT.tok.get, go_sem, ↓reduceIte, Nat.reduceEqDiff, Nat.reduceBEq, Int.reduceToNat, Nat.reduceAdd, Nat.reduceLT, Nat.reduceLeDiff, reduceCtorEq, Nat.reduceSub]
    intro _
    refine lp4u0 L a (by omega) hT _ _ _ ?_ ?_ ?_ ?_ ?_ ?_ ?_ ?_
    · simp [upd, env0]
    · simp [upd]
    · simp [upd]
    · simp [upd]
    · simp [upd, cands, encH]
    · simp [upd]
    · simp [upd]
    intro p e' kv J hp e0 e2 e3 e4 hov hkn
    obtain ⟨p, rfl⟩ : ∃ q, p = q + 1500 := ⟨p - 1500, by omega⟩
    simp (maxSteps := 1000000) -implicitDefEqProofs only [e0, e2, e3, e4, go_sem, ↓reduceIte, Nat.reduceEqDiff, Nat.reduceBEq, Int.reduceToNat, Nat.reduceAdd, Nat.reduceLT, Nat.reduceLeDiff, reduceCtorEq, Nat.reduceSub]
    have hA2 : (T (a + 3) ++ [Z2, Z2]).length = N + 2 := by simp [hT.tok.len]
    have hre : T (a + 3) ++ Z2 :: Z2 :: J = (T (a + 3) ++ [Z2, Z2]) ++ J := by simp
    refine ⟨List.range' (N + 2) J.length, .fs ((hdF L a 3).map encH), ?_, ?_⟩
    · rw [hre, keepL_tail' hA2 rfl]
      refine fz_OV (f := encH) (n := 18) (fun H x => fz_encH H 17 x) ?_
      refine OV.tail (A := T (a + 3) ++ [Z2, Z2]) (n := N + 2) (by simpa using hov) hA2 hkn (by simp)
    · rw [hre, killL_tail2 hA2 rfl, List.append_assoc]
      generalize List.drop (N + 2) _ = J2
      simp (maxSteps := 1000000) -implicitDefEqProofs only [e0, e2, e3, e4, go_sem, ↓reduceIte, Nat.reduceEqDiff, Nat.reduceBEq, Int.reduceToNat, Nat.reduceAdd, Nat.reduceLT, Nat.reduceLeDiff, reduceCtorEq, Nat.reduceSub]
      intro _
      have hG0 : G4 (T (a + 3) ++ Z2 :: Z2 :: J2) N [] .nils [] := by
        refine ⟨⟨?_, .inl ⟨rfl, rfl⟩, .inl ⟨rfl, rfl⟩, rfl, ?_⟩, ⟨?_, ?_, ?_⟩, ?_⟩
        · rw [hT.tok.atS]; rfl
        · intro i q kv h; simp at h
        · simp [dj, kvne]
        · intro kv hkv i _; simp at hkv; subst hkv; exact kvne_nils i
        · intro kv hkv; simp at hkv; subst hkv; exact kvne_nils _
        · rw [hT.tok.at0]; rfl
      refine q5 sid N T hT (Z2 :: Z2 :: J2) _ _ _ hG0 ?_ ?_ ?_ ?_ ?_ ?_ ?_ ?_
      · simp [upd, e0]
      · simp [upd, e2]
      · simp [upd, e3]
      · simp [upd]
      · simp [upd]
      · simp [upd]
      · simp [upd]
      intro p3 e3' kvP kvs J3 hp3 f0 f2 f3 f4 hG
      obtain ⟨p3, rfl⟩ : ∃ q, p3 = q + 700 := ⟨p3 - 700, by omega⟩
      have hHl : (T a2 ++ J3).length = N + J3.length := by rw [List.length_append, hT.tok.len]
      have hcell := hG.st.cell
      have hz := hG.z
      rw [hT.tok.atS] at hcell
      rw [hT.tok.at0] at hz
      have hJ2 : 2 ≤ J3.length := (List.getElem?_eq_some_iff.1 hcell).1
      have h15 := g4.mco sid (N + J3.length) _ (hT.app J3)
      simp only [abc, List.map_cons, List.map_nil] at h15
      have hcl : ∀ X : List Blk, (J3 ++ X)[1]? = some (.row [.agg [kvP, .nils]]) := fun X => by rw [List.getElem?_append_left (by omega)]; exact hcell
      have hov2 : OV (T a3 ++ J3 ++ resH xs) (resV (N + J3.length) xs) (xs.map encS) := OV_res (by rw [List.length_append, hT.tok.len])
      have hd2 : ∀ kv ∈ kvP :: kvs, dj kv (resV (N + J3.length) xs) := by
        intro kv hkv id
        by_cases hid : id = N + J3.length
        · left; exact hG.mem_lt kv hkv id (by omega)
        · right; exact resV_ne hid
      have hone := hov2.vone
      simp only [V.one] at hone
      have hc1 := hov2.one
      have honeP := hG.st.ovP.vone
      simp only [V.one] at honeP
      have hcP := hG.st.ovP.one
      obtain ⟨hP2, hS2⟩ := ((hG.tail (hT.tok.len _) (hT.tok.len a3)).app (resH xs)).main hov2 hd2 (fun i hi => resV_ne (by omega))
      rw [List.append_assoc, hT.tok.setS] at hP2
      have hz2 : ((J3 ++ resH xs).set 1 (.row [.agg [kvP, resV (N + J3.length) xs]]))[0]? = some Z2 := by
        rw [List.getElem?_set_ne (by omega), List.getElem?_append_left (by omega)]; exact hz
      simp (maxSteps := 1000000) -implicitDefEqProofs only [f0, f2, f3, f4, hT.tok.len, hT.tok.at0, hT.tok.atS, hT.tok.set0, hT.tok.setS, hT.tok.get, go_sem, ↓reduceIte, Nat.reduceEqDiff, Nat.reduceBEq, Int.reduceToNat, Nat.reduceAdd, Nat.reduceLT, Nat.reduceLeDiff, reduceCtorEq, Nat.reduceSub]
      repeat' (first | ((with_reducible first | refine cgA h15 ?_); simp (maxSteps := 1000000) -implicitDefEqProofs only [f0, f2, f3, f4, hT.tok.len, hT.tok.at0, hT.tok.atS, hT.tok.set0, hT.tok.setS, hT.tok.get, hcl, hone, hc1, honeP, hcP, go_sem, ↓reduceIte, Nat.reduceEqDiff, Nat.reduceBEq, Int.reduceToNat, Nat.reduceAdd, Nat.reduceLT, Nat.reduceLeDiff, reduceCtorEq, Nat.reduceSub]) | ((with_reducible show F _ _ (Cfg.code (SCode.qregion _) _ _ _)); refine F_q2 ?_; simp (maxSteps := 1000000) -implicitDefEqProofs only [f0, f2, f3, f4, hT.tok.len, hT.tok.at0, hT.tok.atS, hT.tok.set0, hT.tok.setS, hT.tok.get, hcl, hone, hc1, honeP, hcP, go_sem, ↓reduceIte, Nat.reduceEqDiff, Nat.reduceBEq, Int.reduceToNat, Nat.reduceAdd, Nat.reduceLT, Nat.reduceLeDiff, reduceCtorEq, Nat.reduceSub]) | ((with_reducible show F _ _ (Cfg.code (SCode.pregion _ _ _ _ _) _ _ _)); refine F_p2 ?_; simp (maxSteps := 1000000) -implicitDefEqProofs only [f0, f2, f3, f4, hT.tok.len, hT.tok.at0, hT.tok.atS, hT.tok.set0, hT.tok.setS, hT.tok.get, hcl, hone, hc1, honeP, hcP, go_sem, ↓reduceIte, Nat.reduceEqDiff, Nat.reduceBEq, Int.reduceToNat, Nat.reduceAdd, Nat.reduceLT, Nat.reduceLeDiff, reduceCtorEq, Nat.reduceSub]) | with_reducible refine Fork.mk (fun _ => ?_) (fun _ => ?_) | with_reducible refine And.intro ?_ ?_ | ((with_reducible show resP _ _ _ _ _); simp (maxSteps := 1000000) -implicitDefEqProofs only [rm4, hT.tok.len, hT.tok.at0, hT.tok.atS, hT.tok.set0, hT.tok.setS, hT.tok.get, push_cast, ↓reduceIte, Nat.reduceEqDiff, reduceCtorEq, Nat.reduceAdd, Nat.reduceLT, Nat.reduceLeDiff]) | (intro _))
      exact hK kvP _ kvs _ _ _ hP2 hS2 hz2 (by simp [upd, f0]) (by simp [upd, f2]) (by simp [upd, f3])
  have fini : ∀ (sid N : Nat) (T : Nat → List Blk), MS L sid N T → ∀ (b : Nat) (P : Pla) (J : List Blk) (kvP kvS : V) (kvs : List V), PSt (T b ++ J) (N + 1) P kvP kvS kvs → Sep (N + 1) (N + 1) kvP kvS kvs →
      ∃ X, T b ++ J.set 0 (.row [.agg [kvP, kvS]]) = T b ++ X ∧ ∃ r2, fz (List.replicate N .dead ++ X) 20 (.agg [kvP, kvS]) = some r2 ∧ r2 = encPl P := by
    intro sid N T hT b P J kvP kvS kvs hP hS
    refine ⟨_, rfl, _, ?_, rfl⟩
    have h1 := hP.setz hS (i := N) (by omega) (by omega) (.row [.agg [kvP, kvS]])
    rw [hT.tok.set0] at h1
    exact (h1.tail (hS.weaken (by omega)) (hT.tok.len b) (by simp) : PSt (List.replicate N .dead ++ _) (N + 1) P kvP kvS kvs).fzP
  cases hb : decide (nxF L a3 12 = 0) with
  | false =>
    rw [hb] at f1
    refine ⟨⟨ps, xs⟩, a3 + 1, by omega, by omega, by omega, q4, fun sid N T hT => hT.trimO (noref_encPl _) ?_⟩
    refine walk sid N T hT _ (fun kvP kvS kvs J e m hP hS hz e0 e2 e3 => ?_)
    have hcell := hP.cell
    rw [hT.tok.atS] at hcell
    have honeP := hP.ovP.vone
    simp only [V.one] at honeP
    have hcP := hP.ovP.one
    have honeS := hP.ovS.vone
    simp only [V.one] at honeS
    have hcS := hP.ovS.one
    have hP' := hP.tail (hS.weaken (by omega)) (hT.tok.len _) (hT.tok.len (a3 + 1))
    simp only [Z2] at hz
    have hz1 : ∀ b, (J.set 0 b)[0]? = some b := fun b => by simp [(List.getElem?_eq_some_iff.1 hz).1]
    simp (maxSteps := 1000000) -implicitDefEqProofs only [bm4u978, e0, e2, e3, hcell, hz, hT.tok.len, hT.tok.at0, hT.tok.atS, hT.tok.set0, hT.tok.setS, hT.tok.get, go_sem, ↓reduceIte, Nat.reduceEqDiff, Nat.reduceBEq, Int.reduceToNat, Nat.reduceAdd, Nat.reduceLT, Nat.reduceLeDiff, reduceCtorEq, Nat.reduceSub]
    repeat' (first | ((with_reducible first | refine cgA ((f1.at hT _)) ?_); simp (maxSteps := 1000000) -implicitDefEqProofs only [e0, e2, e3, hcell, hz, hT.tok.len, hT.tok.at0, hT.tok.atS, hT.tok.set0, hT.tok.setS, hT.tok.get, honeP, hcP, honeS, hcS, go_sem, ↓reduceIte, Nat.reduceEqDiff, Nat.reduceBEq, Int.reduceToNat, Nat.reduceAdd, Nat.reduceLT, Nat.reduceLeDiff, reduceCtorEq, Nat.reduceSub]) | ((with_reducible show F _ _ (Cfg.code (SCode.qregion _) _ _ _)); refine F_q2 ?_; simp (maxSteps := 1000000) -implicitDefEqProofs only [e0, e2, e3, hcell, hz, hT.tok.len, hT.tok.at0, hT.tok.atS, hT.tok.set0, hT.tok.setS, hT.tok.get, honeP, hcP, honeS, hcS, go_sem, ↓reduceIte, Nat.reduceEqDiff, Nat.reduceBEq, Int.reduceToNat, Nat.reduceAdd, Nat.reduceLT, Nat.reduceLeDiff, reduceCtorEq, Nat.reduceSub]) | ((with_reducible show F _ _ (Cfg.code (SCode.pregion _ _ _ _ _) _ _ _)); refine F_p2 ?_; simp (maxSteps := 1000000) -implicitDefEqProofs only [e0, e2, e3, hcell, hz, hT.tok.len, hT.tok.at0, hT.tok.atS, hT.tok.set0, hT.tok.setS, hT.tok.get, honeP, hcP, honeS, hcS, go_sem, ↓reduceIte, Nat.reduceEqDiff, Nat.reduceBEq, Int.reduceToNat, Nat.reduceAdd, Nat.reduceLT, Nat.reduceLeDiff, reduceCtorEq, Nat.reduceSub]) | with_reducible refine Fork.mk (fun _ => ?_) (fun _ => ?_) | with_reducible refine And.intro ?_ ?_ | ((with_reducible show resP _ _ _ _ _); simp (maxSteps := 1000000) -implicitDefEqProofs only [rm4, hT.tok.len, hT.tok.at0, hT.tok.atS, hT.tok.set0, hT.tok.setS, hT.tok.get, hz1, e2, push_cast, ↓reduceIte, Nat.reduceEqDiff, reduceCtorEq, Nat.reduceAdd, Nat.reduceLT, Nat.reduceLeDiff]) | (intro _))
    all_goals (obtain ⟨X, h1, r2, h2, h3⟩ := fini sid N T hT (a3 + 1) _ J kvP kvS kvs hP' hS; simp (maxSteps := 1000000) -implicitDefEqProofs only [push_cast, ↓reduceIte, Nat.reduceEqDiff, reduceCtorEq, Nat.reduceAdd, Nat.reduceLT, Nat.reduceLeDiff] at h2; exact ⟨X, h1, r2, h2, h3⟩)
  | true =>
    rw [hb] at f1
    obtain ⟨P', a', k1, k2, k3, k4, k5⟩ := t18 L ⟨ps, xs⟩ (a3 + 1) (by omega) (by omega) (by simp only; omega)
    simp only at k4
    refine ⟨P', a', by omega, by omega, by omega, by omega, fun sid N T hT => hT.trimO (noref_encPl _) ?_⟩
    refine walk sid N T hT _ (fun kvP kvS kvs J e m hP hS hz e0 e2 e3 => ?_)
    have hP' := hP.tail (hS.weaken (by omega)) (hT.tok.len _) (hT.tok.len (a3 + 1))
    have h18 := k5 sid N T hT J 1 kvP kvS kvs hP' (hS.weaken (by omega))
    simp (maxSteps := 1000000) -implicitDefEqProofs only [bm4u978, e0, e2, e3, hT.tok.len, hT.tok.at0, hT.tok.atS, hT.tok.set0, hT.tok.setS, hT.tok.get, go_sem, ↓reduceIte, Nat.reduceEqDiff, Nat.reduceBEq, Int.reduceToNat, Nat.reduceAdd, Nat.reduceLT, Nat.reduceLeDiff, reduceCtorEq, Nat.reduceSub]
    repeat' (first | ((with_reducible first | refine cgA ((f1.at hT _)) ?_); simp (maxSteps := 1000000) -implicitDefEqProofs only [e0, e2, e3, hT.tok.len, hT.tok.at0, hT.tok.atS, hT.tok.set0, hT.tok.setS, hT.tok.get, go_sem, ↓reduceIte, Nat.reduceEqDiff, Nat.reduceBEq, Int.reduceToNat, Nat.reduceAdd, Nat.reduceLT, Nat.reduceLeDiff, reduceCtorEq, Nat.reduceSub]) | ((with_reducible show F _ _ (Cfg.code (SCode.qregion _) _ _ _)); refine F_q2 ?_; simp (maxSteps := 1000000) -implicitDefEqProofs only [e0, e2, e3, hT.tok.len, hT.tok.at0, hT.tok.atS, hT.tok.set0, hT.tok.setS, hT.tok.get, go_sem, ↓reduceIte, Nat.reduceEqDiff, Nat.reduceBEq, Int.reduceToNat, Nat.reduceAdd, Nat.reduceLT, Nat.reduceLeDiff, reduceCtorEq, Nat.reduceSub]) | ((with_reducible show F _ _ (Cfg.code (SCode.pregion _ _ _ _ _) _ _ _)); refine F_p2 ?_; simp (maxSteps := 1000000) -implicitDefEqProofs only [e0, e2, e3, hT.tok.len, hT.tok.at0, hT.tok.atS, hT.tok.set0, hT.tok.setS, hT.tok.get, go_sem, ↓reduceIte, Nat.reduceEqDiff, Nat.reduceBEq, Int.reduceToNat, Nat.reduceAdd, Nat.reduceLT, Nat.reduceLeDiff, reduceCtorEq, Nat.reduceSub]) | with_reducible refine Fork.mk (fun _ => ?_) (fun _ => ?_) | with_reducible refine And.intro ?_ ?_ | ((with_reducible show resP _ _ _ _ _); simp (maxSteps := 1000000) -implicitDefEqProofs only [rm4, hT.tok.len, hT.tok.at0, hT.tok.atS, hT.tok.set0, hT.tok.setS, hT.tok.get, push_cast, ↓reduceIte, Nat.reduceEqDiff, reduceCtorEq, Nat.reduceAdd, Nat.reduceLT, Nat.reduceLeDiff]) | (intro _))
    refine h18.mono ?_
    rintro r H' ⟨rfl, J', rfl, hP2, hfr⟩
    have hz' : J'[0]? = some Z2 := (hfr 0 (fun kv hkv => hS.ge kv hkv (N + 0) (by omega))).trans hz
    have hcell := hP2.cell
    rw [hT.tok.atS] at hcell
    have honeP := hP2.ovP.vone
    simp only [V.one] at honeP
    have hcP := hP2.ovP.one
    have honeS := hP2.ovS.vone
    simp only [V.one] at honeS
    have hcS := hP2.ovS.one
    simp only [Z2] at hz'
    have hz1 : ∀ b, (J'.set 0 b)[0]? = some b := fun b => by simp [(List.getElem?_eq_some_iff.1 hz').1]
    simp (maxSteps := 1000000) -implicitDefEqProofs only [e0, e2, e3, hcell, hz', hT.tok.len, hT.tok.at0, hT.tok.atS, hT.tok.set0, hT.tok.setS, hT.tok.get, honeP, hcP, honeS, hcS, go_sem, ↓reduceIte, Nat.reduceEqDiff, Nat.reduceBEq, Int.reduceToNat, Nat.reduceAdd, Nat.reduceLT, Nat.reduceLeDiff, reduceCtorEq, Nat.reduceSub]
    repeat' (first | ((with_reducible show F _ _ (Cfg.code (SCode.qregion _) _ _ _)); refine F_q2 ?_; simp (maxSteps := 1000000) -implicitDefEqProofs only [e0, e2, e3, hcell, hz', hT.tok.len, hT.tok.at0, hT.tok.atS, hT.tok.set0, hT.tok.setS, hT.tok.get, honeP, hcP, honeS, hcS, go_sem, ↓reduceIte, Nat.reduceEqDiff, Nat.reduceBEq, Int.reduceToNat, Nat.reduceAdd, Nat.reduceLT, Nat.reduceLeDiff, reduceCtorEq, Nat.reduceSub]) | ((with_reducible show F _ _ (Cfg.code (SCode.pregion _ _ _ _ _) _ _ _)); refine F_p2 ?_; simp (maxSteps := 1000000) -implicitDefEqProofs only [e0, e2, e3, hcell, hz', hT.tok.len, hT.tok.at0, hT.tok.atS, hT.tok.set0, hT.tok.setS, hT.tok.get, honeP, hcP, honeS, hcS, go_sem, ↓reduceIte, Nat.reduceEqDiff, Nat.reduceBEq, Int.reduceToNat, Nat.reduceAdd, Nat.reduceLT, Nat.reduceLeDiff, reduceCtorEq, Nat.reduceSub]) | with_reducible refine Fork.mk (fun _ => ?_) (fun _ => ?_) | with_reducible refine And.intro ?_ ?_ | ((with_reducible show resP _ _ _ _ _); simp (maxSteps := 1000000) -implicitDefEqProofs only [rm4, hT.tok.len, hT.tok.at0, hT.tok.atS, hT.tok.set0, hT.tok.setS, hT.tok.get, hz1, e2, push_cast, ↓reduceIte, Nat.reduceEqDiff, reduceCtorEq, Nat.reduceAdd, Nat.reduceLT, Nat.reduceLeDiff]) | (intro _))
    all_goals (obtain ⟨X, h1, r2, h2, h3⟩ := fini sid N T hT a' _ J' kvP kvS kvs hP2 hS; simp (maxSteps := 1000000) -implicitDefEqProofs only [push_cast, ↓reduceIte, Nat.reduceEqDiff, reduceCtorEq, Nat.reduceAdd, Nat.reduceLT, Nat.reduceLeDiff] at h2; exact ⟨X, h1, r2, h2, h3⟩)
def P7 : Pla := ⟨[], [.mk 3 ⟨#[97]⟩ em ⟨#[120]⟩ em (.mk 1 7 em []) [] [] em []]⟩
theorem t38 : PCall Tryz.prog 38 [] (· = encPl P7) := by
  refine PCall.intro c38 100 (by simp) 20 ?_
  simp (maxSteps := 1000000) -implicitDefEqProofs only [s38, go_sem, ↓reduceIte, Nat.reduceEqDiff, Nat.reduceBEq, Int.reduceToNat, Nat.reduceAdd, Nat.reduceLT, Nat.reduceLeDiff, reduceCtorEq, Nat.reduceSub]
  simp (maxSteps := 1000000) -implicitDefEqProofs only [r38, push_cast, ↓reduceIte, Nat.reduceEqDiff, reduceCtorEq, Nat.reduceAdd, Nat.reduceLT, Nat.reduceLeDiff]
  simp [P7, encPl, encS_mk, em]
theorem ck7 : ckF P7 = 0 := by
  rw [ck_pl]
  decide
theorem tot7 : total P7 = 1 := by decide
theorem t13 : PCall Tryz.prog 13 [] (· = .bool true) := by
  have h6 := t6 P7 (by rw [tot7]; omega)
  rw [ck7, tot7] at h6
  simp only [if_true] at h6
  refine PCall.intro c13 200 (by simp) 20 ?_
  simp (maxSteps := 1000000) -implicitDefEqProofs only [s13, go_sem, ↓reduceIte, Nat.reduceEqDiff, Nat.reduceBEq, Int.reduceToNat, Nat.reduceAdd, Nat.reduceLT, Nat.reduceLeDiff, reduceCtorEq, Nat.reduceSub]
  repeat' (first | ((with_reducible first | refine cgR t38 ?_ ?_ | refine cgR h6 ?_ ?_); (focus (simp [norefL, noref, norefL_app, norefL_str, norefL_int, norefL_encE, norefL_encS, norefL_encP, noref_encE, noref_encS, noref_encP, noref_encPl]; done)); simp (maxSteps := 1000000) -implicitDefEqProofs only [Int.reduceEq, go_sem, ↓reduceIte, Nat.reduceEqDiff, Nat.reduceBEq, Int.reduceToNat, Nat.reduceAdd, Nat.reduceLT, Nat.reduceLeDiff, reduceCtorEq, Nat.reduceSub]) | ((with_reducible apply cgF); (focus ((simp (maxSteps := 1000000) -implicitDefEqProofs only [List.map_cons, List.map_nil, push_cast, ↓reduceIte, Nat.reduceEqDiff, reduceCtorEq, Nat.reduceAdd, Nat.reduceLT, Nat.reduceLeDiff] <;> rfl); done)); (with_reducible first | exact t38 | exact h6); (focus (rfl; done)); simp (maxSteps := 1000000) -implicitDefEqProofs only [Int.reduceEq, go_sem, ↓reduceIte, Nat.reduceEqDiff, Nat.reduceBEq, Int.reduceToNat, Nat.reduceAdd, Nat.reduceLT, Nat.reduceLeDiff, reduceCtorEq, Nat.reduceSub]) | ((with_reducible show F _ _ (Cfg.code (SCode.qregion _) _ _ _)); refine F_q2 ?_; simp (maxSteps := 1000000) -implicitDefEqProofs only [Int.reduceEq, go_sem, ↓reduceIte, Nat.reduceEqDiff, Nat.reduceBEq, Int.reduceToNat, Nat.reduceAdd, Nat.reduceLT, Nat.reduceLeDiff, reduceCtorEq, Nat.reduceSub]) | ((with_reducible show F _ _ (Cfg.code (SCode.pregion _ _ _ _ _) _ _ _)); refine F_p2 ?_; simp (maxSteps := 1000000) -implicitDefEqProofs only [Int.reduceEq, go_sem, ↓reduceIte, Nat.reduceEqDiff, Nat.reduceBEq, Int.reduceToNat, Nat.reduceAdd, Nat.reduceLT, Nat.reduceLeDiff, reduceCtorEq, Nat.reduceSub]) | with_reducible refine Fork.mk (fun _ => ?_) (fun _ => ?_) | with_reducible refine And.intro ?_ ?_ | ((with_reducible show resP _ _ _ _ _); simp (maxSteps := 1000000) -implicitDefEqProofs only [r13, push_cast, ↓reduceIte, Nat.reduceEqDiff, reduceCtorEq, Nat.reduceAdd, Nat.reduceLT, Nat.reduceLeDiff]) | (intro _))
  all_goals rfl
set_option maxRecDepth 20000 in
set_option maxHeartbeats 8000000 in
theorem t3 (L : List Int) : PCall Tryz.prog 3 [.fs (L.map (.int .i64))] (· = .bool true) := by
  obtain ⟨P, a', k1, k2, k3, k4, k5⟩ := t4 L 0 (by omega)
  have h4 := k5 0 1 _ (MS.base L)
  obtain ⟨n, h5⟩ : ∃ n : Int, MC 5 L a' [.fs (([0, 1, 3, 8, -1, 50] : List Int).map (.int .i64))] (.int .i64 n) (a' + 1) := ⟨_, t5 L a' [0, 1, 3, 8, -1, 50] (by omega) (by simp) (by simp)⟩
  have h5 := h5 0 1 _ (MS.base L)
  simp only [List.map_cons, List.map_nil] at h5
  have ht : total P ≤ 1000000 := by have := total_wPl P; omega
  have h6 := t6 P ht
  have h8 := t8 P ht
  have h9 := t9 P ht
  have h11 := t11 P ht
  have hck := ck_pl P
  rw [← hck] at h8
  simp only [encPl] at h4 h6 h8 h9 h11
  simp only [SB] at h4 h5
  by_cases he : ckF P = 0
  · rw [he] at h6 h8 h11
    simp only [if_true] at h6
    by_cases hn : n < 0 ∨ (total P : Int) ≤ n
    · have h7 := t7r P ht n he hn
      have h10 := t10z P ht n hn
      have h12 := t12r stZ
      simp only [encPl] at h7 h10
      rw [encS_Z] at h7 h10 h12
      refine PCall.intro c3 600 (by simp) 20 ?_
      simp (maxSteps := 1000000) -implicitDefEqProofs only [s3, go_sem, ↓reduceIte, Nat.reduceEqDiff, Nat.reduceBEq, Int.reduceToNat, Nat.reduceAdd, Nat.reduceLT, Nat.reduceLeDiff, reduceCtorEq, Nat.reduceSub]
      repeat' (first | ((with_reducible first | refine cgA h4 ?_ | refine cgA h5 ?_); simp (maxSteps := 1000000) -implicitDefEqProofs only [Int.reduceEq, go_sem, ↓reduceIte, Nat.reduceEqDiff, Nat.reduceBEq, Int.reduceToNat, Nat.reduceAdd, Nat.reduceLT, Nat.reduceLeDiff, reduceCtorEq, Nat.reduceSub]) | ((with_reducible first | refine cgR h6 ?_ ?_ | refine cgR h7 ?_ ?_ | refine cgR h8 ?_ ?_ | refine cgR h9 ?_ ?_ | refine cgR h10 ?_ ?_ | refine cgR h11 ?_ ?_ | refine cgR h12 ?_ ?_ | refine cgR t13 ?_ ?_); (focus (simp [norefL, noref, norefL_app, norefL_str, norefL_int, norefL_encE, norefL_encS, norefL_encP, noref_encE, noref_encS, noref_encP, noref_encPl]; done)); simp (maxSteps := 1000000) -implicitDefEqProofs only [Int.reduceEq, go_sem, ↓reduceIte, Nat.reduceEqDiff, Nat.reduceBEq, Int.reduceToNat, Nat.reduceAdd, Nat.reduceLT, Nat.reduceLeDiff, reduceCtorEq, Nat.reduceSub]) | ((with_reducible apply cgF); (focus ((simp (maxSteps := 1000000) -implicitDefEqProofs only [List.map_cons, List.map_nil, push_cast, ↓reduceIte, Nat.reduceEqDiff, reduceCtorEq, Nat.reduceAdd, Nat.reduceLT, Nat.reduceLeDiff] <;> rfl); done)); (with_reducible first | exact h6 | exact h7 | exact h8 | exact h9 | exact h10 | exact h11 | exact h12 | exact t13); (focus (rfl; done)); simp (maxSteps := 1000000) -implicitDefEqProofs only [Int.reduceEq, go_sem, ↓reduceIte, Nat.reduceEqDiff, Nat.reduceBEq, Int.reduceToNat, Nat.reduceAdd, Nat.reduceLT, Nat.reduceLeDiff, reduceCtorEq, Nat.reduceSub]) | ((with_reducible show F _ _ (Cfg.code (SCode.qregion _) _ _ _)); refine F_q2 ?_; simp (maxSteps := 1000000) -implicitDefEqProofs only [Int.reduceEq, go_sem, ↓reduceIte, Nat.reduceEqDiff, Nat.reduceBEq, Int.reduceToNat, Nat.reduceAdd, Nat.reduceLT, Nat.reduceLeDiff, reduceCtorEq, Nat.reduceSub]) | ((with_reducible show F _ _ (Cfg.code (SCode.pregion _ _ _ _ _) _ _ _)); refine F_p2 ?_; simp (maxSteps := 1000000) -implicitDefEqProofs only [Int.reduceEq, go_sem, ↓reduceIte, Nat.reduceEqDiff, Nat.reduceBEq, Int.reduceToNat, Nat.reduceAdd, Nat.reduceLT, Nat.reduceLeDiff, reduceCtorEq, Nat.reduceSub]) | with_reducible refine Fork.mk (fun _ => ?_) (fun _ => ?_) | with_reducible refine And.intro ?_ ?_ | ((with_reducible show resP _ _ _ _ _); simp (maxSteps := 1000000) -implicitDefEqProofs only [r3, push_cast, ↓reduceIte, Nat.reduceEqDiff, reduceCtorEq, Nat.reduceAdd, Nat.reduceLT, Nat.reduceLeDiff]) | (intro _))
    · obtain ⟨i, rfl⟩ : ∃ i : Nat, n = i := ⟨n.toNat, by omega⟩
      have hi : i < (spots P).length := by rw [spots_length]; omega
      obtain ⟨pre, y, post, hy, hpl⟩ : ∃ pre y post, spots P = pre ++ y :: post ∧ pre.length = i := ⟨(spots P).take i, (spots P)[i], (spots P).drop (i + 1), by rw [← List.drop_eq_getElem_cons hi, List.take_append_drop], by simp; omega⟩
      subst hpl
      have h7 := t7s P (by omega) (by omega) he pre post y hy
      have h10 := t10 P ht pre post y hy
      have h12 := t12r y.1
      simp only [encPl] at h7 h10
      generalize y.1 = st at *
      generalize keyOf P y.2.1 = key at *
      obtain ⟨k, r, t, vv, l, ⟨ek, en, es, eas⟩, sa, sb, p, ps⟩ := st
      rw [encS_mk] at h7 h10 h12
      refine PCall.intro c3 600 (by simp) 20 ?_
      simp (maxSteps := 1000000) -implicitDefEqProofs only [s3, go_sem, ↓reduceIte, Nat.reduceEqDiff, Nat.reduceBEq, Int.reduceToNat, Nat.reduceAdd, Nat.reduceLT, Nat.reduceLeDiff, reduceCtorEq, Nat.reduceSub]
      repeat' (first | ((with_reducible first | refine cgA h4 ?_ | refine cgA h5 ?_); simp (maxSteps := 1000000) -implicitDefEqProofs only [Int.reduceEq, go_sem, ↓reduceIte, Nat.reduceEqDiff, Nat.reduceBEq, Int.reduceToNat, Nat.reduceAdd, Nat.reduceLT, Nat.reduceLeDiff, reduceCtorEq, Nat.reduceSub]) | ((with_reducible first | refine cgR h6 ?_ ?_ | refine cgR h7 ?_ ?_ | refine cgR h8 ?_ ?_ | refine cgR h9 ?_ ?_ | refine cgR h10 ?_ ?_ | refine cgR h11 ?_ ?_ | refine cgR h12 ?_ ?_ | refine cgR t13 ?_ ?_); (focus (simp [norefL, noref, norefL_app, norefL_str, norefL_int, norefL_encE, norefL_encS, norefL_encP, noref_encE, noref_encS, noref_encP, noref_encPl]; done)); simp (maxSteps := 1000000) -implicitDefEqProofs only [Int.reduceEq, go_sem, ↓reduceIte, Nat.reduceEqDiff, Nat.reduceBEq, Int.reduceToNat, Nat.reduceAdd, Nat.reduceLT, Nat.reduceLeDiff, reduceCtorEq, Nat.reduceSub]) | ((with_reducible apply cgF); (focus ((simp (maxSteps := 1000000) -implicitDefEqProofs only [List.map_cons, List.map_nil, push_cast, ↓reduceIte, Nat.reduceEqDiff, reduceCtorEq, Nat.reduceAdd, Nat.reduceLT, Nat.reduceLeDiff] <;> rfl); done)); (with_reducible first | exact h6 | exact h7 | exact h8 | exact h9 | exact h10 | exact h11 | exact h12 | exact t13); (focus (rfl; done)); simp (maxSteps := 1000000) -implicitDefEqProofs only [Int.reduceEq, go_sem, ↓reduceIte, Nat.reduceEqDiff, Nat.reduceBEq, Int.reduceToNat, Nat.reduceAdd, Nat.reduceLT, Nat.reduceLeDiff, reduceCtorEq, Nat.reduceSub]) | ((with_reducible show F _ _ (Cfg.code (SCode.qregion _) _ _ _)); refine F_q2 ?_; simp (maxSteps := 1000000) -implicitDefEqProofs only [Int.reduceEq, go_sem, ↓reduceIte, Nat.reduceEqDiff, Nat.reduceBEq, Int.reduceToNat, Nat.reduceAdd, Nat.reduceLT, Nat.reduceLeDiff, reduceCtorEq, Nat.reduceSub]) | ((with_reducible show F _ _ (Cfg.code (SCode.pregion _ _ _ _ _) _ _ _)); refine F_p2 ?_; simp (maxSteps := 1000000) -implicitDefEqProofs only [Int.reduceEq, go_sem, ↓reduceIte, Nat.reduceEqDiff, Nat.reduceBEq, Int.reduceToNat, Nat.reduceAdd, Nat.reduceLT, Nat.reduceLeDiff, reduceCtorEq, Nat.reduceSub]) | with_reducible refine Fork.mk (fun _ => ?_) (fun _ => ?_) | with_reducible refine And.intro ?_ ?_ | ((with_reducible show resP _ _ _ _ _); simp (maxSteps := 1000000) -implicitDefEqProofs only [r3, push_cast, ↓reduceIte, Nat.reduceEqDiff, reduceCtorEq, Nat.reduceAdd, Nat.reduceLT, Nat.reduceLeDiff]) | (intro _))
  · have h7 := t7e P ht n he
    have h12 := t12r stZ
    simp only [encPl] at h7
    rw [encS_Z] at h7 h12
    rw [if_neg he] at h6
    generalize ckF P = c at *
    refine PCall.intro c3 600 (by simp) 20 ?_
    simp (maxSteps := 1000000) -implicitDefEqProofs only [s3, go_sem, ↓reduceIte, Nat.reduceEqDiff, Nat.reduceBEq, Int.reduceToNat, Nat.reduceAdd, Nat.reduceLT, Nat.reduceLeDiff, reduceCtorEq, Nat.reduceSub]
    repeat' (first | ((with_reducible first | refine cgA h4 ?_ | refine cgA h5 ?_); simp (maxSteps := 1000000) -implicitDefEqProofs only [Int.reduceEq, he, go_sem, ↓reduceIte, Nat.reduceEqDiff, Nat.reduceBEq, Int.reduceToNat, Nat.reduceAdd, Nat.reduceLT, Nat.reduceLeDiff, reduceCtorEq, Nat.reduceSub]) | ((with_reducible first | refine cgR h6 ?_ ?_ | refine cgR h7 ?_ ?_ | refine cgR h8 ?_ ?_ | refine cgR h9 ?_ ?_ | refine cgR h11 ?_ ?_ | refine cgR h12 ?_ ?_ | refine cgR t13 ?_ ?_); (focus (simp [norefL, noref, norefL_app, norefL_str, norefL_int, norefL_encE, norefL_encS, norefL_encP, noref_encE, noref_encS, noref_encP, noref_encPl]; done)); simp (maxSteps := 1000000) -implicitDefEqProofs only [Int.reduceEq, he, go_sem, ↓reduceIte, Nat.reduceEqDiff, Nat.reduceBEq, Int.reduceToNat, Nat.reduceAdd, Nat.reduceLT, Nat.reduceLeDiff, reduceCtorEq, Nat.reduceSub]) | ((with_reducible apply cgF); (focus ((simp (maxSteps := 1000000) -implicitDefEqProofs only [List.map_cons, List.map_nil, push_cast, ↓reduceIte, Nat.reduceEqDiff, reduceCtorEq, Nat.reduceAdd, Nat.reduceLT, Nat.reduceLeDiff] <;> rfl); done)); (with_reducible first | exact h6 | exact h7 | exact h8 | exact h9 | exact h11 | exact h12 | exact t13); (focus (rfl; done)); simp (maxSteps := 1000000) -implicitDefEqProofs only [Int.reduceEq, he, go_sem, ↓reduceIte, Nat.reduceEqDiff, Nat.reduceBEq, Int.reduceToNat, Nat.reduceAdd, Nat.reduceLT, Nat.reduceLeDiff, reduceCtorEq, Nat.reduceSub]) | ((with_reducible show F _ _ (Cfg.code (SCode.qregion _) _ _ _)); refine F_q2 ?_; simp (maxSteps := 1000000) -implicitDefEqProofs only [Int.reduceEq, he, go_sem, ↓reduceIte, Nat.reduceEqDiff, Nat.reduceBEq, Int.reduceToNat, Nat.reduceAdd, Nat.reduceLT, Nat.reduceLeDiff, reduceCtorEq, Nat.reduceSub]) | ((with_reducible show F _ _ (Cfg.code (SCode.pregion _ _ _ _ _) _ _ _)); refine F_p2 ?_; simp (maxSteps := 1000000) -implicitDefEqProofs only [Int.reduceEq, he, go_sem, ↓reduceIte, Nat.reduceEqDiff, Nat.reduceBEq, Int.reduceToNat, Nat.reduceAdd, Nat.reduceLT, Nat.reduceLeDiff, reduceCtorEq, Nat.reduceSub]) | with_reducible refine Fork.mk (fun _ => ?_) (fun _ => ?_) | with_reducible refine And.intro ?_ ?_ | ((with_reducible show resP _ _ _ _ _); simp (maxSteps := 1000000) -implicitDefEqProofs only [r3, push_cast, ↓reduceIte, Nat.reduceEqDiff, reduceCtorEq, Nat.reduceAdd, Nat.reduceLT, Nat.reduceLeDiff]) | (intro _))
end Go.Proofs.YteoboibjepokoaaGreatDoor.Av
namespace Go.Proofs.YteoboibjepokoaaGreatDoor.Av
open Go.ChangeShapes Go.WideShapes Go.ChangeAt Go.RowKit
theorem own : ownKnob Tryz.prog.godebug = none := by kernel_rfl
theorem laidOut : laidOutB Tryz.prog = true := by kernel_rfl
theorem cells3 : Tryz.prog.cellsOf 3 = 1 := by kernel_rfl
theorem rep_ints {W : World} {a : Option Addr} {len cap : Nat} {zs : List Int} (hz : zs.length = len) (hl : len ≤ cap) (hm : cap ≤ maxLen) (h : zs = [] ∨ ∃ b o, a = some ⟨b, o, none⟩ ∧ ∀ i, i < zs.length → W.cell? ⟨b, o + i, none⟩ = some (.int .i64 (zs.getD i 0))) :
    Rep [] (fun b => W.heap[b]?) (.fs (zs.map (.int .i64))) (.slice a len cap) := by
  simp only [Rep]
  refine ⟨a, cap, by simp [hz], by simpa [hz] using hl, hm, ?_⟩
  rcases h with rfl | ⟨b, o, rfl, h⟩
  · exact .inl rfl
  · refine .inr ⟨b, o, 1, rfl, ?_⟩
    rw [elemsG_iff]
    intro i e he
    have hi : i < zs.length := by have := (List.getElem?_eq_some_iff.1 he).1; simpa using this
    have he' : e = .int .i64 (zs.getD i 0) := by
      simp [hi, List.getD] at he ⊢; exact he.symm
    subst he'
    refine ⟨by simp [cellsV], fun j c hj => ?_⟩
    obtain rfl : j = 0 := by
      have := (List.getElem?_eq_some_iff.1 hj).1
      simp [cellsV] at this; exact this
    simp [cellsV] at hj
    subst hj
    refine ⟨.int .i64 (zs.getD i 0), ?_, by simp [Rep]⟩
    have hc := h i hi
    simp only [World.cell?] at hc
    simp only [icell, Nat.mul_one, Nat.add_zero]
    generalize W.heap[b]? = ob at *
    cases ob with
    | none => simp at hc
    | some ob => cases ob <;> simp_all
end Go.Proofs.YteoboibjepokoaaGreatDoor.Av
namespace Go.Proofs.YteoboibjepokoaaGreatDoor.Av
open Go.ChangeShapes Go.WideShapes Go.ChangeAt Go.RowKit
set_option maxRecDepth 100000 in
theorem contract (H : Type) (enc : TypeId × Value → H) (W : World) (base : Nat) (args : Array Value) (ds gs : List (DataW H)) (before : List MemPlace)
    (hval : ∀ (j : Nat) t v, Tryz.f3.params[j]? = some t → args[j]? = some v → Value.okWide Tryz.prog W .any base t v)
    (hW : DataW.Whole enc Tryz.prog Tryz.f3.params.toList Rows.playsCheckedSpec.vars false W args.toList ds gs before) :
    Calls Tryz.prog 3 args W fun e W' => ∃ v, e = .returned v ∧ Rows.playsCheckedSpec.post enc Tryz.prog Tryz.f3 false true false false W args v W' := by
  have hW' := hW
  obtain ⟨p, q, hA0, hV, rfl, hfz, hnd⟩ := hW
  have hA : DataW.TrodAll enc Tryz.prog W 0 (fun _ => true) true Tryz.f3.params.toList args.toList ds p := hA0
  rw [Tryz.params3] at hA hval
  obtain ⟨v0, d0, rfl, rfl, h0⟩ := trodAll_one hA
  obtain ⟨rfl, rfl⟩ := trodVars_none hV
  obtain ⟨a0, len, cap, rfl⟩ := okWide_slice Tryz.underlying22 (hval 0 22 v0 rfl rfl)
  have h0k := h0
  obtain ⟨fuel0, hf⟩ := h0
  clear hA0 hA
  simp only [List.append_nil] at hW'
  have hlt : ∀ x ∈ p, x.block < W.heap.size := fun x hx => by simpa using hW'.lt x hx
  have hargs : ∀ (W' : World), Below W.heap.size W W' → DataW.Trod enc Tryz.prog W' 0 (fun b => decide (b < W.heap.size)) true 22 (.slice a0 len cap) d0 p :=
    fun W' hn => Below.trod laidOut (by kernel_rfl) (of_decide_eq_true (by kernel_rfl)) h0k hn hlt
  have hrep : ∃ L : List Int, Rep [] (fun b => W.heap[b]?) (.fs (L.map (.int .i64))) (.slice a0 len cap) := by
    rcases open_ints Tryz.underlying22 Tryz.underlying3 cells3 hf with ⟨hcs, hx⟩ | ⟨a, len', cap', zs, hcs, _, hl, hm, hz, hx, hcell, hwz⟩
    · simp [Value.cells] at hcs
      obtain ⟨rfl, rfl, rfl⟩ := hcs
      exact ⟨[], rep_ints (zs := []) rfl (Nat.le_refl _) (by decide) (.inl rfl)⟩
    · simp [Value.cells] at hcs
      obtain ⟨rfl, rfl, rfl⟩ := hcs
      simp only [if_true] at hz
      obtain ⟨b, off, spot⟩ := a
      by_cases hl0 : len = 0
      · subst hl0
        exact ⟨[], rep_ints (zs := []) rfl (Nat.zero_le _) hm (.inl rfl)⟩
      · have hspot : spot = none := by simpa [Addr.add] using World.cell?_spot (hcell 0 (by omega))
        subst hspot
        refine ⟨zs.take len, rep_ints (by rw [List.length_take]; omega) hl hm (.inr ⟨b, off, rfl, fun i hi => ?_⟩)⟩
        rw [List.length_take] at hi
        have := hcell i (by omega)
        rw [add_plain] at this
        rw [this]
        simp [List.getD, List.getElem?_take, show i < len by omega]
  obtain ⟨L, hrep⟩ := hrep
  obtain ⟨_, hcall⟩ := t3 L
  refine (hcall (fun b => W.heap[b]?) W #[.slice a0 len cap] (fun b o h => h) (by simp only [RepL]; exact ⟨_, [], rfl, hrep, rfl⟩)).mono ?_
  rintro e W' ⟨r, v, I', rfl, rfl, _, _, _, hr, hB⟩
  simp only [Rep] at hr
  subst hr
  refine ⟨_, rfl, _, _, _, [], p, [], hW', ?_, ?_, ?_, hB.frame _, fun h => by cases h⟩
  · exact trodAll_mk1 (shut_bool Tryz.underlying4 _)
  · exact trodAll_mk1 (hargs W' hB)
  · rfl
end Go.Proofs.YteoboibjepokoaaGreatDoor.Av
namespace Go.Proofs.YteoboibjepokoaaGreatDoor.Av
open Go.ChangeShapes Go.WideShapes Go.ChangeAt Go.RowKit
set_option maxRecDepth 100000 in
theorem lifted (os : Os) (started : os.Started) (H : Type) (enc : TypeId × Value → H) :
    ReturnsInHanded {} Tryz.checked os 3 .any (fun w args => (Rows.playsCheckedSpec.pre enc Tryz.prog Tryz.f3 Rows.playsCheckedRow.domain false w args ∧ laidMetH Tryz.prog Rows.playsCheckedRow.laid w) ∧ sizedMet enc Tryz.prog Tryz.f3 (OpenSpec.ofChange Rows.playsCheckedSpec) false w args)
      (Rows.playsCheckedSpec.post enc Tryz.prog Tryz.f3 false true false false) := by
  refine returnsInHanded_of_change_and (C := Tryz.checked) (X := fun w _ => laidMetH Tryz.prog Rows.playsCheckedRow.laid w) (fun _ _ _ hh h => h.of_heap hh) own started (by kernel_rfl) Tryz.func3
    (ChangeSpec.witness_shaped (enc := enc) (C := Tryz.checked) (os := os) (X := fun w _ => laidMetH Tryz.prog Rows.playsCheckedRow.laid w) false (World.laidAll Tryz.prog os Rows.playsCheckedRow.laid) #[.slice none 0 0] 8 (World.laidAll_os _ _ _)
      (World.shaped_of_ZipB (by kernel_rfl) (by kernel_rfl)) (by kernel_rfl) (by kernel_rfl) (by kernel_rfl)
      (by rw [MakeChecks.laidMetH_plain _ _ _ (by kernel_rfl)]; exact laidMet_laidAll _ (by kernel_rfl) (by kernel_rfl))) ?_
  intro W base args ds gs before hval hW _ _ _ _
  exact contract H enc W base args ds gs before hval hW
theorem said : Rows.PlaysCheckedSaid :=
  OpenClaim.holds_of_wide 3 Tryz.f3 rfl rfl rfl rfl rfl rfl rfl ⟨rfl, rfl, rfl, rfl, rfl⟩ rfl rfl rfl rfl rfl (by kernel_rfl) Tryz.func3 (by kernel_rfl)
    (of_decide_eq_true (by kernel_rfl)) (by unfold Func.isWrapper; first | (rw [if_pos (by decide +kernel)]; kernel_rfl) | (rw [if_neg (by decide +kernel)]; exact ⟨rfl, rfl⟩))
    (fun os started H enc _ => lifted os started H enc)
theorem plainT (f : FuncId) (fn : Func) (hf : Tryz.pinned.checked.prog.funcNamed "promptbook/pblaw2.PlaysChecked" = some f) (hfn : Tryz.pinned.checked.prog.funcs[f]? = some fn) :
    false = Tryz.pinned.checked.prog.looks [] ∧ ∀ (j : Nat) t, fn.params[j]? = some t → Tryz.pinned.checked.prog.wantsStandIn t = false := by
  obtain rfl : f = 3 := Option.some.inj ((show Tryz.prog.funcNamed "promptbook/pblaw2.PlaysChecked" = some 3 by kernel_rfl).symm.trans hf) |>.symm
  obtain rfl : fn = Tryz.f3 := (Option.some.inj (Tryz.func3.symm.trans hfn)).symm
  refine ⟨by kernel_rfl, fun j t ht => ?_⟩
  rw [Tryz.params3] at ht
  obtain rfl : t = 22 := by simpa using Array.mem_of_getElem? ht
  exact (show Tryz.prog.wantsStandIn 22 = false by kernel_rfl)
end Go.Proofs.YteoboibjepokoaaGreatDoor.Av
namespace Go.Proofs.YteoboibjepokoaaGreatDoor
theorem card_holds : Rows.PlaysCheckedCardSaid :=
  Claim7.holds_tied_plain_at .later [] _ _ _ _ Av.said (fun _ h => by cases h) (by kernel_rfl) (fun _ h => by cases h) playsChecked_row_tie rfl ⟨rfl, rfl⟩ (by kernel_rfl) rfl Av.plainT (by kernel_rfl)
#print axioms card_holds
end Go.Proofs.YteoboibjepokoaaGreatDoor
