/- Proved: for every list of numbers the law PlaysChecked answers true and leaves its argument as it was (the tied card); no condition beyond the row's own. Text 3 of 14. -/
import Derived.Test.YteoboibjepokoaaGreatDoorW2
set_option linter.unusedVariables false
set_option linter.unusedSimpArgs false
set_option linter.unusedSectionVars false
set_option linter.all false
namespace Go.Proofs.YteoboibjepokoaaGreatDoor.Av
open Go.RowKit
def conf (a b : QO) : Bool :=   -- a stands before b in the text
  match a.o.dst with
  | some t => b.tmps.contains t || b.o.dst == some t || (match b.o.dst with | some u => a.tmps.contains u | none => false)
  | none => match b.o.dst with
    | some u => a.tmps.contains u
    | none => false
def edgeOK (all : Array Oper) (ss : List QO) (j : Nat) : Bool :=
  match all[j]?, ss[j]? with
  | some o, some q => o.after.toList.all (fun e => !Region.binds .any e || decide (e.on < j)) &&
      (List.range ss.length).all (fun i => !q.bs.testBit i || o.after.toList.any (fun e => Region.binds .any e && (e.on == i || (match ss[e.on]? with | some p => p.bs.testBit i | none => false))))
  | _, _ => false
def confOK (ss : List QO) (j : Nat) : Bool :=
  match ss[j]? with
  | some q => (List.range j).all fun i => match ss[i]? with
    | some p => !conf p q || q.bs.testBit i
    | none => false
  | none => false
def rankOK (ss : List QO) (j : Nat) : Bool :=
  match ss[j]? with
  | some q => match q.ld with
    | true => rk ss j == 0 || (List.range j).any fun i => match ss[i]? with
      | some p => p.ld && rk ss i + 1 == rk ss j && q.bs.testBit i
      | none => false
    | false => decide (q.lo ≤ rk ss j) && decide (rk ss j ≤ q.hi) && (q.lo == 0 || (List.range j).any fun i => match ss[i]? with
        | some p => p.ld && rk ss i + 1 == q.lo && q.bs.testBit i
        | none => false) &&
      (decide (rk ss ss.length ≤ q.hi) || (List.range ss.length).any fun i => match ss[i]? with
        | some p => p.ld && rk ss i == q.hi && p.bs.testBit j
        | none => false)
  | none => false
def chkQ (P : Program) (nt : Nat) (all : Array Oper) (ss : List QO) : Bool :=
  chkOps P nt all all.toList (ss.map (·.o)) && (List.range ss.length).all fun j => edgeOK all ss j && confOK ss j && rankOK ss j
section
variable {P : Program} {all : Array Oper} {ss : List QO}
def Closed (all : Array Oper) (N : Nat) (S : Nat → Prop) : Prop := ∀ (j : Nat) o, j < N → S j → all[j]? = some o → ∀ e ∈ o.after, Region.binds .any e = true → S e.on
theorem closed_bs {N : Nat} {S : Nat → Prop} (hN : ss.length = N) (hE : ∀ j, j < N → edgeOK all ss j = true) (hC : Closed all N S) : ∀ (j : Nat), j < N → ∀ q o, ss[j]? = some q → all[j]? = some o →
    (∀ e ∈ o.after, Region.binds .any e = true → S e.on) → ∀ i, i < N → q.bs.testBit i = true → S i := by
  intro j
  induction j using Nat.strongRecOn with
  | _ j ih =>
    intro hj q o hq ho hpre i hi hb
    have h := hE j hj
    simp only [edgeOK, ho, hq, Bool.and_eq_true, List.all_eq_true, List.mem_range, hN] at h
    obtain ⟨h1, h2⟩ := h
    have h3 := h2 i hi
    simp only [hb, Bool.not_true, Bool.false_or, List.any_eq_true, Bool.and_eq_true, Bool.or_eq_true, beq_iff_eq] at h3
    obtain ⟨e, he, hbind, h3⟩ := h3
    have he' : e ∈ o.after := by simpa using he
    rcases h3 with rfl | h3
    · exact hpre e he' hbind
    · have hlt : e.on < j := by
        have := h1 e he
        simpa [hbind] using this
      have hSe := hpre e he' hbind
      split at h3
      · rename_i p hp
        have hjN : e.on < N := by omega
        have hall : e.on < all.size := by
          have := hE e.on hjN
          unfold edgeOK at this
          cases ha : all[e.on]? with
          | none => rw [ha] at this; simp at this
          | some _ => exact (Array.getElem?_eq_some_iff.1 ha).1
        exact ih e.on hlt hjN p (all[e.on]) hp (by simp [hall]) (hC e.on _ hjN hSe (by simp [hall])) i hi h3
      · cases h3
noncomputable def eS (ss : List QO) (tr : List (Env × V)) (e0 : Env) (L : Nat → Bool) : Nat → Env
  | 0 => e0
  | k + 1 => match L k, ss[k]? with
    | true, some q => updO (eS ss tr e0 L k) q.o.dst (vsOf tr k)
    | _, _ => eS ss tr e0 L k
theorem updO_ne {e : Env} {d : Option Nat} {v : V} {t : Nat} (h : d ≠ some t) : updO e d v t = e t := by
  cases d with
  | none => rfl
  | some d =>
    show (if t = d then v else e t) = e t
    rw [if_neg (fun hh => h (by rw [hh]))]
theorem conf_of {p q : QO} {t : Nat} (h : conf p q = false) : (p.o.dst = some t → t ∉ q.tmps ∧ q.o.dst ≠ some t) ∧ (q.o.dst = some t → t ∉ p.tmps ∧ p.o.dst ≠ some t) := by
  unfold conf at h
  constructor
  · intro hp
    rw [hp] at h
    simp only [Bool.or_eq_false_iff] at h
    obtain ⟨⟨h1, h2⟩, _⟩ := h
    exact ⟨by simpa using h1, by simpa using h2⟩
  · intro hq
    cases hd : p.o.dst with
    | none => rw [hd, hq] at h; exact ⟨by simpa using h, by simp⟩
    | some u =>
      rw [hd, hq] at h
      simp only [Bool.or_eq_false_iff] at h
      obtain ⟨⟨_, h2⟩, h3⟩ := h
      refine ⟨by simpa using h3, ?_⟩
      intro hh
      cases hh
      simp at h2
def un (L : Nat → Bool) : Nat → Nat
  | 0 => 0
  | k + 1 => un L k + (if L k then 0 else 1)
theorem un_set {L : Nat → Bool} {i : Nat} (h : L i = false) : ∀ k, un L k = un (fun j => if j = i then true else L j) k + (if i < k then 1 else 0)
  | 0 => by simp [un]
  | k + 1 => by
    have := un_set h k
    simp only [un]
    by_cases hk : k = i
    · subst hk
      rw [if_neg (Nat.lt_irrefl k)] at this
      have e1 : (if L k = true then 0 else 1) = 1 := if_neg (by simp [h])
      have e2 : (if (if k = k then true else L k) = true then 0 else 1) = 0 := if_pos (if_pos rfl)
      have e3 : (if k < k + 1 then 1 else 0) = 1 := if_pos (by omega)
      omega
    · simp only [hk, if_false]
      by_cases hik : i < k
      · rw [if_pos hik] at this; rw [if_pos (show i < k + 1 by omega)]; omega
      · rw [if_neg hik] at this; rw [if_neg (show ¬ i < k + 1 by omega)]; omega
theorem un_zero {L : Nat → Bool} : ∀ k, un L k = 0 → ∀ i, i < k → L i = true
  | k + 1, h, i, hi => by
    simp only [un] at h
    by_cases hik : i = k
    · subst hik
      cases hL : L i with
      | true => rfl
      | false => rw [hL] at h; simp at h
    · exact un_zero k (by omega) i (by omega)
theorem rk_exists : ∀ (k r : Nat), r < rk ss k → ∃ (i : Nat) (p : QO), i < k ∧ ss[i]? = some p ∧ p.ld = true ∧ rk ss i = r
  | 0, r, h => by rw [rk_zero] at h; omega
  | k + 1, r, h => by
    cases hk : ss[k]? with
    | none =>
      have : rk ss (k + 1) = rk ss k := by
        unfold rk; rw [List.take_add_one, hk]; simp
      obtain ⟨i, p, h1, h2⟩ := rk_exists k r (by omega)
      exact ⟨i, p, by omega, h2⟩
    | some q =>
      rw [rk_succ hk] at h
      by_cases hr : r < rk ss k
      · obtain ⟨i, p, h1, h2⟩ := rk_exists k r hr
        exact ⟨i, p, by omega, h2⟩
      · cases hq : q.ld with
        | true => rw [hq] at h; simp at h; exact ⟨k, q, by omega, hk, hq, by omega⟩
        | false => rw [hq] at h; simp at h; omega
theorem any_sound {R : (Nat → Bool) → Fr → Act → Prop} {B : List Pl} {I : IM} {nt : Nat} {Q : Exit → Act → World → Prop} {tr : List (Env × V)} {e0 e' : Env} {H0 : List Blk} {Hs : List (List Blk)} {H' : List Blk}
    (hN : ss.length ≤ all.size) (hops : chkOps P nt all (all.toList.take ss.length) (ss.map (·.o)) = true) (hE : ∀ j, j < ss.length → edgeOK all ss j = true) (hCf : ∀ j, j < ss.length → confOK ss j = true) (hR : ∀ j, j < ss.length → rankOK ss j = true)
    (hlast : ∀ (j : Nat) (o : Oper), all[j]? = some o → ss.length ≤ j → ∀ i, i < ss.length → ∃ e ∈ o.after, Region.binds .any e = true ∧ e.on = i)
    (hGR : GR P ss e0 H0 tr Hs e' H') (hstab : stabL P ss tr (H0 :: Hs))
    (hJg : ∀ (j : Nat) (q : QO), ss[j]? = some q → q.o.op = .jalloc → q.o.guard = none)
    (hR1 : ∀ (L : Nat → Bool) (f : Fr) (a : Act) (j : Nat) (q : QO) (v : Value), ss[j]? = some q → L j = false → q.o.op ≠ .jalloc → R L f a → R (fun i => if i = j then true else L i) f (a.put q.o.dst v))
    (hR2 : ∀ (L : Nat → Bool) (f : Fr) (a : Act) (j : Nat) (q : QO) (o : Oper) (B : List Pl) (I : IM) (w : World) (H : List Blk), ss[j]? = some q → all[j]? = some o → L j = false → chkOper P nt all o q.o = true → q.o.op = .jalloc → R L f a → Sim f B I w H → a.tmps.size = nt →
      ∃ v w' f', (execOp a.eval o).run P w = .ok (.value v) w' ∧ Sim f' B I w' H ∧ R (fun i => if i = j then true else L i) f' (a.put q.o.dst v))
    (hQ : ∀ (f : Fr) (B' : List Pl) (I' : IM) (a : Act) (w : World) (fuel : Nat) (listed : Array Bool), R (fun i => listed.getD i false) f a → Sim f B' I' w H' → BLe B B' → ILe I I' → REnv B' I' e' a.tmps → a.defers = [] → a.tmps.size = nt → listed.size = all.size →
      (∀ i, i < ss.length → listed.getD i false = true) → (∀ i, ss.length ≤ i → listed.getD i false = false) → all.size ≤ ss.length + fuel → wpAny P .any all Q fuel listed a w) :
    ∀ (fuel : Nat) (listed : Array Bool) (q0 : Nat) (f : Fr) (B' : List Pl) (I' : IM) (a : Act) (w : World), listed.size = all.size → (Closed all ss.length fun i => listed.getD i false = true) → (∀ i, ss.length ≤ i → listed.getD i false = false) →
      (∀ (i : Nat) p, ss[i]? = some p → p.ld = true → (listed.getD i false = true ↔ rk ss i < q0)) → q0 ≤ rk ss ss.length →
      un (fun i => listed.getD i false) ss.length + (all.size - ss.length) ≤ fuel → R (fun i => listed.getD i false) f a →
      Sim f B' I' w ((H0 :: Hs).getD q0 []) → BLe B B' → ILe I I' → REnv B' I' (eS ss tr e0 (fun i => listed.getD i false) ss.length) a.tmps → a.defers = [] → a.tmps.size = nt → wpAny P .any all Q fuel listed a w := by
  have hchk : ∀ (j : Nat) o q, all[j]? = some o → ss[j]? = some q → chkOper P nt all o q.o = true := by
    have : ∀ (l : List Oper) (m : List SOper), chkOps P nt all l m = true → ∀ (j : Nat) o s, l[j]? = some o → m[j]? = some s → chkOper P nt all o s = true := by
      intro l
      induction l with
      | nil => intro m _ j o s h; simp at h
      | cons x l ih => intro m h j o s h1 h2; cases m with
        | nil => simp at h2
        | cons y m =>
          simp only [chkOps, Bool.and_eq_true] at h
          cases j with
          | zero => simp at h1 h2; subst h1; subst h2; exact h.1
          | succ j => exact ih m h.2 j o s (by simpa using h1) (by simpa using h2)
    intro j o q h1 h2
    have hj : j < ss.length := (List.getElem?_eq_some_iff.1 h2).1
    exact this _ _ hops j o q.o (by rw [List.getElem?_take, if_pos hj]; simpa using h1) (by simp [h2])
  have htl := hGR.length
  have agree : ∀ (L : Nat → Bool), (Closed all ss.length fun i => L i = true) → ∀ (j : Nat) q o, ss[j]? = some q → all[j]? = some o → L j = false → (∀ e ∈ o.after, Region.binds .any e = true → L e.on = true) →
      ∀ t ∈ q.tmps, eS ss tr e0 L ss.length t = esOf tr e' j t := by
    intro L hcl j q o hq ho hLj hpre t ht
    have hjN : j < ss.length := (List.getElem?_eq_some_iff.1 hq).1
    have key : ∀ k, k ≤ ss.length → eS ss tr e0 L k t = esOf tr e' (min k j) t := by
      intro k
      induction k with
      | zero => intro _; rw [Nat.zero_min, hGR.at0]; rfl
      | succ k ih =>
        intro hk
        have ih' := ih (by omega)
        obtain ⟨p, hp⟩ : ∃ p, ss[k]? = some p := ⟨ss[k], List.getElem?_eq_getElem (by omega)⟩
        simp only [eS, hp]
        rcases Nat.lt_trichotomy k j with hkj | hkj | hkj
        · have hstep := (hGR.step k p hp).2
          rw [show min (k + 1) j = k + 1 by omega, hstep]
          rw [show min k j = k by omega] at ih'
          cases hL : L k with
          | true =>
            simp only
            by_cases hd : p.o.dst = some t
            · rw [hd]; simp [updO, upd]
            · rw [updO_ne hd, updO_ne hd]; exact ih'
          | false =>
            simp only
            have hno : p.o.dst ≠ some t := by
              intro hd
              have hc := hCf j hjN
              simp only [confOK, hq, List.all_eq_true, List.mem_range] at hc
              have hc := hc k hkj
              rw [hp] at hc
              simp only [Bool.or_eq_true, Bool.not_eq_true'] at hc
              rcases hc with hc | hc
              · exact ((conf_of hc).1 hd).1 ht
              · have := closed_bs rfl hE hcl j hjN q o hq ho hpre k (by omega) hc
                rw [hL] at this; cases this
            rw [updO_ne hno]; exact ih'
        · subst hkj
          rw [hLj]
          rw [show min (k + 1) k = min k k by omega]; exact ih'
        · rw [show min (k + 1) j = min k j by omega, ← ih']
          cases hL : L k with
          | false => rfl
          | true =>
            simp only
            have hno : p.o.dst ≠ some t := by
              intro hd
              have hkN : k < ss.length := by omega
              have hc := hCf k hkN
              simp only [confOK, hp, List.all_eq_true, List.mem_range] at hc
              have hc := hc j hkj
              rw [hq] at hc
              simp only [Bool.or_eq_true, Bool.not_eq_true'] at hc
              rcases hc with hc | hc
              · exact ((conf_of hc).2 hd).1 ht
              · have hka : k < all.size := by omega
                have := closed_bs rfl hE hcl k hkN p all[k] hp (by simp [hka]) (hcl k _ hkN hL (by simp [hka])) j hjN hc
                rw [hLj] at this; cases this
            rw [updO_ne hno]
    have := key ss.length (Nat.le_refl _)
    rwa [show min ss.length j = j by omega] at this
  have after : ∀ (L : Nat → Bool), (Closed all ss.length fun i => L i = true) → ∀ (j : Nat) q o, ss[j]? = some q → all[j]? = some o → L j = false →
      eS ss tr e0 (fun i => if i = j then true else L i) ss.length = updO (eS ss tr e0 L ss.length) q.o.dst (vsOf tr j) := by
    intro L hcl j q o hq ho hLj
    have hjN : j < ss.length := (List.getElem?_eq_some_iff.1 hq).1
    funext t
    have key : ∀ k, k ≤ ss.length → eS ss tr e0 (fun i => if i = j then true else L i) k t = if k ≤ j then eS ss tr e0 L k t else updO (eS ss tr e0 L k) q.o.dst (vsOf tr j) t := by
      intro k
      induction k with
      | zero => intro _; simp [eS]
      | succ k ih =>
        intro hk
        have ih' := ih (by omega)
        obtain ⟨p, hp⟩ : ∃ p, ss[k]? = some p := ⟨ss[k], List.getElem?_eq_getElem (by omega)⟩
        simp only [eS, hp]
        rcases Nat.lt_trichotomy k j with hkj | hkj | hkj
        · rw [if_pos (show k + 1 ≤ j by omega), if_neg (show ¬ k = j by omega)]
          rw [if_pos (show k ≤ j by omega)] at ih'
          cases hL : L k with
          | true =>
            simp only
            by_cases hd : p.o.dst = some t
            · rw [hd]; simp [updO, upd]
            · rw [updO_ne hd, updO_ne hd]; exact ih'
          | false => exact ih'
        · subst hkj
          rw [if_neg (show ¬ k + 1 ≤ k by omega), if_pos rfl, hLj]
          rw [if_pos (Nat.le_refl k)] at ih'
          rw [hq] at hp; cases hp
          simp only
          by_cases hd : q.o.dst = some t
          · rw [hd]; simp [updO, upd]
          · rw [updO_ne hd, updO_ne hd]; exact ih'
        · rw [if_neg (show ¬ k + 1 ≤ j by omega), if_neg (show ¬ k = j by omega)]
          rw [if_neg (show ¬ k ≤ j by omega)] at ih'
          cases hL : L k with
          | false => simp only; exact ih'
          | true =>
            simp only
            by_cases hd : p.o.dst = some t
            · have hno : q.o.dst ≠ some t := by
                intro hdq
                have hkN : k < ss.length := by omega
                have hc := hCf k hkN
                simp only [confOK, hp, List.all_eq_true, List.mem_range] at hc
                have hc := hc j hkj
                rw [hq] at hc
                simp only [Bool.or_eq_true, Bool.not_eq_true'] at hc
                rcases hc with hc | hc
                · exact ((conf_of hc).2 hd).2 hdq
                · have hka : k < all.size := by omega
                  have := closed_bs rfl hE hcl k hkN p all[k] hp (by simp [hka]) (hcl k _ hkN hL (by simp [hka])) j hjN hc
                  rw [hLj] at this; cases this
              rw [updO_ne hno, hd]; simp [updO, upd]
            · rw [updO_ne hd, ih']
              by_cases hdq : q.o.dst = some t
              · rw [hdq]; simp [updO, upd]
              · rw [updO_ne hdq, updO_ne hdq, updO_ne hd]
    have := key ss.length (Nat.le_refl _)
    rwa [if_neg (by omega)] at this
  have full : ∀ (L : Nat → Bool), (∀ i, i < ss.length → L i = true) → eS ss tr e0 L ss.length = e' := by
    intro L hL
    have key : ∀ k, k ≤ ss.length → eS ss tr e0 L k = esOf tr e' k := by
      intro k
      induction k with
      | zero => intro _; rw [hGR.at0]; rfl
      | succ k ih =>
        intro hk
        obtain ⟨p, hp⟩ : ∃ p, ss[k]? = some p := ⟨ss[k], List.getElem?_eq_getElem (by omega)⟩
        simp only [eS, hp, hL k (by omega), ih (by omega)]
        exact ((hGR.step k p hp).2).symm
    rw [key _ (Nat.le_refl _), hGR.final.1]
  have done : ∀ (fuel : Nat) (listed : Array Bool) (q0 : Nat) (f : Fr) (B' : List Pl) (I' : IM) (a : Act) (w : World), listed.size = all.size → (∀ i, i < ss.length → listed.getD i false = true) → (∀ i, ss.length ≤ i → listed.getD i false = false) → all.size ≤ ss.length + fuel →
      (∀ (i : Nat) p, ss[i]? = some p → p.ld = true → (listed.getD i false = true ↔ rk ss i < q0)) → q0 ≤ rk ss ss.length → R (fun i => listed.getD i false) f a →
      Sim f B' I' w ((H0 :: Hs).getD q0 []) → BLe B B' → ILe I I' → REnv B' I' (eS ss tr e0 (fun i => listed.getD i false) ss.length) a.tmps → a.defers = [] → a.tmps.size = nt → wpAny P .any all Q fuel listed a w := by
    intro fuel listed q0 f B' I' a w hsz hall hlN hfu hld hq0 hRf hsim hB hI he hd hn
    have hq : q0 = rk ss ss.length := by
      by_cases h : q0 < rk ss ss.length
      · obtain ⟨i, p, h1, h2, h3, h4⟩ := rk_exists ss.length q0 h
        have := (hld i p h2 h3).1 (hall i h1)
        omega
      · omega
    rw [hq, hGR.final.2] at hsim
    rw [full _ hall] at he
    exact hQ f B' I' a w fuel listed hRf hsim hB hI he hd hn hsz hall hlN hfu
  have noneReady : ∀ (listed : Array Bool), listed.size = all.size → Region.ready .any all listed = [] → ∀ i, i < ss.length → listed.getD i false = true := by
    intro listed hsz hr i
    induction i using Nat.strongRecOn with
    | _ i ih =>
      intro hi
      cases hL : listed.getD i false with
      | true => rfl
      | false =>
        exfalso
        have hia : i < all.size := by omega
        have : i ∈ Region.ready .any all listed := by
          rw [mem_ready]
          refine ⟨?_, all[i], by simp [hia], fun e he hb => ?_⟩
          · have : i < listed.size := by omega
            simp [Array.getD, this] at hL ⊢; exact hL
          · have h := hE i hi
            have hq : ss[i]? = some ss[i] := List.getElem?_eq_getElem hi
            simp only [edgeOK, hq, show all[i]? = some all[i] by simp [hia], Bool.and_eq_true, List.all_eq_true] at h
            have h1 := h.1 e (by simpa using he)
            rw [hb] at h1
            simp at h1
            exact ih e.on h1 (by omega)
        rw [hr] at this; cases this
  intro fuel
  induction fuel with
  | zero =>
    intro listed q0 f B' I' a w hsz hcl hlN hld hq0 hun hRf hsim hB hI he hd hn
    have hall := un_zero ss.length (by omega) (L := fun i => listed.getD i false)
    exact done 0 listed q0 f B' I' a w hsz hall hlN (by omega) hld hq0 hRf hsim hB hI he hd hn
  | succ fuel ih =>
    intro listed q0 f B' I' a w hsz hcl hlN hld hq0 hun hRf hsim hB hI he hd hn
    by_cases hall : ∀ i, i < ss.length → listed.getD i false = true
    · exact done (fuel + 1) listed q0 f B' I' a w hsz hall hlN (by omega) hld hq0 hRf hsim hB hI he hd hn
    refine ⟨fun hr => absurd (noneReady listed hsz hr) hall, ?_⟩
    intro j hj
    rw [mem_ready] at hj
    obtain ⟨hj1, o, ho, hpre⟩ := hj
    have hjN : j < ss.length := by
      by_cases h : j < ss.length
      · exact h
      · exfalso; refine hall fun i hi => ?_
        obtain ⟨e, he1, he2, rfl⟩ := hlast j o ho (by omega) i hi
        exact hpre e he1 he2
    have hja := (Array.getElem?_eq_some_iff.1 ho).1
    have hjl : j < listed.size := by omega
    have hLj : listed.getD j false = false := by simp [Array.getD, hjl] at hj1 ⊢; exact hj1
    obtain ⟨q, hq⟩ : ∃ q, ss[j]? = some q := ⟨ss[j], List.getElem?_eq_getElem hjN⟩
    have hag := agree (fun i => listed.getD i false) hcl j q o hq ho hLj hpre
    have haf := after (fun i => listed.getD i false) hcl j q o hq ho hLj
    have hbs : ∀ i, i < ss.length → q.bs.testBit i = true → listed.getD i false = true := fun i hi hb => closed_bs rfl hE hcl j hjN q o hq ho hpre i hi hb
    obtain ⟨hstep, _⟩ := hGR.step j q hq
    have hrk := rk_succ hq
    have hrank := hR j hjN
    simp only [rankOK, hq] at hrank
    have hgs : gstep P q.o (eS ss tr e0 (fun i => listed.getD i false) ss.length) ((H0 :: Hs).getD q0 []) (vsOf tr j) ((H0 :: Hs).getD (q0 + if q.ld then 1 else 0) []) ∧ (q.ld = true → rk ss j = q0) := by
      refine ⟨?_, ?_⟩
      · refine gstep_congr (e := esOf tr e' j) (fun t ht => (hag t ht).symm) ?_
        cases hl : q.ld with
        | true =>
          rw [hl] at hrank hrk
          have hjq : rk ss j = q0 := by
            have h1 : ¬ rk ss j < q0 := fun h => by have := (hld j q hq hl).2 h; rw [hLj] at this; cases this
            simp only [Bool.or_eq_true, beq_iff_eq, List.any_eq_true, List.mem_range] at hrank
            rcases hrank with h0 | ⟨i, hi, h2⟩
            · omega
            · split at h2
              · rename_i p hp
                simp only [Bool.and_eq_true, beq_iff_eq] at h2
                have := (hld i p hp h2.1.1).1 (hbs i (by omega) h2.2)
                omega
              · cases h2
          rw [if_pos rfl] at hrk ⊢
          rw [← hjq, ← hrk]; exact hstep
        | false =>
          rw [hl] at hrank hrk
          rw [if_neg (by simp)] at hrk ⊢
          simp only [Bool.and_eq_true, decide_eq_true_eq, Bool.or_eq_true, beq_iff_eq, List.any_eq_true, List.mem_range] at hrank
          obtain ⟨⟨⟨h1, h2⟩, h3⟩, h4⟩ := hrank
          have hlo : q.lo ≤ q0 := by
            rcases h3 with h0 | ⟨i, hi, h3⟩
            · omega
            · split at h3
              · rename_i p hp
                simp only [Bool.and_eq_true, beq_iff_eq] at h3
                have := (hld i p hp h3.1.1).1 (hbs i (by omega) h3.2)
                omega
              · cases h3
          have hhi : q0 ≤ q.hi := by
            rcases h4 with h0 | ⟨i, hi, h4⟩
            · omega
            · split at h4
              · rename_i p hp
                simp only [Bool.and_eq_true, beq_iff_eq] at h4
                by_cases hLi : listed.getD i false = true
                · have hia : i < all.size := by omega
                  have := closed_bs rfl hE hcl i hi p all[i] hp (by simp [hia]) (hcl i _ hi hLi (by simp [hia])) j hjN h4.2
                  rw [hLj] at this; cases this
                · have : ¬ rk ss i < q0 := fun h => hLi ((hld i p hp h4.1.1).2 h)
                  omega
              · cases h4
          have hv : tr[j]? = some (esOf tr e' j, vsOf tr j) := by
            have : j < tr.length := by omega
            simp [esOf, vsOf, List.getElem?_eq_getElem this]
          by_cases hne : q.lo = q.hi
          · have : rk ss j = q0 := by omega
            have h5 := hstep
            rw [hrk, Nat.add_zero, this] at h5; exact h5
          · exact stabL_spec htl hstab j q _ _ hq hv hl hne q0 hlo hhi
      · intro hl
        rw [hl] at hrank
        have h1 : ¬ rk ss j < q0 := fun h => by have := (hld j q hq hl).2 h; rw [hLj] at this; cases this
        simp only [Bool.or_eq_true, beq_iff_eq, List.any_eq_true, List.mem_range] at hrank
        rcases hrank with h0 | ⟨i, hi, h2⟩
        · omega
        · split at h2
          · rename_i p hp
            simp only [Bool.and_eq_true, beq_iff_eq] at h2
            have := (hld i p hp h2.1.1).1 (hbs i (by omega) h2.2)
            omega
          · cases h2
    obtain ⟨hgs, hjq⟩ := hgs
    have hset : ∀ i, (listed.setIfInBounds j true).getD i false = if i = j then true else listed.getD i false := by
      intro i
      by_cases hij : i = j
      · subst hij; rw [if_pos rfl]; simp [Array.getD, hjl]
      · rw [if_neg hij]; exact getD_set_ne false (fun h => hij h.symm)
    have hsetF : (fun i => (listed.setIfInBounds j true).getD i false) = fun i => if i = j then true else listed.getD i false := funext hset
    have next : ∀ (f2 : Fr) (a' : Act) (w' : World) (B2 : List Pl) (I2 : IM), R (fun i => if i = j then true else listed.getD i false) f2 a' → Sim f2 B2 I2 w' ((H0 :: Hs).getD (q0 + if q.ld then 1 else 0) []) → BLe B' B2 → ILe I' I2 →
        REnv B2 I2 (updO (eS ss tr e0 (fun i => listed.getD i false) ss.length) q.o.dst (vsOf tr j)) a'.tmps → a'.defers = [] → a'.tmps.size = nt →
        wpAny P .any all Q fuel (listed.setIfInBounds j true) a' w' := by
      intro f2 a' w' B2 I2 hR2' hs2 hB2 hI2 he2 hd2 hn2
      refine ih (listed.setIfInBounds j true) (q0 + if q.ld then 1 else 0) f2 B2 I2 a' w' (by simpa using hsz) ?_ ?_ ?_ ?_ ?_ (by rw [hsetF]; exact hR2') hs2 (hB.trans hB2) (hI.trans hI2) ?_ hd2 hn2
      · intro i oi hi hLi hoi e hee hbe
        rw [hset] at hLi ⊢
        split
        · rfl
        · split at hLi
          · rename_i h1; subst h1
            rw [ho] at hoi; cases hoi
            exact hpre e hee hbe
          · exact hcl i oi hi hLi hoi e hee hbe
      · intro i hi; rw [hset, if_neg (by omega)]; exact hlN i hi
      · intro i p hp hpl
        rw [hset]
        by_cases hij : i = j
        · subst hij
          rw [hq] at hp; cases hp
          have := hjq hpl
          simp [hpl]; omega
        · rw [if_neg hij, hld i p hp hpl]
          cases hl : q.ld with
          | false => simp
          | true =>
            have h1 := hjq hl
            have hne : rk ss i ≠ rk ss j := by
              intro he1
              rcases Nat.lt_or_gt_of_ne hij with h2 | h2
              · have h3 := rk_succ hp; rw [hpl, if_pos rfl] at h3
                have := rk_mono (ss := ss) (show i + 1 ≤ j by omega); omega
              · have h3 := hrk; rw [hl, if_pos rfl] at h3
                have := rk_mono (ss := ss) (show j + 1 ≤ i by omega); omega
            rw [if_pos rfl]; omega
      · cases hl : q.ld with
        | false => simpa using hq0
        | true =>
          have h1 := hjq hl
          have h3 := hrk; rw [hl, if_pos rfl] at h3
          have := rk_mono (ss := ss) (show j + 1 ≤ ss.length by omega)
          rw [if_pos rfl]; omega
      · rw [hsetF]
        have := un_set (L := fun i => listed.getD i false) hLj ss.length
        rw [if_pos hjN] at this
        omega
      · rw [hsetF, haf]; exact he2
    have hco0 := hchk j o q ho hq
    have hco := hco0
    simp only [chkOper, Bool.and_eq_true] at hco
    obtain ⟨⟨hdst, hg⟩, hop⟩ := hco
    have hdd : o.dst = q.o.dst := by
      cases h1 : o.dst <;> cases h2 : q.o.dst <;> simp [h1, h2, chkDst] at hdst ⊢
      exact hdst.1
    have run : ∀ H1, exOp P q.o.op (eS ss tr e0 (fun i => listed.getD i false) ss.length) ((H0 :: Hs).getD q0 []) (ret1 (vsOf tr j) H1) → H1 = ((H0 :: Hs).getD (q0 + if q.ld then 1 else 0) []) →
        o.wp P a w (wpAny P .any all Q fuel (listed.setIfInBounds j true)) Q := by
      intro H1 hk hH1
      by_cases hz : q.o.op = .jalloc
      · obtain ⟨v, w', f', hrun, hs2, hR2'⟩ := hR2 _ f a j q o B' I' w _ hq ho hLj hco0 hz hRf hsim hn
        rw [hz] at hk
        simp only [exOp, ret1] at hk
        obtain ⟨hv, rfl⟩ := hk
        unfold Oper.wp
        rw [hrun, Oper.upon_value]
        rw [hH1] at hs2
        exact next f' _ _ B' I' (by rw [hdd]; exact hR2') hs2 (BLe.refl _) (ILe.refl _) (by rw [hdd, ← hv]; exact he.put _ trivial) (by rw [put_defers]; exact hd) (by rw [put_size]; exact hn)
      have hnj : q.o.op ≠ .jalloc := hz
      by_cases hcall : ∃ fx as, q.o.op = .call fx as
      · obtain ⟨fx, as, hsop⟩ := hcall
        rw [hsop] at hk hop
        obtain ⟨g, args, hrun, hcalls⟩ := op_call (by rw [hn]; exact hop) he hsim hk
        unfold Oper.wp
        rw [hrun, Oper.upon_enter]
        refine hcalls.mono ?_
        rintro en w' ⟨r, v, H2, B2, I2, rfl, ⟨rfl, rfl⟩, hs', hB2, hI2, hrep⟩
        simp only
        rw [hH1] at hs'
        exact next f _ _ B2 I2 (by rw [hdd]; exact hR1 _ f a j q _ hq hLj hnj hRf) hs' hB2 hI2 (by rw [hdd]; exact (he.mono hB2 hI2).put _ hrep) (by rw [put_defers]; exact hd) (by rw [put_size]; exact hn)
      · have hcall' : ∀ g as, q.o.op ≠ .call g as := fun g as h => hcall ⟨g, as, h⟩
        obtain ⟨v, w', x, H2, B2, I2, hrun, ⟨rfl, rfl⟩, hs', hB2, hI2, hrep⟩ := op_out (by rw [hn]; exact hop) he hsim hk hcall'
        unfold Oper.wp
        rw [hH1] at hs'
        have hgo : wpAny P .any all Q fuel (listed.setIfInBounds j true) (a.put o.dst v) w' :=
          next f _ _ B2 I2 (by rw [hdd]; exact hR1 _ f a j q _ hq hLj hnj hRf) hs' hB2 hI2 (by rw [hdd]; exact (he.mono hB2 hI2).put _ hrep) (by rw [put_defers]; exact hd) (by rw [put_size]; exact hn)
        rcases hrun with hrun | ⟨hrun, rfl⟩
        · rw [hrun, Oper.upon_value]; exact hgo
        · rw [hrun, Oper.upon_skip]; exact hgo
    have skip : q.o.guard ≠ none → vsOf tr j = .und → ((H0 :: Hs).getD (q0 + if q.ld then 1 else 0) []) = ((H0 :: Hs).getD q0 []) → wpAny P .any all Q fuel (listed.setIfInBounds j true) (a.put o.dst undef) w := by
      intro hgn hv hH
      have hnj : q.o.op ≠ .jalloc := fun h => hgn (hJg j q hq h)
      exact next f _ _ B' I' (by rw [hdd]; exact hR1 _ f a j q _ hq hLj hnj hRf) (by rw [hH]; exact hsim) (BLe.refl _) (ILe.refl _) (by rw [hdd, hv]; exact skip_env he _) (by rw [put_defers]; exact hd) (by rw [put_size]; exact hn)
    unfold wpOp
    rw [ho]
    simp only
    unfold gstep at hgs
    cases hog : o.guard with
    | none =>
      rw [hog] at hg
      cases hqg : q.o.guard with
      | some _ => rw [hqg] at hg; simp [chkGuard] at hg
      | none =>
        rw [hqg] at hgs
        rw [if_pos (by simp [Region.wanted, hog])]
        exact .inl (run _ hgs rfl)
    | some jb =>
      obtain ⟨jj, want⟩ := jb
      rw [hog] at hg
      cases hqg : q.o.guard with
      | none => rw [hqg] at hg; simp [chkGuard] at hg
      | some tb =>
        obtain ⟨t, want'⟩ := tb
        rw [hqg] at hg hgs
        simp only [chkGuard, Bool.and_eq_true, beq_iff_eq, decide_eq_true_eq] at hg
        obtain ⟨⟨rfl, hjj⟩, ht⟩ := hg
        simp only at hgs
        have hy := yielded_of (a := a) hjj (by omega) he (v := eS ss tr e0 (fun i => listed.getD i false) ss.length t) rfl
        cases hv : eS ss tr e0 (fun i => listed.getD i false) ss.length t with
        | bool b =>
          rw [hv] at hgs
          simp only at hgs
          have hw : Region.wanted o (yielded all a.tmps) = decide (b = want) := by
            simp only [Region.wanted, hog, hy.1 b hv]
            cases b <;> cases want <;> rfl
          rw [hw]
          by_cases hb : b = want
          · rw [if_pos hb] at hgs
            rw [if_pos (by simpa using hb)]
            exact .inl (run _ hgs rfl)
          · rw [if_neg hb] at hgs
            rw [if_neg (by simpa using hb)]
            exact skip (by rw [hqg]; simp) hgs.1 hgs.2
        | und =>
          rw [hv] at hgs
          have hw : Region.wanted o (yielded all a.tmps) = false := by
            simp only [Region.wanted, hog, hy.2 hv]; rfl
          rw [hw]
          simp only [Bool.false_eq_true, if_false]
          exact skip (by rw [hqg]; simp) hgs.1 hgs.2
        | _ => rw [hv] at hgs; exact hgs.elim
end
def chkP (P : Program) (n : Nat) (all : Array Oper) (ss : List QO) (t ia : Nat) (z : V) (st : SOper) : Bool :=
  all.size == ss.length + 1 && chkOps P n all (all.toList.take ss.length) (ss.map (·.o)) && ((List.range ss.length).all fun j => edgeOK all ss j && confOK ss j && rankOK ss j) &&
  (match all[ss.length]? with
    | some o => ((List.range ss.length).all fun i => o.after.toList.any fun e => Region.binds .any e && e.on == i) && (o.after.toList.all fun e => !Region.binds .any e || decide (e.on < ss.length)) && o.guard.isNone && st.guard.isNone && chkOper P n all o st && (match st.op with | .call _ _ => false | _ => true)
    | none => false) &&
  (match all[ia]? with
    | some o => (match o.op with | .alloc ty => (match zeroOf P ty with | some v => relVal v z | none => false) | _ => false)
    | none => false) && decide (ia < ss.length) && decide (t < n) &&
  ((List.range ss.length).all fun j => match ss[j]? with
    | some q => (match q.o.op with | .jalloc => j == ia && q.o.dst == some t && q.o.guard.isNone | _ => !(q.o.dst == some t))
    | none => false) && (match ss[ia]? with | some q => (match q.o.op with | .jalloc => true | _ => false) | none => false)
def chkCode (P : Program) (n : Nat) : Code → SCode → Bool
  | .skip, .skip => true
  | .region _ ops false, .region ss => chkOps P n ops ops.toList (strip ss)
  | .region _ ops true, .qregion ss => chkQ P n ops ss && ss.all fun q => match q.o.op with | .jalloc => false | _ => true
  | .region _ ops true, .pregion ss t ia z st => chkP P n ops ss t ia z st
  | .seq a b, .seq a' b' => chkCode P n a a' && chkCode P n b b'
  | .cond c t e, .cond c' t' e' => chkX n c c' && chkCode P n t t' && chkCode P n e e'
  | .block i c, .block j c' => i == j && chkCode P n c c'
  | .loop c, .loop c' => chkCode P n c c'
  | .exit i, .exit j => i == j
  | .ret, .ret => true
  | _, _ => false
section
variable {P : Program} {f : Fr}
theorem wp_region_nodraw {id : Nat} {ops : Array Oper} {Q : Exit → Act → World → Prop} {a : Act} {w : World} (h : wpList P ops Q ops.toList a w) : (Code.region id ops false).wp P Q a w := wp_region_list h
structure PF (f f' : Fr) (p : Nat) (z : V) : Prop where
  blk : ∃ carr ty, f'.w0.heap[p]? = some (.cells carr ty (0, 0)) ∧ (cellsV z).length ≤ carr.size ∧ ∀ B I, ElemsG B I [z] (fun o => carr[o]?) (cellsV z).length 0
  nM : ¬ f'.M p
  nI : f'.I0 p = none
  ge : f.w0.heap.size ≤ p
  tr : ∀ B I w H, Sim f' B I w H → Sim f B I w H
def liveAt (B : List Pl) (H : List Blk) (k : Nat) : Prop := ∃ (i : Nat) (p : Pl) (b : Blk), B[i]? = some p ∧ H[i]? = some b ∧ b.live = true ∧ p.blk = k
theorem Sim.self {B : List Pl} {I : IM} {w : World} {H : List Blk} (h : Sim f B I w H) : Sim ⟨w, liveAt B H, I⟩ B I w H where
  len := h.len
  imm := h.imm
  ile := ILe.refl _
  ifresh b h1 h2 := absurd h1 h2
  os := rfl
  tape := rfl
  output := rfl
  size := Nat.le_refl _
  keep _ _ _ := rfl
  ok := h.ok
  sep := h.sep
  own i p b h1 h2 h3 := ⟨(h.own i p b h1 h2 h3).1, .inr ⟨i, p, b, h1, h2, h3, rfl⟩, (h.own i p b h1 h2 h3).2.2⟩
theorem Sim.reframe {B B2 : List Pl} {I I2 : IM} {w w2 : World} {H H2 : List Blk} (h : Sim f B I w H) (g : Sim ⟨w, liveAt B H, I⟩ B2 I2 w2 H2) : Sim f B2 I2 w2 H2 := by
  have hl : ∀ k, liveAt B H k → f.w0.heap.size ≤ k ∨ f.M k := by
    rintro k ⟨i, p, b, h1, h2, h3, rfl⟩
    exact (h.own i p b h1 h2 h3).2.1
  exact {
    len := g.len
    imm := g.imm
    ile := h.ile.trans g.ile
    ifresh := fun b h0 h1 => by
      by_cases hb : I b = none
      · rcases g.ifresh b hb h1 with h2 | h2
        · exact .inl (Nat.le_trans h.size h2)
        · exact hl b h2
      · exact h.ifresh b h0 hb
    os := g.os.trans h.os
    tape := g.tape.trans h.tape
    output := g.output.trans h.output
    size := Nat.le_trans h.size g.size
    keep := fun k hk hm => (g.keep k (Nat.lt_of_lt_of_le hk h.size) (fun hk2 => (hl k hk2).elim (fun h => by omega) hm)).trans (h.keep k hk hm)
    ok := g.ok
    sep := g.sep
    own := fun i p b h1 h2 h3 => by
      obtain ⟨h4, h5, h6⟩ := g.own i p b h1 h2 h3
      refine ⟨h4, ?_, h6⟩
      rcases h5 with h5 | h5
      · exact .inl (Nat.le_trans h.size h5)
      · exact hl _ h5 }
theorem PF.mk' {B : List Pl} {I : IM} {w : World} {H : List Blk} (h : Sim f B I w H) (v : Value) (ty : TypeId) {z : V} (hz : relVal v z = true) :
    Sim ⟨w.alloc (.cells v.cells ty), liveAt B H, I⟩ B I (w.alloc (.cells v.cells ty)) H ∧ PF f ⟨w.alloc (.cells v.cells ty), liveAt B H, I⟩ w.heap.size z := by
  have hj := h.junk (.cells v.cells ty)
  refine ⟨hj.self, ⟨v.cells, ty, by show (w.heap.push _)[w.heap.size]? = _; simp, ?_, fun B I => one_elem (rel_rep hz) (rel_notAny hz)⟩, ?_, ?_, h.size, fun _ _ _ _ g => hj.reframe g⟩
  · have := (cells_rep (rel_rep (B := []) (I := fun _ => none) hz) (rel_notAny hz)).length
    simp at this ⊢; omega
  · rintro ⟨i, p, b, h1, h2, h3, h4⟩
    have := (h.own i p b h1 h2 h3).2.2
    omega
  · show I _ = none
    cases hx : I w.heap.size with
    | none => rfl
    | some o => have := h.ilt (b := w.heap.size) (by rw [hx]; simp); omega
theorem PF.adopt {f' : Fr} {p : Nat} {z : V} (h : PF f f' p z) {B : List Pl} {I : IM} {w : World} {H : List Blk} (g : Sim f' B I w H) :
    ∃ q : Pl, Sim f (B ++ [q]) I w (H ++ [.row [z]]) ∧ Rep (B ++ [q]) I (.ptr H.length 0 0) (.pointer (some ⟨p, 0, none⟩)) := by
  obtain ⟨carr, ty, h1, h2, h3⟩ := h.blk
  have hlt : p < f'.w0.heap.size := (Array.getElem?_eq_some_iff.1 h1).1
  have hni : I p = none := by
    cases hx : I p with
    | none => rfl
    | some o => rcases g.ifresh p h.nI (by rw [hx]; simp) with h4 | h4
                · omega
                · exact absurd h4 h.nM
  refine ⟨⟨p, 0, carr.size, (cellsV z).length⟩, (h.tr _ _ _ _ g).push _ _ ?_ ?_ ?_, ?_⟩
  · exact ⟨carr, ty, (g.keep p hlt h.nM).trans h1, rfl, by simpa using h2, h3 _ _⟩
  · intro i q c h4 h5 h6 h7
    rcases (g.own i q c h4 h5 h6).2.1 with h8 | h8
    · simp at h7; omega
    · simp at h7; rw [h7] at h8; exact h.nM h8
  · exact ⟨hni, .inl h.ge, Nat.lt_of_lt_of_le hlt g.size⟩
  · simp only [Rep]
    exact ⟨_, by rw [← g.len, getElem?_append_one, if_pos rfl], by simp⟩
theorem un_le : ∀ (L : Nat → Bool) (k : Nat), un L k ≤ k := by
  intro L k
  induction k with
  | zero => simp [un]
  | succ k ih => simp only [un]; split <;> omega
theorem eS_none (ss : List QO) (tr : List (Env × V)) (e : Env) (n : Nat) : ∀ k, eS ss tr e (fun i => (Array.replicate n false).getD i false) k = e := by
  intro k
  induction k with
  | zero => rfl
  | succ k ih =>
    simp only [eS]
    rw [show (Array.replicate n false).getD k false = false by simp [Array.getD]]
    exact ih
theorem ready_none {all : Array Oper} {listed : Array Bool} (hsz : listed.size = all.size) (h : ∀ i, i < all.size → listed.getD i false = true) : Region.ready .any all listed = [] := by
  cases hr : Region.ready .any all listed with
  | nil => rfl
  | cons j l =>
    exfalso
    have hj : j ∈ Region.ready .any all listed := by rw [hr]; simp
    rw [mem_ready] at hj
    obtain ⟨h1, o, ho, _⟩ := hj
    have hja := (Array.getElem?_eq_some_iff.1 ho).1
    have h2 := h j hja
    have : j < listed.size := by omega
    simp [Array.getD, this] at h1 h2
    rw [h1] at h2; cases h2
theorem wpAny_end {all : Array Oper} {Q : Exit → Act → World → Prop} {listed : Array Bool} {a : Act} {w : World} (hr : Region.ready .any all listed = []) (hq : Q .normal a w) : ∀ fuel, wpAny P .any all Q fuel listed a w
  | 0 => ⟨hr, hq⟩
  | fuel + 1 => ⟨fun _ => hq, fun i hi => by rw [hr] at hi; cases hi⟩
theorem chkOps_len {n : Nat} {all : Array Oper} : ∀ (l : List Oper) (m : List SOper), chkOps P n all l m = true → l.length = m.length
  | [], [], _ => rfl
  | [], _ :: _, h => by simp [chkOps] at h
  | _ :: _, [], h => by simp [chkOps] at h
  | x :: l, y :: m, h => by simp only [chkOps, Bool.and_eq_true] at h; simp [chkOps_len l m h.2]
theorem code_sound (hm : P.follows .mixedOrders = true) {nt : Nat} : ∀ (c : Code) (s : SCode), chkCode P nt c s = true → ∀ (n : Nat) (e : Env) (H : List Blk) (k : Kont) (B : List Pl) (I : IM) (a : Act) (w : World) (Q : Exit → Act → World → Prop),
    F P n (.code s e H k) → Sim f B I w H → REnv B I e a.tmps → a.defers = [] → a.tmps.size = nt → SatK P f B I nt k Q → c.wp P Q a w := by
  intro c
  induction c with
  | skip =>
    intro s hc n e H k B I a w Q hF hs he hd hn hq
    cases s <;> simp only [chkCode, Bool.false_eq_true] at hc
    cases n with
    | zero => exact hF.elim
    | succ n => exact wp_skip (hq n _ e H B I a w hF hs (BLe.refl _) (ILe.refl _) he hd hn)
  | region id ops draw =>
    intro s hc n e H k B I a w Q hF hs he hd hn hq
    cases n with
    | zero => exact hF.elim
    | succ n =>
      cases draw with
      | false =>
        cases s <;> simp only [chkCode, Bool.false_eq_true] at hc
        rename_i ss
        exact wp_region_nodraw (ops_sound hc hF hs he hd hn hq)
      | true =>
        cases s <;> simp only [chkCode, Bool.false_eq_true] at hc
        case qregion ss =>
          rw [Bool.and_eq_true] at hc
          obtain ⟨hc, hnj⟩ := hc
          simp only [chkQ, Bool.and_eq_true, List.all_eq_true, List.mem_range] at hc
          obtain ⟨hops, hall⟩ := hc
          rw [F_qregion] at hF
          obtain ⟨tr, Hs, e', H', hg, hstab, hk⟩ := GR.of_run hF
          refine wp_region_any hm ?_
          have hs' := hs.drew
          have hlen : ops.size = ss.length := by simpa using chkOps_len _ _ hops
          refine any_sound (R := fun _ g _ => g = f) (B := B) (I := I) (Q := Q) (Nat.le_of_eq hlen.symm) (by rw [← hlen, List.take_of_length_le (by simp)]; exact hops) (fun j hj => (hall j hj).1.1) (fun j hj => (hall j hj).1.2) (fun j hj => (hall j hj).2)
            (fun j o hj hh => absurd (Array.getElem?_eq_some_iff.1 hj).1 (by omega)) hg hstab ?_ (fun _ _ _ _ _ _ _ _ _ h => h) ?_ ?_ ops.size _ 0 f B I a w.drew (by simp) ?_ ?_ ?_ (Nat.zero_le _) ?_ rfl hs' (BLe.refl _) (ILe.refl _) ?_ hd hn
          · intro j q hj hz
            have := List.all_eq_true.1 hnj q (List.mem_of_getElem? hj)
            rw [hz] at this; simp at this
          · intro L g a' j q o B' I' w' H' hj ho hL hco hz
            have := List.all_eq_true.1 hnj q (List.mem_of_getElem? hj)
            rw [hz] at this; simp at this
          · rintro _ B' I' a' w' fuel listed rfl h1 h2 h3 h4 h5 h6 h7 h8 h9 h10
            exact wpAny_end (ready_none h7 (fun i hi => h8 i (by omega))) (hq n _ e' H' B' I' a' w' hk h1 h2 h3 h4 h5 h6) fuel
          · intro j o hj hL
            simp [Array.getD] at hL
          · intro i hi; simp [Array.getD]
          · intro i p hi hl
            constructor
            · intro hL; simp [Array.getD] at hL
            · intro h; omega
          · have := un_le (fun i => (Array.replicate ops.size false).getD i false) ss.length
            omega
          · rw [eS_none]; exact he
        case pregion ss t ia z st =>
          simp only [chkP, Bool.and_eq_true, List.all_eq_true, List.mem_range, beq_iff_eq, decide_eq_true_eq] at hc
          obtain ⟨⟨⟨⟨⟨⟨⟨⟨hsz, hops⟩, hall⟩, hla⟩, hal⟩, hia⟩, htn⟩, hjs⟩, hji⟩ := hc
          split at hla
          case h_2 => cases hla
          rename_i oz hoz
          simp only [Bool.and_eq_true, List.all_eq_true, List.mem_range, Option.isNone_iff_eq_none] at hla
          obtain ⟨⟨⟨⟨⟨hz1, hz0⟩, hz2⟩, hz3⟩, hz4⟩, hz5⟩ := hla
          have hzE : ∀ ed ∈ oz.after, Region.binds .any ed = true → ed.on < ss.length := by
            intro ed h1 h2
            have := hz0 ed (by simpa using h1)
            simpa [h2] using this
          split at hal
          case h_2 => cases hal
          rename_i oa hoa
          split at hal
          case h_2 => cases hal
          rename_i ty hty
          split at hal
          case h_2 => cases hal
          rename_i vz hvz
          rw [F_pregion] at hF
          obtain ⟨tr, Hs, e', H', hg, hstab, hk⟩ := GR.of_run hF
          refine wp_region_any hm ?_
          have hs' := hs.drew
          have hjx : ∀ (j : Nat) (q : QO), ss[j]? = some q → (q.o.op = .jalloc → j = ia ∧ q.o.dst = some t ∧ q.o.guard = none) ∧ (q.o.op ≠ .jalloc → q.o.dst ≠ some t) := by
            intro j q hj
            have hj2 := hjs j (List.getElem?_eq_some_iff.1 hj).1
            rw [hj] at hj2
            simp only at hj2
            constructor
            · intro hz
              rw [hz] at hj2
              simp only [Bool.and_eq_true, beq_iff_eq, Option.isNone_iff_eq_none] at hj2
              exact ⟨hj2.1.1, hj2.1.2, hj2.2⟩
            · intro hz hd
              rw [hd] at hj2
              split at hj2
              · rename_i h; exact hz h
              · simp at hj2
          refine any_sound (R := fun L g a => (L ia = false ∧ g = f) ∨ (L ia = true ∧ ∃ p, PF f g p z ∧ a.tmps[t]? = some (.pointer (some ⟨p, 0, none⟩)))) (B := B) (I := I) (Q := Q) (by omega) hops (fun j hj => (hall j hj).1.1) (fun j hj => (hall j hj).1.2) (fun j hj => (hall j hj).2)
            ?_ hg hstab ?_ ?_ ?_ ?_ ops.size _ 0 f B I a w.drew (by simp) ?_ ?_ ?_ (Nat.zero_le _) ?_ (.inl ⟨by simp [Array.getD], rfl⟩) hs' (BLe.refl _) (ILe.refl _) ?_ hd hn
          · intro j o hj hle i hi
            have hj' := (Array.getElem?_eq_some_iff.1 hj).1
            obtain rfl : j = ss.length := by omega
            rw [hoz] at hj; cases hj
            have := hz1 i hi
            simp only [List.any_eq_true, Bool.and_eq_true, beq_iff_eq] at this
            obtain ⟨ed, h1, h2, h3⟩ := this
            exact ⟨ed, by simpa using h1, h2, h3⟩
          · intro j q hj hz; exact ((hjx j q hj).1 hz).2.2
          · intro L g a' j q v hj hL hz hR
            have hne := (hjx j q hj).2 hz
            have hji' : j ≠ ia := by
              rintro rfl
              rw [hj] at hji
              simp only at hji
              exact absurd hji (by simp)
            rcases hR with ⟨h1, h2⟩ | ⟨h1, p, h2, h3⟩
            · exact .inl ⟨by simp [Ne.symm hji', h1], h2⟩
            · refine .inr ⟨by simp [Ne.symm hji', h1], p, h2, ?_⟩
              cases hd : q.o.dst with
              | none => exact h3
              | some d =>
                rw [hd] at hne
                have : d ≠ t := fun h => hne (by rw [h])
                simp only [Act.put, Array.getElem?_setIfInBounds, if_neg this]; exact h3
          · intro L g a' j q o B' I' w' H' hj ho hL hco hz hR hsim hn'
            obtain ⟨rfl, hd, hgn⟩ := (hjx j q hj).1 hz
            rw [hoa] at ho; cases ho
            rcases hR with ⟨h1, rfl⟩ | ⟨h1, _⟩
            · obtain ⟨h2, h3⟩ := PF.mk' hsim vz ty hal
              refine ⟨_, _, _, jalloc_run hty hvz, h2, .inr ⟨by simp, _, h3, ?_⟩⟩
              rw [hd]
              simp [Act.put, Array.getElem?_setIfInBounds, hn', htn]
            · rw [hL] at h1; cases h1
          · intro g B' I' a' w' fuel listed hR h1 h2 h3 h4 h5 h6 h7 h8 h9 h10
            have hLi := h8 ia hia
            rcases hR with ⟨hR, _⟩ | ⟨_, p, hp, ht⟩
            · simp only [hLi] at hR; cases hR
            obtain ⟨pl, hs2, hr2⟩ := hp.adopt h1
            have hen : REnv (B' ++ [pl]) I' (upd e' t (.ptr H'.length 0 0)) a'.tmps := by
              intro i v hv
              unfold upd
              split
              · rename_i h; subst h
                rw [ht] at hv; cases hv; exact hr2
              · exact (h4 i v hv).mono (BLe.append _ _) (ILe.refl _)
            obtain ⟨fuel, rfl⟩ : ∃ m, fuel = m + 1 := ⟨fuel - 1, by omega⟩
            refine ⟨fun hr => ?_, fun i hi => ?_⟩
            · exfalso
              have hm : ss.length ∈ Region.ready .any ops listed := by
                rw [mem_ready]
                have hlt : ss.length < listed.size := by omega
                refine ⟨?_, oz, hoz, fun ed he' hb => ?_⟩
                · have := h9 ss.length (Nat.le_refl _)
                  simp [Array.getD, hlt] at this ⊢; exact this
                · have hEz := hzE ed he' hb
                  exact h8 ed.on hEz
              rw [hr] at hm; cases hm
            · rw [mem_ready] at hi
              obtain ⟨hi1, o, ho, _⟩ := hi
              have hio := (Array.getElem?_eq_some_iff.1 ho).1
              have hil : i < listed.size := by omega
              obtain rfl : i = ss.length := by
                by_cases h : i < ss.length
                · have := h8 i h
                  simp [Array.getD, hil] at this hi1
                  rw [this] at hi1; cases hi1
                · omega
              rw [hoz] at ho; cases ho
              cases n with
              | zero => exact hk.elim
              | succ n =>
                obtain ⟨sd, so, sg⟩ := st
                simp only at hz3 hz5
                subst hz3
                rw [F_op] at hk
                simp only [chkOper, Bool.and_eq_true] at hz4
                obtain ⟨⟨hdst, _⟩, hop⟩ := hz4
                have hdd : oz.dst = sd := by
                  cases h1 : oz.dst <;> cases h2 : sd <;> simp [h1, h2, chkDst] at hdst ⊢
                  exact hdst.1
                have hnc : ∀ g as, so ≠ .call g as := by
                  rintro g as rfl
                  simp at hz5
                obtain ⟨v, w2, x, H2, B2, I2, hrun, hk2, hs3, hB3, hI3, hrep⟩ := op_out (by rw [h6]; exact hop) hen hs2 hk hnc
                have hfin : wpAny P .any ops Q fuel (listed.setIfInBounds ss.length true) (a'.put oz.dst v) w2 := by
                  cases n with
                  | zero => exact hk2.elim
                  | succ n =>
                    rw [ret2ueq, F_nil] at hk2
                    refine wpAny_end (ready_none (by simpa using h7) fun i hi => ?_) (hq n _ _ H2 B2 I2 _ w2 hk2 hs3 ((h2.trans (BLe.append _ _)).trans hB3) (h3.trans hI3) (by rw [hdd]; exact (hen.mono hB3 hI3).put _ hrep) (by rw [put_defers]; exact h5) (by rw [put_size]; exact h6)) fuel
                    by_cases hij : i = ss.length
                    · subst hij; simp [Array.getD, hil]
                    · rw [getD_set_ne false (fun h => hij h.symm)]; exact h8 i (by omega)
                unfold wpOp
                rw [hoz]
                simp only
                rw [if_pos (by simp [Region.wanted, hz2])]
                refine .inl ?_
                unfold Oper.wp
                rcases hrun with hrun | ⟨hrun, rfl⟩
                · rw [hrun, Oper.upon_value]; exact hfin
                · rw [hrun, Oper.upon_skip]; exact hfin
          · intro j o hj hL
            simp [Array.getD] at hL
          · intro i hi; simp [Array.getD]
          · intro i p hi hl
            constructor
            · intro hL; simp [Array.getD] at hL
            · intro h; omega
          · have := un_le (fun i => (Array.replicate ops.size false).getD i false) ss.length
            omega
          · rw [eS_none]; exact he
  | seq x y ihx ihy =>
    intro s hc n e H k B I a w Q hF hs he hd hn hq
    cases s <;> simp only [chkCode, Bool.false_eq_true, Bool.and_eq_true] at hc
    rename_i s1 s2
    cases n with
    | zero => exact hF.elim
    | succ n =>
      refine wp_seq (ihx s1 hc.1 n e H (.seq s2 k) B I a w _ hF hs he hd hn ?_)
      intro m x e' H' B' I' a' w' hF' hs' hB hI he' hd' hn'
      cases m with
      | zero => exact hF'.elim
      | succ m =>
        cases x with
        | normal => exact ihy s2 hc.2 m e' H' k B' I' a' w' Q hF' hs' he' hd' hn' (hq.mono hB hI)
        | _ => exact hq m _ e' H' B' I' a' w' hF' hs' hB hI he' hd' hn'
  | cond c x y ihx ihy =>
    intro s hc n e H k B I a w Q hF hs he hd hn hq
    cases s <;> simp only [chkCode, Bool.false_eq_true, Bool.and_eq_true] at hc
    rename_i c' s1 s2
    obtain ⟨⟨h1, h2⟩, h3⟩ := hc
    have hr := chkX_rep (by rw [hn]; exact h1) he
    cases n with
    | zero => exact hF.elim
    | succ n =>
      cases c' with
      | tmp i =>
        rw [F_cond] at hF
        simp only [evX] at hr
        cases hv : e i with
        | bool b =>
          rw [hv] at hF hr
          simp only [Rep] at hr
          refine wp_cond hr ?_
          cases b with
          | true => have := hF.1 rfl; rw [upd_self hv rfl] at this; exact ihx s1 h2 n e H k B I a w Q this hs he hd hn hq
          | false => have := hF.2 rfl; rw [upd_self hv rfl] at this; exact ihy s2 h3 n e H k B I a w Q this hs he hd hn hq
        | _ => rw [hv] at hF; exact hF.elim
      | val v =>
        have hF2 : (match v with
          | .bool b => Fork b (F P n (.code s1 e H k)) (F P n (.code s2 e H k))
          | _ => False) := by
          have : F P (n + 1) (.code (.cond (.val v) s1 s2) e H k) = (match v with
            | .bool b => Fork b (F P n (.code s1 e H k)) (F P n (.code s2 e H k))
            | _ => False) := by cases v <;> rfl
          rw [this] at hF; exact hF
        simp only [evX] at hr
        cases v with
        | bool b =>
          simp only [Rep] at hr
          refine wp_cond hr ?_
          cases b with
          | true => exact ihx s1 h2 n e H k B I a w Q (hF2.1 rfl) hs he hd hn hq
          | false => exact ihy s2 h3 n e H k B I a w Q (hF2.2 rfl) hs he hd hn hq
        | _ => exact hF2.elim
  | block id x ih =>
    intro s hc n e H k B I a w Q hF hs he hd hn hq
    cases s <;> simp only [chkCode, Bool.false_eq_true, Bool.and_eq_true, beq_iff_eq] at hc
    rename_i j s1
    obtain ⟨rfl, hc⟩ := hc
    cases n with
    | zero => exact hF.elim
    | succ n =>
      refine wp_block (ih s1 hc n e H (.block id k) B I a w _ hF hs he hd hn ?_)
      intro m x e' H' B' I' a' w' hF' hs' hB hI he' hd' hn'
      cases m with
      | zero => exact hF'.elim
      | succ m =>
        cases x with
        | exit i =>
          rw [F_blockE] at hF'
          show (if i = id then Q .normal a' w' else Q (.exit i) a' w')
          split
          · rename_i h; rw [if_pos h] at hF'; exact hq m _ e' H' B' I' a' w' hF' hs' hB hI he' hd' hn'
          · rename_i h; rw [if_neg h] at hF'; exact hq m _ e' H' B' I' a' w' hF' hs' hB hI he' hd' hn'
        | _ => exact hq m _ e' H' B' I' a' w' hF' hs' hB hI he' hd' hn'
  | loop x ih =>
    intro s hc n e H k B I a w Q hF hs he hd hn hq
    cases s <;> simp only [chkCode, Bool.false_eq_true] at hc
    rename_i s1
    cases n with
    | zero => exact hF.elim
    | succ n =>
      obtain ⟨Inv, m0, h0, hround⟩ := hF
      refine wp_loop_ghost (fun m a w => ∃ e H B' I', Inv m e H ∧ Sim f B' I' w H ∧ BLe B B' ∧ ILe I I' ∧ REnv B' I' e a.tmps ∧ a.defers = [] ∧ a.tmps.size = nt) m0
        ⟨e, H, B, I, h0, hs, BLe.refl _, ILe.refl _, he, hd, hn⟩ ?_
      rintro m a w ⟨e, H, B', I', hi, hs', hB, hI, he', hd', hn'⟩
      refine ih s1 hc n e H (.loop Inv m k) B' I' a w _ (hround m e H hi) hs' he' hd' hn' ?_
      intro l x e2 H2 B2 I2 a2 w2 hF' hs2 hB2 hI2 he2 hd2 hn2
      cases l with
      | zero => exact hF'.elim
      | succ l =>
        cases x with
        | normal =>
          obtain ⟨m', hlt, hi'⟩ := hF'
          exact ⟨m', hlt, e2, H2, B2, I2, hi', hs2, hB.trans hB2, hI.trans hI2, he2, hd2, hn2⟩
        | _ => exact hq l _ e2 H2 B2 I2 a2 w2 hF' hs2 (hB.trans hB2) (hI.trans hI2) he2 hd2 hn2
  | exit id =>
    intro s hc n e H k B I a w Q hF hs he hd hn hq
    cases s <;> simp only [chkCode, Bool.false_eq_true, beq_iff_eq] at hc
    subst hc
    cases n with
    | zero => exact hF.elim
    | succ n => exact wp_exit (hq n _ e H B I a w hF hs (BLe.refl _) (ILe.refl _) he hd hn)
  | ret =>
    intro s hc n e H k B I a w Q hF hs he hd hn hq
    cases s <;> simp only [chkCode, Bool.false_eq_true] at hc
    cases n with
    | zero => exact hF.elim
    | succ n => exact wp_ret (hq n _ e H B I a w hF hs (BLe.refl _) (ILe.refl _) he hd hn)
  | _ => intro s hc; cases s <;> simp [chkCode] at hc
end
def PCall (P : Program) (g : FuncId) (vs : List V) (K : V → Prop) : Prop :=
  callable P g = true ∧ ∀ (I : IM) (w : World) (args : Array Value), (∀ b o, I b = some o → w.heap[b]? = some o) → RepL [] I vs args.toList →
    Calls P g args w (fun e w' => ∃ r v I', e = .returned v ∧ K r ∧ ILe I I' ∧ (∀ b o, I' b = some o → w'.heap[b]? = some o) ∧ (∀ b, I b = none → I' b ≠ none → w.heap.size ≤ b) ∧ Rep [] I' r v ∧ Below w.heap.size w w')
theorem PCall.mono {P : Program} {g : FuncId} {vs : List V} {K K' : V → Prop} (h : PCall P g vs K) (hk : ∀ r, K r → K' r) : PCall P g vs K' :=
  ⟨h.1, fun I w args h1 h2 => (h.2 I w args h1 h2).mono fun e w' ⟨r, v, I', h3, h4, h5⟩ => ⟨r, v, I', h3, hk r h4, h5⟩⟩
theorem ACall.mono {P : Program} {g : FuncId} {vs : List V} {H : List Blk} {K K' : V → List Blk → Prop} (h : ACall P g vs H K) (hk : ∀ r H', K r H' → K' r H') : ACall P g vs H K' :=
  ⟨h.1, fun f B I w args h1 h2 => (h.2 f B I w args h1 h2).mono fun e w' ⟨r, v, H', B', I', h3, h4, h5⟩ => ⟨r, v, H', B', I', h3, hk r H' h4, h5⟩⟩
theorem repL_mono_nil {B : List Pl} {I I' : IM} {x : V} {v : Value} (h : Rep [] I x v) (hI : ILe I I') : Rep B I' x v :=
  h.mono (fun i p hp => by simp at hp) hI
theorem call_pure {P : Program} {g : FuncId} {vs vs' : List V} {H : List Blk} {K : V → List Blk → Prop} (n : Nat) (hfz : fzL (fz H n) vs = some vs') {R : V → Prop} (h : PCall P g vs' R)
    (hpl : ∀ r, R r → plain r = true) (hk : ∀ r, R r → K r H) : ACall P g vs H K := by
  refine ⟨h.1, fun f B I w args hs hr => ?_⟩
  have hr' : RepL [] (fun b => w.heap[b]?) vs' args.toList := by
    obtain ⟨h1, h2⟩ := fzL_spec hfz
    rw [repL_iff] at hr ⊢
    refine ⟨by rw [h1]; exact hr.1, fun j c hj => ?_⟩
    obtain ⟨y, h3, h4⟩ := h2 j c hj
    obtain ⟨u, h5, h6⟩ := hr.2 j y h3
    exact ⟨u, h5, fz_rep hs (I2 := fun b => w.heap[b]?) hs.imm (fun _ _ _ _ _ => rfl) n h4 h6⟩
  refine (h.2 _ w args (fun b o hb => hb) hr').mono ?_
  rintro e w' ⟨r, v, I', rfl, hR, _, _, _, hrep, hb⟩
  refine ⟨r, v, H, B, I, rfl, hk r hR, hs.grow hb (ILe.refl _) (fun b o hI => ?_) (fun b h1 h2 => absurd h1 h2), BLe.refl _, ILe.refl _, plain_rep (hpl r hR) hrep⟩
  rw [hb.block b (hs.ilt (by rw [hI]; simp))]; exact hs.imm b o hI
theorem call_pureR {P : Program} {g : FuncId} {vs : List V} {H : List Blk} {K : V → List Blk → Prop} (hn : norefL vs = true) {R : V → Prop} (h : PCall P g vs R) (hk : ∀ r, R r → K r H) : ACall P g vs H K := by
  refine ⟨h.1, fun f B I w args hs hr => ?_⟩
  refine (h.2 I w args hs.imm (noref_repL hn hr)).mono ?_
  rintro e w' ⟨r, v, I', rfl, hR, hI, himm, hfr, hrep, hb⟩
  exact ⟨r, v, H, B, I', rfl, hk r hR, hs.grow hb hI himm hfr, BLe.refl _, hI, repL_mono_nil hrep (ILe.refl _)⟩
theorem call_eq {P : Program} {g : FuncId} {vs vs' : List V} {H : List Blk} {K : V → List Blk → Prop} {r : V} (n : Nat) (hfz : fzL (fz H n) vs = some vs') (h : PCall P g vs' (· = r)) (hpl : plain r = true) (hk : K r H) : ACall P g vs H K :=
  call_pure n hfz h (by rintro _ rfl; exact hpl) (by rintro _ rfl; exact hk)
theorem call_eqR {P : Program} {g : FuncId} {vs : List V} {H : List Blk} {K : V → List Blk → Prop} {r : V} (hn : norefL vs = true) (h : PCall P g vs (· = r)) (hk : K r H) : ACall P g vs H K :=
  call_pureR hn h (by rintro _ rfl; exact hk)
inductive SRes where
  | tmp (t : Nat)
  | cell (g : Bool) (n : Nat) (t : Nat)
def resOne (P : Program) (r : SRes) (e : Env) (H : List Blk) (k : V → Prop) : Prop :=
  match r with
  | .tmp t => k (e t)
  | .cell g n t => match e t with
    | .ptr _ _ _ => exOp P (.load g n (.tmp t)) e H (fun v _ => k v)
    | .rptr _ => exOp P (.load g n (.tmp t)) e H (fun v _ => k v)
    | _ => False
def resL (P : Program) : List SRes → Env → List Blk → (List V → Prop) → Prop
  | [], _, _, k => k []
  | r :: rs, e, H, k => resOne P r e H fun v => resL P rs e H fun vs => k (v :: vs)
def resP (P : Program) (rs : List SRes) (e : Env) (H : List Blk) (k : V → Prop) : Prop :=
  match rs with
  | [r] => resOne P r e H k
  | rs => resL P rs e H fun vs => k (.tup vs)
def chkRes (P : Program) (n : Nat) : List ResultVar → List SRes → Bool
  | [], [] => true
  | .tmp t :: l, .tmp u :: m => t == u && decide (t < n) && chkRes P n l m
  | .cell a t :: l, .cell g k u :: m => a == u && decide (a < n) && aggOf P t == some g && szOf P t == some k && (g || k == 1) && chkRes P n l m
  | _, _ => false
def resF (tmps : Array Value) (r : ResultVar) : Sem Value :=
  match r with
  | .tmp t => pure (tmps.getD t undef)
  | .cell b t => do loadVar t (← asAddr (tmps.getD b undef))
theorem results_eq (fn : Func) (tmps : Array Value) : results fn tmps = (do let vs ← fn.results.mapM (resF tmps); pure (if h : vs.size = 1 then vs[0] else .tuple vs) : Sem Value) := by
  unfold results
  congr 1
section
variable {P : Program} {f : Fr} {B : List Pl} {I : IM} {w : World} {H : List Blk} {a : Act} {e : Env}
theorem load_sound {g : Bool} {m : Nat} {t : TypeId} {i : Nat} {k : V → Prop} (hi : i < a.tmps.size) (hg : aggOf P t = some g) (hm : szOf P t = some m) (h1 : (g || m == 1) = true) (he : REnv B I e a.tmps) (hs : Sim f B I w H)
    (hk : exOp P (.load g m (.tmp i)) e H (fun v _ => k v)) : ∃ v x, (do loadVar t (← asAddr (a.tmps.getD i undef)) : Sem Value).run P w = .ok v w ∧ k x ∧ Rep B I x v := by
  let o : Oper := { dst := none, op := .load t (.tmp i), type := 0, pos := "", after := #[], guard := none }
  have hc : chkOp P a.tmps.size (.load t (.tmp i)) 0 (.load g m (.tmp i)) = true := by
    simp only [chkOp, hg, hm, chkX, beq_self_eq_true, hi, decide_true, Bool.and_self, Bool.and_true, Bool.true_and]
    exact h1
  have hr := he i (a.tmps[i]) (by simp [hi])
  have hsame : ∀ {w' : World} {v : Value}, (execOp a.eval o).run P w = .ok (.value v) w' → (∀ b : Unit, True) → w' = w → (do loadVar t (← asAddr (a.tmps.getD i undef)) : Sem Value).run P w = .ok v w := by
    intro w' v hx _ hw
    subst hw
    have hev : a.eval (.tmp i) = a.tmps.getD i undef := rfl
    simp only [execOp, o, run_v, Instr.loadAt, hev] at hx
    generalize a.tmps.getD i undef = y at *
    cases y with
    | pointer ad =>
      cases ad with
      | none => simp [Instr.sureAddr] at hx
      | some ad =>
        simp only [Instr.sureAddr, Sem.run_bind, Sem.run_pure, Result.andThen_ok, asAddr] at hx ⊢
        cases hq : (loadVar t ad).run P w' with
        | ok u w2 => rw [hq] at hx; simp at hx; obtain ⟨rfl, rfl⟩ := hx; rfl
        | halt h2 w2 => rw [hq] at hx; simp at hx
    | _ => simp [Instr.sureAddr] at hx
  have key : ∃ v x, (execOp a.eval o).run P w = .ok (.value v) w ∧ k x ∧ Rep B I x v := by
    exact s_loadq (K := fun v _ => k v) (o := o) (env := e) rfl hc he hs hk
  obtain ⟨v, x, h2, h3, h4⟩ := key
  exact ⟨v, x, hsame h2 (fun _ => trivial) rfl, h3, h4⟩
theorem resOne_sound {r : ResultVar} {s : SRes} {k : V → Prop} (hc : chkRes P a.tmps.size [r] [s] = true) (he : REnv B I e a.tmps) (hs : Sim f B I w H) (hk : resOne P s e H k) :
    ∃ v x, (resF a.tmps r).run P w = .ok v w ∧ k x ∧ Rep B I x v := by
  cases r with
  | tmp t =>
    cases s <;> simp only [chkRes, Bool.false_eq_true, Bool.and_eq_true, beq_iff_eq, decide_eq_true_eq] at hc
    obtain ⟨⟨rfl, ht⟩, _⟩ := hc
    refine ⟨_, _, rfl, hk, ?_⟩
    have := he t (a.tmps[t]) (by simp [ht])
    simpa [Array.getD, ht] using this
  | cell b t =>
   cases s with
   | tmp u => simp [chkRes] at hc
   | cell g m u =>
    simp only [chkRes, Bool.and_eq_true, beq_iff_eq, decide_eq_true_eq] at hc
    obtain ⟨⟨⟨⟨⟨rfl, hb⟩, hg⟩, hm⟩, h1⟩, _⟩ := hc
    have hk' : exOp P (.load g m (.tmp b)) e H (fun v _ => k v) := by
      simp only [resOne] at hk
      split at hk
      · exact hk
      · exact hk
      · exact hk.elim
    exact load_sound hb hg hm h1 he hs hk'
theorem chkRes_cons {r : ResultVar} {s : SRes} {l : List ResultVar} {m : List SRes} {n : Nat} : chkRes P n (r :: l) (s :: m) = (chkRes P n [r] [s] && chkRes P n l m) := by
  cases r <;> cases s <;> simp [chkRes, Bool.and_assoc]
theorem resL_sound : ∀ {rs : List ResultVar} {ss : List SRes} {k : List V → Prop}, chkRes P a.tmps.size rs ss = true → REnv B I e a.tmps → Sim f B I w H → resL P ss e H k →
    ∃ vs xs, (rs.mapM (resF a.tmps)).run P w = .ok vs w ∧ k xs ∧ RepL B I xs vs
  | [], [], k, _, _, _, hk => ⟨[], [], by simp, hk, by simp [RepL]⟩
  | r :: rs, s :: ss, k, hc, he, hs, hk => by
    rw [chkRes_cons, Bool.and_eq_true] at hc
    obtain ⟨v, x, h1, h2, h3⟩ := resOne_sound hc.1 he hs hk
    obtain ⟨vs, xs, h4, h5, h6⟩ := resL_sound hc.2 he hs h2
    refine ⟨v :: vs, x :: xs, ?_, h5, by simp only [RepL]; exact ⟨v, vs, rfl, h3, h6⟩⟩
    rw [List.mapM_cons, Sem.run_bind, h1]
    simp only [Result.andThen_ok, Sem.run_bind, h4, Sem.run_pure]
  | [], _ :: _, _, hc, _, _, _ => by simp [chkRes] at hc
  | r :: _, [], _, hc, _, _, _ => by cases r <;> simp [chkRes] at hc
theorem results_sound {fn : Func} {ss : List SRes} {k : V → Prop} (hc : chkRes P a.tmps.size fn.results.toList ss = true) (he : REnv B I e a.tmps) (hs : Sim f B I w H) (hk : resP P ss e H k) :
    ∃ v x, (results fn a.tmps).run P w = .ok v w ∧ k x ∧ Rep B I x v := by
  rw [results_eq, Array.mapM_eq_mapM_toList]
  simp only [Sem.run_bind, Sem.run_map]
  cases hl : ss with
  | nil =>
    rw [hl] at hk hc
    obtain ⟨vs, xs, h1, h2, h3⟩ := resL_sound (k := fun vs => k (.tup vs)) hc he hs hk
    have hlen := h3.length
    have : fn.results.toList = [] := by
      cases hr : fn.results.toList with
      | nil => rfl
      | cons r l => rw [hr] at hc; cases r <;> simp [chkRes] at hc
    rw [h1]
    rw [this] at h1
    simp at h1
    subst h1
    refine ⟨.tuple #[], .tup xs, by simp, h2, by simp only [Rep]; exact ⟨#[], rfl, h3⟩⟩
  | cons s l =>
    rw [hl] at hk hc
    cases l with
    | nil =>
      obtain ⟨r, hr⟩ : ∃ r, fn.results.toList = [r] := by
        match hq : fn.results.toList with
        | [] => rw [hq] at hc; simp [chkRes] at hc
        | [r] => exact ⟨r, rfl⟩
        | r :: r2 :: l => rw [hq, chkRes_cons] at hc; cases r2 <;> simp [chkRes] at hc
      rw [hr] at hc ⊢
      obtain ⟨v, x, h1, h2, h3⟩ := resOne_sound hc he hs hk
      refine ⟨v, x, ?_, h2, h3⟩
      simp only [List.mapM_cons, List.mapM_nil, Sem.run_map, Sem.run_bind, h1, Result.andThen_ok, Sem.run_pure]
      simp
    | cons s2 l =>
      have hk' : resL P (s :: s2 :: l) e H (fun vs => k (.tup vs)) := hk
      obtain ⟨vs, xs, h1, h2, h3⟩ := resL_sound (k := fun vs => k (.tup vs)) hc he hs hk'
      have hlen := h3.length
      refine ⟨.tuple vs.toArray, .tup xs, ?_, h2, by simp only [Rep]; exact ⟨vs.toArray, rfl, by simpa using h3⟩⟩
      have hvl : vs.length ≠ 1 := by
        have : vs.length = fn.results.toList.length := by
          have key : ∀ (rs : List ResultVar) (vs : List Value), (rs.mapM (resF a.tmps)).run P w = .ok vs w → ∀ ss k, chkRes P a.tmps.size rs ss = true → resL P ss e H k → vs.length = rs.length := by
            intro rs
            induction rs with
            | nil => intro vs h ss k _ _; simp at h; subst h; rfl
            | cons r rs ih =>
              intro vs h ss k hc hk
              cases ss with
              | nil => cases r <;> simp [chkRes] at hc
              | cons s ss =>
                rw [chkRes_cons, Bool.and_eq_true] at hc
                obtain ⟨v, x, h1, h2, h3⟩ := resOne_sound hc.1 he hs hk
                obtain ⟨vs', xs', h4, _, _⟩ := resL_sound hc.2 he hs h2
                rw [List.mapM_cons, Sem.run_bind, h1] at h
                simp only [Result.andThen_ok, Sem.run_bind, h4, Sem.run_pure] at h
                cases h
                simp [ih vs' h4 ss _ hc.2 h2]
          exact key _ _ h1 _ _ hc hk'
        have h2' : fn.results.toList.length = (s :: s2 :: l).length := by
          have key : ∀ (rs : List ResultVar) (ss : List SRes), chkRes P a.tmps.size rs ss = true → rs.length = ss.length := by
            intro rs
            induction rs with
            | nil => intro ss h; cases ss <;> simp [chkRes] at h ⊢
            | cons r rs ih => intro ss h; cases ss with
              | nil => cases r <;> simp [chkRes] at h
              | cons s ss => rw [chkRes_cons, Bool.and_eq_true] at h; simp [ih ss h.2]
          exact key _ _ hc
        rw [this, h2']; simp
      rw [h1]
      simp only [Result.andThen_ok, Sem.run_pure]
      simp [hvl]
end
def env0 (vs : List V) : Env := fun i => vs.getD i .und
def fin (P : Program) (rs : List SRes) (k : V → List Blk → Prop) : Kont := .post fun x e H => (x = .normal ∨ x = .ret) ∧ resP P rs e H fun v => k v H
def pfin (n : Nat) (K : V → Prop) : V → List Blk → Prop := fun v H => ∃ v', fz H n v = some v' ∧ K v'
structure Code1 (P : Program) (g : FuncId) (s : SCode) (rs : List SRes) (nt : Nat) : Prop where
  fn : ∃ fn c, P.funcs[g]? = some fn ∧ fn.body = some c ∧ fn.ntmps = nt ∧ chkCode P nt c s = true ∧ chkRes P nt fn.results.toList rs = true
  call : callable P g = true
  mixed : P.follows .mixedOrders = true
theorem env0urep {B : List Pl} {I : IM} {vs : List V} {args : Array Value} {k : Nat} (hr : RepL B I vs args.toList) : REnv B I (env0 vs) (args ++ Array.replicate k undef) := by
  intro i v hv
  unfold env0
  have hl := hr.length
  rw [Array.getElem?_append] at hv
  split at hv
  · rename_i h
    have : vs[i]? = some (vs.getD i .und) := by
      have : i < vs.length := by simp at hl; omega
      simp [this]
    obtain ⟨u, h1, h2⟩ := hr.get this
    have : args.toList[i]? = some v := by simpa using hv
    rw [this] at h1; cases h1; exact h2
  · rename_i h
    have h1 : vs.getD i .und = .und := by
      have : ¬ i < vs.length := by simp at hl; omega
      simp [List.getElem?_eq_none (Nat.le_of_not_lt this)]
    rw [h1]
    simp only [Rep]
    rw [Array.getElem?_replicate] at hv
    split at hv
    · cases hv; rfl
    · cases hv
theorem body_sound {P : Program} {g : FuncId} {s : SCode} {rs : List SRes} {nt : Nat} (hc : Code1 P g s rs nt) {n : Nat} {vs : List V} {H : List Blk} {k : V → List Blk → Prop} (hvs : vs.length ≤ nt)
    (hF : F P n (.code s (env0 vs) H (fin P rs k))) {f : Fr} {B : List Pl} {I : IM} {w : World} {args : Array Value} (hs : Sim f B I w H) (hr : RepL B I vs args.toList) :
    Calls P g args w (fun e w' => ∃ r v H' B' I', e = .returned v ∧ k r H' ∧ Sim f B' I' w' H' ∧ BLe B B' ∧ ILe I I' ∧ Rep B' I' r v) := by
  obtain ⟨fn, c, hfn, hb, hnt, hcode, hres⟩ := hc.fn
  have hl := hr.length
  have hsize : ({ tmps := args ++ Array.replicate (fn.ntmps - args.size) undef, defers := [] } : Act).tmps.size = nt := by
    simp at hl ⊢; omega
  refine calls_of_wp hfn hb (code_sound (f := f) hc.mixed c s hcode n (env0 vs) H (fin P rs k) B I _ w _ hF hs (env0urep hr) rfl hsize ?_)
  intro m x e H' B' I' a' w' hF' hs' hB hI he' hd' hn'
  cases m with
  | zero => exact hF'.elim
  | succ m =>
    obtain ⟨hx, hk⟩ := hF'
    obtain ⟨v, r, h1, h2, h3⟩ := results_sound (fn := fn) (by rw [hn']; exact hres) he' hs' hk
    rcases hx with rfl | rfl
    · exact ⟨hd', v, h1, r, v, H', B', I', rfl, h2, hs', hB, hI, h3⟩
    · exact ⟨hd', v, h1, r, v, H', B', I', rfl, h2, hs', hB, hI, h3⟩
theorem ACall.intro {P : Program} {g : FuncId} {s : SCode} {rs : List SRes} {nt : Nat} (hc : Code1 P g s rs nt) (n : Nat) {vs : List V} {H : List Blk} {k : V → List Blk → Prop} (hvs : vs.length ≤ nt)
    (hF : F P n (.code s (env0 vs) H (fin P rs k))) : ACall P g vs H k :=
  ⟨hc.call, fun f B I w args hs hr => body_sound hc hvs hF hs hr⟩
theorem PCall.intro {P : Program} {g : FuncId} {s : SCode} {rs : List SRes} {nt : Nat} (hc : Code1 P g s rs nt) (n : Nat) {vs : List V} {K : V → Prop} (hvs : vs.length ≤ nt) (m : Nat)
    (hF : F P n (.code s (env0 vs) [] (fin P rs (pfin m K)))) : PCall P g vs K := by
  refine ⟨hc.call, fun I w args himm hr => ?_⟩
  let f : Fr := ⟨w, fun _ => False, I⟩
  have hs : Sim f [] I w [] := by
    constructor
    · rfl
    · exact himm
    · exact ILe.refl _
    · intro b h1 h2; exact absurd h1 h2
    · rfl
    · rfl
    · rfl
    · exact Nat.le_refl _
    · intro k _ _; rfl
    · intro i p b h; simp at h
    · intro i j p q b c h; simp at h
    · intro i p b h; simp at h
  refine (body_sound hc hvs hF hs hr).mono ?_
  rintro e w' ⟨r, v, H', B', I', rfl, ⟨r', hfz, hk⟩, hs', hB, hI, hrep⟩
  have himm' : ∀ b o, (if b < w.heap.size then I b else w'.heap[b]?) = some o → w'.heap[b]? = some o := by
    intro b o hb
    split at hb
    · exact hs'.imm b o (hI b o hb)
    · exact hb
  refine ⟨r', v, fun b => if b < w.heap.size then I b else w'.heap[b]?, rfl, hk, ?_, himm', ?_, ?_, ⟨hs'.os, hs'.tape, hs'.output, hs'.size, fun k hk => hs'.keep k hk (fun h => h)⟩⟩
  · intro b o hb
    have : b < w.heap.size := (Array.getElem?_eq_some_iff.1 (himm b o hb)).1
    simp only
    rw [if_pos this]; exact hb
  · intro b h1 h2
    by_cases hlt : b < w.heap.size
    · simp only [if_pos hlt] at h2; exact absurd h1 h2
    · omega
  · refine fz_rep hs' (I2 := fun b => if b < w.heap.size then I b else w'.heap[b]?) ?_ ?_ m hfz hrep
    · intro b o hb
      by_cases hlt : b < w.heap.size
      · simp only [if_pos hlt]
        cases hq : I b with
        | some o' => rw [← hI b o' hq, hb]
        | none =>
          rcases hs'.ifresh b hq (by rw [hb]; simp) with h | h
          · have : w.heap.size ≤ b := h
            omega
          · exact h.elim
      · simp only [if_neg hlt]; exact hs'.imm b o hb
    · intro id p es hp hH
      obtain ⟨_, h2, _⟩ := hs'.own id p _ hp hH rfl
      rcases h2 with h2 | h2
      · have : ¬ p.blk < w.heap.size := by have : w.heap.size ≤ p.blk := h2; omega
        simp only [if_neg this]
      · exact h2.elim
theorem fillP_det : ∀ {parts : List (Nat × Nat × V)} {cs : List V} {k : List V → Prop}, fillP cs parts k → ∃ cs', fillP cs parts (fun x => cs' = x) ∧ k cs'
  | [], cs, k, h => ⟨cs, by simp [fillP], by simpa [fillP] using h⟩
  | (off, n, v) :: r, cs, k, h => by
    simp only [fillP] at h ⊢
    obtain ⟨h1, h2⟩ := h
    obtain ⟨cs', h3, h4⟩ := fillP_det h2
    exact ⟨cs', ⟨h1, h3⟩, h4⟩
def simpleOp : SOp → Bool
  | .call _ _ | .len _ _ | .frz _ | .snil _ _ => false
  | _ => true
theorem exOp_det {P : Program} {o : SOp} {e : Nat → V} {H : List Blk} {K : V → List Blk → Prop} (hs : simpleOp o = true) (h : exOp P o e H K) : ∃ v H1, exOp P o e H (fun r H' => v = r ∧ H1 = H') ∧ K v H1 := by
  cases o with
  | call f args => simp [simpleOp] at hs
  | len str x => simp [simpleOp] at hs
  | frz t => simp [simpleOp] at hs
  | snil n x => simp [simpleOp] at hs
  | mkemp => simp only [exOp] at h ⊢; exact ⟨_, _, ⟨rfl, rfl⟩, h⟩
  | jalloc => simp only [exOp] at h ⊢; exact ⟨_, _, ⟨rfl, rfl⟩, h⟩
  | buildF esz xs => simp only [exOp] at h ⊢; exact ⟨_, _, ⟨h.1, rfl, rfl⟩, h.2⟩
  | mov x => simp only [exOp] at h ⊢; exact ⟨_, _, ⟨rfl, rfl⟩, h⟩
  | pick c a b =>
    simp only [exOp] at h ⊢
    split at h
    · rename_i b' hb
      cases b'
      · exact ⟨_, _, ⟨fun h => by simp at h, fun _ => ⟨rfl, rfl⟩⟩, h.2 rfl⟩
      · exact ⟨_, _, ⟨fun _ => ⟨rfl, rfl⟩, fun h => by simp at h⟩, h.1 rfl⟩
    · exact h.elim
  | alloc z => simp only [exOp] at h ⊢; exact ⟨_, _, ⟨rfl, rfl⟩, h⟩
  | box x => simp only [exOp] at h ⊢; exact ⟨_, _, ⟨h.1, rfl, rfl⟩, h.2⟩
  | build z parts =>
    simp only [exOp] at h ⊢
    obtain ⟨cs', h1, h2⟩ := fillP_det h
    refine ⟨_, _, ?_, h2⟩
    have : (fun x => cs' = x) = (fun cs => V.agg cs' = V.agg cs ∧ H = H) := by funext cs; simp
    rw [this] at h1; exact h1
  | buildS esz xs => simp only [exOp] at h ⊢; exact ⟨_, _, ⟨h.1, rfl, rfl⟩, h.2⟩
  | load agg n a =>
    simp only [exOp] at h ⊢
    split at h
    · split at h
      · exact ⟨_, _, ⟨h.1, rfl, rfl⟩, h.2⟩
      · exact h.elim
    · exact ⟨_, _, ⟨h.1, rfl, rfl⟩, h.2⟩
    · exact h.elim
  | store n a x =>
    simp only [exOp] at h ⊢
    split at h
    · split at h
      · exact ⟨_, _, ⟨h.1, rfl, rfl⟩, h.2⟩
      · exact h.elim
    · exact h.elim
  | nilc x =>
    simp only [exOp] at h ⊢
    split at h
    · exact ⟨_, _, ⟨rfl, rfl⟩, h⟩
    · exact ⟨_, _, ⟨rfl, rfl⟩, h⟩
    · exact ⟨_, _, ⟨rfl, rfl⟩, h⟩
    · exact h.elim
  | bin op x y =>
    simp only [exOp] at h ⊢
    split at h
    · obtain ⟨h1, h2⟩ := h
      split at h2
      all_goals first
        | exact ⟨_, _, ⟨h1, rfl, rfl⟩, h2⟩
        | exact ⟨_, _, ⟨h1, h2.1, rfl, rfl⟩, h2.2⟩
        | exact h2.elim
    · split at h
      all_goals first
        | exact ⟨_, _, ⟨rfl, rfl⟩, h⟩
        | exact ⟨_, _, ⟨h.1, rfl, rfl⟩, h.2⟩
        | exact h.elim
    · exact h.elim
  | beq neg x y =>
    simp only [exOp] at h ⊢
    split at h
    · exact ⟨_, _, ⟨rfl, rfl⟩, h⟩
    · exact h.elim
  | un op x =>
    simp only [exOp] at h ⊢
    split at h
    · exact ⟨_, _, ⟨rfl, rfl⟩, h⟩
    · exact ⟨_, _, ⟨rfl, rfl⟩, h⟩
    · exact h.elim
  | conv k x =>
    simp only [exOp] at h ⊢
    split at h
    · exact ⟨_, _, ⟨rfl, rfl⟩, h⟩
    · exact h.elim
  | convs x =>
    simp only [exOp] at h ⊢
    split at h
    · exact ⟨_, _, ⟨rfl, rfl⟩, h⟩
    · exact h.elim
  | mkfn f a b => simp only [exOp] at h ⊢; exact ⟨_, _, ⟨rfl, rfl⟩, h⟩
  | slice esz x lo hi =>
    simp only [exOp] at h ⊢
    split at h
    · exact h.elim
    · split at h
      · split at h
        · exact h.elim
        · exact ⟨_, _, ⟨h.1, rfl, rfl⟩, h.2⟩
      · split at h
        · exact h.elim
        · split at h
          · exact ⟨_, _, ⟨h.1, rfl, rfl⟩, h.2⟩
          · exact h.elim
      · split at h
        · exact h.elim
        · exact ⟨_, _, ⟨h.1, rfl, rfl⟩, h.2⟩
      · exact h.elim
  | strsl x lo hi => simp only [exOp] at h
  | faddr off x =>
    simp only [exOp] at h ⊢
    split at h
    · exact ⟨_, _, ⟨rfl, rfl⟩, h⟩
    · exact ⟨_, _, ⟨rfl, rfl⟩, h⟩
    · exact h.elim
  | field agg off n x =>
    simp only [exOp] at h ⊢
    split at h
    · exact ⟨_, _, ⟨h.1, rfl, rfl⟩, h.2⟩
    · exact h.elim
  | iaddr esz x i =>
    simp only [exOp] at h ⊢
    split at h
    · split at h
      · exact ⟨_, _, ⟨h.1, rfl, rfl⟩, h.2⟩
      · split at h
        · exact ⟨_, _, ⟨h.1, rfl, rfl⟩, h.2⟩
        · exact h.elim
      · exact h.elim
    · exact h.elim
  | sidx x i =>
    simp only [exOp] at h ⊢
    split at h
    · exact ⟨_, _, ⟨h.1, rfl, rfl⟩, h.2⟩
    · exact h.elim
  | extract x i =>
    simp only [exOp] at h ⊢
    split at h
    · exact ⟨_, _, ⟨h.1, rfl, rfl⟩, h.2⟩
    · exact h.elim
  | append esz bytes x y =>
    simp only [exOp, appK] at h ⊢
    split at h
    · exact h.elim
    · obtain ⟨h0, h⟩ := h
      split at h
      · rename_i src _ _ _
        by_cases hsrc : src = []
        · exact ⟨_, _, ⟨h0, fun _ => ⟨rfl, rfl⟩, fun h' => absurd hsrc h'⟩, h.1 hsrc⟩
        · exact ⟨_, _, ⟨h0, fun h' => absurd h' hsrc, fun _ => ⟨(h.2 hsrc).1, rfl, rfl⟩⟩, (h.2 hsrc).2⟩
      · rename_i src _ _ _
        by_cases hsrc : src = []
        · exact ⟨_, _, ⟨h0, fun _ => ⟨rfl, rfl⟩, fun h' => absurd hsrc h'⟩, h.1 hsrc⟩
        · exact ⟨_, _, ⟨h0, fun h' => absurd h' hsrc, fun _ => ⟨(h.2 hsrc).1, rfl, rfl⟩⟩, (h.2 hsrc).2⟩
      · split at h
        · exact ⟨_, _, ⟨h0, h.1, rfl, rfl⟩, h.2⟩
        · exact h.elim
      · exact h.elim
def gCQ (P : Program) (g : FuncId) (vs : List V) (H : List Blk) (R : V → Prop) : Prop := ∃ v, ACall P g vs H (ret1 v H) ∧ R v
def gCL (P : Program) (g : FuncId) (vs : List V) (H : List Blk) (R : V → List Blk → Prop) : Prop := ∃ v H1, ACall P g vs H (ret1 v H1) ∧ R v H1
def gRq (R : V → List Blk → Prop) (H : List Blk) : V → Prop := fun v => R v H
theorem gRq_eq {R : V → List Blk → Prop} {H : List Blk} {v : V} : gRq R H v = R v H := by rw [gRq]
def gPl (P : Program) (ld : Bool) (o : SOp) (e : Env) (H : List Blk) (R : V → List Blk → Prop) : Prop := match ld with
  | true => exOp P o e H R
  | false => exOp P o e H (fun v H1 => H1 = H ∧ R v H)
def gOp (P : Program) (ld : Bool) (o : SOp) (e : Env) (H : List Blk) (R : V → List Blk → Prop) : Prop := match o with
  | .call fx args => match evX e fx with
    | .clos g first caps => match ld with
      | true => gCL P g (first ++ args.map (evX e) ++ caps) H R
      | false => gCQ P g (first ++ args.map (evX e) ++ caps) H (gRq R H)
    | _ => False
  | .len str x => match str, evX e x with
    | false, .fs es => R (.int .i64 es.length) H
    | false, .nils => R (.int .i64 0) H
    | false, .emp => R (.int .i64 0) H
    | false, .ms id off len => R (.int .i64 len) H
    | true, .str s => R (.int .i64 s.size) H
    | _, _ => False
  | .frz _ => False
  | .snil _ _ => False
  | o => gPl P ld o e H R
theorem gPl_sound {P : Program} {ld : Bool} {o : SOp} {e : Env} {H : List Blk} {R : V → List Blk → Prop} (hs : simpleOp o = true) (h : gPl P ld o e H R) :
    ∃ v H1, exOp P o e H (ret1 v H1) ∧ (ld = false → H1 = H) ∧ R v H1 := by
  cases ld with
  | true =>
    simp only [gPl] at h
    obtain ⟨v, H1, h1, h2⟩ := exOp_det hs h
    refine ⟨v, H1, ?_, by simp, h2⟩
    have : ret1 v H1 = (fun r H' => v = r ∧ H1 = H') := by funext r H'; simp only [ret1, eq_comm]
    rw [this]; exact h1
  | false =>
    simp only [gPl] at h
    obtain ⟨v, H1, h1, h2, h3⟩ := exOp_det hs h
    subst h2
    refine ⟨v, H1, ?_, by simp, h3⟩
    have : ret1 v H1 = (fun r H' => v = r ∧ H1 = H') := by funext r H'; simp only [ret1, eq_comm]
    rw [this]; exact h1
theorem gOp_sound {P : Program} {ld : Bool} {o : SOp} {e : Env} {H : List Blk} {R : V → List Blk → Prop} (h : gOp P ld o e H R) :
    ∃ v H1, exOp P o e H (ret1 v H1) ∧ (ld = false → H1 = H) ∧ R v H1 := by
  cases o with
  | call fx args =>
    simp only [gOp] at h
    split at h
    · rename_i g first caps hf
      split at h
      · obtain ⟨v, H1, h1, h2⟩ := h
        exact ⟨v, H1, by simp only [exOp, hf]; exact h1, by simp, h2⟩
      · obtain ⟨v, h1, h2⟩ := h
        exact ⟨v, H, by simp only [exOp, hf]; exact h1, by simp, h2⟩
    · exact h.elim
  | len str x =>
    simp only [gOp] at h
    simp only [exOp]
    split at h
    · rename_i es hv; rw [hv]; exact ⟨_, _, fun _ => ⟨rfl, rfl⟩, fun _ => rfl, h⟩
    · rename_i hv; rw [hv]; exact ⟨_, _, ⟨rfl, rfl⟩, fun _ => rfl, h⟩
    · rename_i hv; rw [hv]; exact ⟨_, _, ⟨rfl, rfl⟩, fun _ => rfl, h⟩
    · rename_i hv; rw [hv]; exact ⟨_, _, fun _ => ⟨rfl, rfl⟩, fun _ => rfl, h⟩
    · rename_i hv; rw [hv]; exact ⟨_, _, fun _ => ⟨rfl, rfl⟩, fun _ => rfl, h⟩
    · exact h.elim
  | frz t => simp only [gOp] at h
  | snil n x => simp only [gOp] at h
  | _ => exact gPl_sound rfl (by simpa only [gOp] using h)
theorem upd_same {e : Env} {t : Nat} {v : V} (h : e t = v) : upd e t v = e := by
  funext i; unfold upd; split
  · rename_i hi; rw [hi, h]
  · rfl
def g2 (P : Program) : List QO → Env → List Blk → List (List Blk) → List (Env × V) → (List (Env × V) → List (List Blk) → Env → List Blk → Prop) → Prop
  | [], e, H, Hs, tr, k => k tr Hs e H
  | ⟨⟨d, o, g⟩, ld, lo, hi, bs⟩ :: rest, e, H, Hs, tr, k =>
    let run := fun (e : Env) => gOp P ld o e H (fun v H1 => g2 P rest (updO e d v) H1 (if ld then Hs ++ [H1] else Hs) (tr ++ [(e, v)]) k)
    let skip := fun (e : Env) => g2 P rest (updO e d .und) H (if ld then Hs ++ [H] else Hs) (tr ++ [(e, .und)]) k
    match g with
    | none => run e
    | some (t, true) => match e t with
      | .bool b => Fork b (run (upd e t (.bool true))) (skip (upd e t (.bool false)))
      | .und => skip e
      | _ => False
    | some (t, false) => match e t with
      | .bool b => Fork b (skip (upd e t (.bool true))) (run (upd e t (.bool false)))
      | .und => skip e
      | _ => False
theorem g2usound {P : Program} : ∀ {l : List QO} {e : Env} {H : List Blk} {Hs : List (List Blk)} {tr : List (Env × V)} {k : List (Env × V) → List (List Blk) → Env → List Blk → Prop}, g2 P l e H Hs tr k → gRun P l e H Hs tr k
  | [], e, H, Hs, tr, k, h => by simpa only [g2, gRun] using h
  | ⟨⟨d, o, g⟩, ld, lo, hi, bs⟩ :: rest, e, H, Hs, tr, k, h => by
    have run : ∀ e : Env, gOp P ld o e H (fun v H1 => g2 P rest (updO e d v) H1 (if ld then Hs ++ [H1] else Hs) (tr ++ [(e, v)]) k) →
        (∀ v H1, exOp P o e H (ret1 v H1) → gstep P ⟨d, o, g⟩ e H v H1) → gRun P (⟨⟨d, o, g⟩, ld, lo, hi, bs⟩ :: rest) e H Hs tr k := by
      intro e h hg
      obtain ⟨v, H1, h1, h2, h3⟩ := gOp_sound h
      have h4 := g2usound h3
      cases ld with
      | true => simp only [gRun]; exact ⟨v, H1, hg v H1 h1, by simpa using h4⟩
      | false => have := h2 rfl; subst this; simp only [gRun]; exact ⟨v, hg v _ h1, by simpa using h4⟩
    have skip : ∀ e : Env, g2 P rest (updO e d .und) H (if ld then Hs ++ [H] else Hs) (tr ++ [(e, .und)]) k → gstep P ⟨d, o, g⟩ e H .und H → gRun P (⟨⟨d, o, g⟩, ld, lo, hi, bs⟩ :: rest) e H Hs tr k := by
      intro e h hg
      have h4 := g2usound h
      cases ld with
      | true => simp only [gRun]; exact ⟨.und, H, hg, by simpa using h4⟩
      | false => simp only [gRun]; exact ⟨.und, hg, by simpa using h4⟩
    rcases g with _ | ⟨t, want⟩
    · simp only [g2] at h
      exact run e h (fun v H1 h => by simpa [gstep] using h)
    · cases want
      · simp only [g2] at h
        split at h
        · rename_i b hb
          cases b
          · have h' := h.2 rfl; rw [upd_same hb] at h'
            exact run e h' (fun v H1 h => by simpa [gstep, hb] using h)
          · have h' := h.1 rfl; rw [upd_same hb] at h'
            exact skip e h' (by simp [gstep, hb])
        · rename_i hb; exact skip e h (by simp [gstep, hb])
        · exact h.elim
      · simp only [g2] at h
        split at h
        · rename_i b hb
          cases b
          · have h' := h.2 rfl; rw [upd_same hb] at h'
            exact skip e h' (by simp [gstep, hb])
          · have h' := h.1 rfl; rw [upd_same hb] at h'
            exact run e h' (fun v H1 h => by simpa [gstep, hb] using h)
        · rename_i hb; exact skip e h (by simp [gstep, hb])
        · exact h.elim
def gR (P : Program) (ld : Bool) (d : Option Nat) (rest : List QO) (e : Env) (Hs : List (List Blk)) (tr : List (Env × V)) (k : List (Env × V) → List (List Blk) → Env → List Blk → Prop) : V → List Blk → Prop :=
  fun v H1 => g2 P rest (updO e d v) H1 (if ld then Hs ++ [H1] else Hs) (tr ++ [(e, v)]) k
section
variable {P : Program} {e : Env} {H : List Blk} {Hs : List (List Blk)} {tr : List (Env × V)} {k : List (Env × V) → List (List Blk) → Env → List Blk → Prop} {d : Option Nat} {o : SOp} {lo hi bs : Nat} {rest : List QO} {ld : Bool}
theorem gR_t {v : V} {H1 : List Blk} : gR P true d rest e Hs tr k v H1 = g2 P rest (updO e d v) H1 (Hs ++ [H1]) (tr ++ [(e, v)]) k := by simp [gR]
theorem gR_f {v : V} {H1 : List Blk} : gR P false d rest e Hs tr k v H1 = g2 P rest (updO e d v) H1 Hs (tr ++ [(e, v)]) k := by simp [gR]
theorem g2unil : g2 P [] e H Hs tr k = k tr Hs e H := by rw [g2]
theorem g2uop : g2 P (⟨⟨d, o, none⟩, ld, lo, hi, bs⟩ :: rest) e H Hs tr k = gOp P ld o e H (gR P ld d rest e Hs tr k) := by rw [g2]; rfl
theorem g2uopT {t : Nat} : g2 P (⟨⟨d, o, some (t, true)⟩, ld, lo, hi, bs⟩ :: rest) e H Hs tr k = (match e t with
  | .bool b => Fork b (gOp P ld o (upd e t (.bool true)) H (gR P ld d rest (upd e t (.bool true)) Hs tr k)) (gR P ld d rest (upd e t (.bool false)) Hs tr k .und H)
  | .und => gR P ld d rest e Hs tr k .und H
  | _ => False) := by
  rw [g2]
  cases e t <;> rfl
theorem g2uopF {t : Nat} : g2 P (⟨⟨d, o, some (t, false)⟩, ld, lo, hi, bs⟩ :: rest) e H Hs tr k = (match e t with
  | .bool b => Fork b (gR P ld d rest (upd e t (.bool true)) Hs tr k .und H) (gOp P ld o (upd e t (.bool false)) H (gR P ld d rest (upd e t (.bool false)) Hs tr k))
  | .und => gR P ld d rest e Hs tr k .und H
  | _ => False) := by
  rw [g2]
  cases e t <;> rfl
theorem gPl_t {R : V → List Blk → Prop} : gPl P true o e H R = exOp P o e H R := by rw [gPl]
def gF (H : List Blk) (R : V → List Blk → Prop) : V → List Blk → Prop := fun v H1 => H1 = H ∧ R v H
theorem gF_eq {R : V → List Blk → Prop} {v : V} : gF H R v H = R v H := by simp [gF]
theorem gPl_f {R : V → List Blk → Prop} : gPl P false o e H R = exOp P o e H (gF H R) := by rw [gPl]; rfl
end
theorem Fork_t {b : Bool} {p q : Prop} (h : b = true) : Fork b p q = p := by subst h; exact Fork_true
theorem Fork_f {b : Bool} {p q : Prop} (h : b = false) : Fork b p q = q := by subst h; exact Fork_false
theorem F_q2 {P : Program} {n : Nat} {l : List QO} {e : Env} {H : List Blk} {k : Kont} (h : g2 P l e H [H] [] (gEnd P (F P n) l k)) : F P (n + 1) (.code (.qregion l) e H k) := by
  rw [F_qregion]; exact g2usound h
theorem gCQ.mk {P : Program} {g : FuncId} {vs : List V} {H : List Blk} {R : V → Prop} (v : V) (h : ACall P g vs H (ret1 v H)) (hr : R v) : gCQ P g vs H R := ⟨v, h, hr⟩
theorem gCQ_eqR {P : Program} {g : FuncId} {vs : List V} {H : List Blk} {R : V → Prop} {r : V} (hn : norefL vs = true) (h : PCall P g vs (· = r)) (hk : R r) : gCQ P g vs H R :=
  ⟨r, call_eqR hn h ⟨rfl, rfl⟩, hk⟩
theorem gCQ_eq {P : Program} {g : FuncId} {vs vs' : List V} {H : List Blk} {R : V → Prop} {r : V} (n : Nat) (hfz : fzL (fz H n) vs = some vs') (h : PCall P g vs' (· = r)) (hpl : plain r = true) (hk : R r) : gCQ P g vs H R :=
  ⟨r, call_eq n hfz h hpl ⟨rfl, rfl⟩, hk⟩
theorem gCL_eqR {P : Program} {g : FuncId} {vs : List V} {H : List Blk} {R : V → List Blk → Prop} {r : V} (hn : norefL vs = true) (h : PCall P g vs (· = r)) (hk : R r H) : gCL P g vs H R :=
  ⟨r, H, call_eqR hn h ⟨rfl, rfl⟩, hk⟩
theorem gCL_eq {P : Program} {g : FuncId} {vs vs' : List V} {H : List Blk} {R : V → List Blk → Prop} {r : V} (n : Nat) (hfz : fzL (fz H n) vs = some vs') (h : PCall P g vs' (· = r)) (hpl : plain r = true) (hk : R r H) : gCL P g vs H R :=
  ⟨r, H, call_eq n hfz h hpl ⟨rfl, rfl⟩, hk⟩
theorem gCL.mk {P : Program} {g : FuncId} {vs : List V} {H H1 : List Blk} {R : V → List Blk → Prop} {r : V} (h : ACall P g vs H (ret1 r H1)) (hk : R r H1) : gCL P g vs H R := ⟨r, H1, h, hk⟩
theorem ACall.fz {P : Program} {g : FuncId} {vs : List V} {H : List Blk} {K : V → List Blk → Prop}
    (h : ACall P g vs H (fun r H' => ∃ D r', fz (keepL D H') 20 r = some r' ∧ K r' (killL D H'))) : ACall P g vs H K := by
  refine ⟨h.1, fun f B I w args hs hr => (h.2 f B I w args hs hr).mono ?_⟩
  rintro e w' ⟨r, v, H', B', I', rfl, ⟨D, r', hf, hk⟩, hs', hB, hI, hrep⟩
  obtain ⟨I2, hI2, hs2, hrep2⟩ := hs'.freeze D
  exact ⟨r', v, _, B', I2, rfl, hk, hs2, hB, hI.trans hI2, (hrep2 20 hf hrep).mono (fun i p h => by simp at h) (ILe.refl _)⟩
mutual
def idl (n : Nat) : V → Bool
  | .ptr id _ _ | .ms id _ _ | .map id => decide (id < n)
  | .rptr l | .fs l | .agg l | .tup l => idlL n l
  | .fmap a b => idlL n a && idlL n b
  | .clos _ a b => idlL n a && idlL n b
  | .iface _ v => idl n v
  | _ => true
def idlL (n : Nat) : List V → Bool
  | [] => true
  | v :: l => idl n v && idlL n l
end
mutual
theorem rep_idl {B : List Pl} {I : IM} : ∀ {x : V} {v : Value}, Rep B I x v → idl B.length x = true
  | .any, _, h | .und, _, h | .bool _, _, h | .int _ _, _, h | .str _, _, h | .nilp, _, h | .nils, _, h | .emp, _, h | .nilmap, _, h | .nilf, _, h | .nili, _, h => by simp [idl]
  | .ptr id i c, _, h => by
    simp only [Rep, idl, decide_eq_true_eq] at *
    obtain ⟨p, hp, _⟩ := h
    exact (List.getElem?_eq_some_iff.1 hp).1
  | .ms id off len, _, h => by
    simp only [Rep, idl, decide_eq_true_eq] at *
    obtain ⟨p, a, cap, hp, _⟩ := h
    exact (List.getElem?_eq_some_iff.1 hp).1
  | .map id, _, h => by
    simp only [Rep, idl, decide_eq_true_eq] at *
    obtain ⟨p, hp, _⟩ := h
    exact (List.getElem?_eq_some_iff.1 hp).1
  | .rptr cells, _, h => by
    simp only [Rep, idl] at *
    obtain ⟨b, o, h1, h2⟩ := h
    exact cells_idl h2
  | .fs elems, _, h => by
    simp only [Rep, idl] at *
    obtain ⟨a, cap, h1, h2, h3, h4⟩ := h
    rcases h4 with h4 | ⟨b, o, sz, h5, h6⟩
    · subst h4; rfl
    · exact elems_idl h6
  | .fmap ks vs, _, h => by
    simp only [Rep, idl, Bool.and_eq_true] at *
    obtain ⟨b, es, clock, h1, h2, h3, h4⟩ := h
    exact ⟨repL_idl h3, repL_idl h4⟩
  | .clos f first caps, _, h => by
    simp only [Rep, idl, Bool.and_eq_true] at *
    obtain ⟨fs, cs, h1, h2, h3⟩ := h
    exact ⟨repL_idl h2, repL_idl h3⟩
  | .agg cells, _, h => by
    simp only [Rep, idl] at *
    obtain ⟨cs, h1, h2⟩ := h
    exact repL_idl h2
  | .tup cells, _, h => by
    simp only [Rep, idl] at *
    obtain ⟨cs, h1, h2⟩ := h
    exact repL_idl h2
  | .iface t x, _, h => by
    simp only [Rep, idl] at *
    obtain ⟨u, h1, h2⟩ := h
    exact rep_idl h2
theorem repL_idl {B : List Pl} {I : IM} : ∀ {xs : List V} {l : List Value}, RepL B I xs l → idlL B.length xs = true
  | [], _, h => rfl
  | c :: cs, _, h => by
    simp only [RepL, idlL, Bool.and_eq_true] at *
    obtain ⟨v, vs, h1, h2, h3⟩ := h
    exact ⟨rep_idl h2, repL_idl h3⟩
theorem cells_idl {B : List Pl} {I : IM} : ∀ {xs : List V} {g : Nat → Option Value} {o : Nat}, CellsG B I xs g o → idlL B.length xs = true
  | [], _, _, h => rfl
  | c :: cs, _, _, h => by
    simp only [CellsG, idlL, Bool.and_eq_true] at *
    obtain ⟨⟨v, h1, h2⟩, h3⟩ := h
    exact ⟨rep_idl h2, cells_idl h3⟩
theorem elems_idl {B : List Pl} {I : IM} : ∀ {xs : List V} {g : Nat → Option Value} {sz o : Nat}, ElemsG B I xs g sz o → idlL B.length xs = true
  | [], _, _, _, h => rfl
  | .agg cs :: es, _, _, _, h => by
    simp only [ElemsG, idlL, idl, Bool.and_eq_true] at *
    exact ⟨cells_idl h.2.1, elems_idl h.2.2⟩
  | e :: es, _, _, _, h => by
    have he : ∀ v, Rep B I e v → idl B.length e = true := fun v hv => rep_idl hv
    have hes := fun g sz o => elems_idl (B := B) (I := I) (xs := es) (g := g) (sz := sz) (o := o)
    simp only [idlL, Bool.and_eq_true]
    cases e with
    | agg cs =>
      simp only [ElemsG, idl] at *
      exact ⟨cells_idl h.2.1, hes _ _ _ h.2.2⟩
    | _ =>
      simp only [ElemsG] at h
      obtain ⟨h0, ⟨v, h1, h2⟩, h3⟩ := h
      exact ⟨he v h2, hes _ _ _ h3⟩
end
section
variable {B B' : List Pl} {I : IM} {n : Nat} (hB : ∀ i, i < n → B'[i]? = B[i]?)
include hB
mutual
theorem idl_rep : ∀ {x : V} {v : Value}, idl n x = true → Rep B I x v → Rep B' I x v
  | .any, _, _, h => by simp [Rep]
  | .und, _, _, h => by simpa [Rep] using h
  | .bool _, _, _, h => by simpa [Rep] using h
  | .int _ _, _, _, h => by simpa [Rep] using h
  | .str _, _, _, h => by simpa [Rep] using h
  | .nilp, _, _, h => by simpa [Rep] using h
  | .nils, _, _, h => by simpa [Rep] using h
  | .emp, _, _, h => by simpa [Rep] using h
  | .nilmap, _, _, h => by simpa [Rep] using h
  | .nilf, _, _, h => by simpa [Rep] using h
  | .nili, _, _, h => by simpa [Rep] using h
  | .ptr id i c, _, hn, h => by
    simp only [Rep, idl, decide_eq_true_eq] at *
    rw [hB id hn]; exact h
  | .ms id off len, _, hn, h => by
    simp only [Rep, idl, decide_eq_true_eq] at *
    rw [hB id hn]; exact h
  | .map id, _, hn, h => by
    simp only [Rep, idl, decide_eq_true_eq] at *
    rw [hB id hn]; exact h
  | .rptr cells, _, hn, h => by
    simp only [Rep, idl] at *
    obtain ⟨b, o, h1, h2⟩ := h
    exact ⟨b, o, h1, idl_cells hn h2⟩
  | .fs elems, _, hn, h => by
    simp only [Rep, idl] at *
    obtain ⟨a, cap, h1, h2, h3, h4⟩ := h
    refine ⟨a, cap, h1, h2, h3, ?_⟩
    rcases h4 with h4 | ⟨b, o, sz, h5, h6⟩
    · exact .inl h4
    · exact .inr ⟨b, o, sz, h5, idl_elems hn h6⟩
  | .fmap ks vs, _, hn, h => by
    simp only [Rep, idl, Bool.and_eq_true] at *
    obtain ⟨b, es, clock, h1, h2, h3, h4⟩ := h
    exact ⟨b, es, clock, h1, h2, idl_repL hn.1 h3, idl_repL hn.2 h4⟩
  | .clos f first caps, _, hn, h => by
    simp only [Rep, idl, Bool.and_eq_true] at *
    obtain ⟨fs, cs, h1, h2, h3⟩ := h
    exact ⟨fs, cs, h1, idl_repL hn.1 h2, idl_repL hn.2 h3⟩
  | .agg cells, _, hn, h => by
    simp only [Rep, idl] at *
    obtain ⟨cs, h1, h2⟩ := h
    exact ⟨cs, h1, idl_repL hn h2⟩
  | .tup cells, _, hn, h => by
    simp only [Rep, idl] at *
    obtain ⟨cs, h1, h2⟩ := h
    exact ⟨cs, h1, idl_repL hn h2⟩
  | .iface t x, _, hn, h => by
    simp only [Rep, idl] at *
    obtain ⟨u, h1, h2⟩ := h
    exact ⟨u, h1, idl_rep hn h2⟩
theorem idl_repL : ∀ {xs : List V} {l : List Value}, idlL n xs = true → RepL B I xs l → RepL B' I xs l
  | [], _, _, h => by simpa [RepL] using h
  | c :: cs, _, hn, h => by
    simp only [RepL, idlL, Bool.and_eq_true] at *
    obtain ⟨v, vs, h1, h2, h3⟩ := h
    exact ⟨v, vs, h1, idl_rep hn.1 h2, idl_repL hn.2 h3⟩
theorem idl_cells : ∀ {xs : List V} {g : Nat → Option Value} {o : Nat}, idlL n xs = true → CellsG B I xs g o → CellsG B' I xs g o
  | [], _, _, _, h => by simp [CellsG]
  | c :: cs, _, _, hn, h => by
    simp only [CellsG, idlL, Bool.and_eq_true] at *
    obtain ⟨⟨v, h1, h2⟩, h3⟩ := h
    exact ⟨⟨v, h1, idl_rep hn.1 h2⟩, idl_cells hn.2 h3⟩
theorem idl_elems : ∀ {xs : List V} {g : Nat → Option Value} {sz o : Nat}, idlL n xs = true → ElemsG B I xs g sz o → ElemsG B' I xs g sz o
  | [], _, _, _, _, h => by simp [ElemsG]
  | .agg cs :: es, _, _, _, hn, h => by
    simp only [ElemsG, idlL, idl, Bool.and_eq_true] at *
    exact ⟨h.1, idl_cells hn.1 h.2.1, idl_elems hn.2 h.2.2⟩
  | e :: es, _, _, _, hn, h => by
    simp only [idlL, Bool.and_eq_true] at hn
    have he : ∀ v, Rep B I e v → Rep B' I e v := fun v hv => idl_rep hn.1 hv
    have hes := fun g sz o => idl_elems (xs := es) (g := g) (sz := sz) (o := o) hn.2
    cases e with
    | agg cs =>
      simp only [ElemsG, idl] at *
      exact ⟨h.1, idl_cells hn.1 h.2.1, hes _ _ _ h.2.2⟩
    | _ =>
      simp only [ElemsG] at *
      obtain ⟨h0, ⟨v, h1, h2⟩, h3⟩ := h
      exact ⟨h0, ⟨v, h1, he v h2⟩, hes _ _ _ h3⟩
end
end
theorem Sim.trim {f : Fr} {B B' : List Pl} {I I' : IM} {w w' : World} {H H2 X : List Blk} (hs : Sim f B I w H) (hs' : Sim f B' I' w' (H2 ++ X)) (hB : BLe B B') (hl : H2.length = H.length)
    (hrow : ∀ (i : Nat) es, H2[i]? = some (.row es) → H[i]? = some (.row es) ∨ norefL es = true) : Sim f (B'.take H2.length) I' w' H2 ∧ BLe B (B'.take H2.length) := by
  have hbl : B.length = H2.length := by rw [hs.len, hl]
  have hBl : ∀ i p, (B'.take H2.length)[i]? = some p → i < H2.length ∧ B'[i]? = some p := by
    intro i p h
    rw [List.getElem?_take] at h
    split at h
    · exact ⟨by assumption, h⟩
    · cases h
  have hHl : ∀ (i : Nat) b, H2[i]? = some b → (H2 ++ X)[i]? = some b := by
    intro i b h
    rw [List.getElem?_append_left (List.getElem?_eq_some_iff.1 h).1]; exact h
  have hsame : ∀ i, i < H2.length → (B'.take H2.length)[i]? = B'[i]? := fun i hi => by rw [List.getElem?_take, if_pos hi]
  refine ⟨?_, ?_⟩
  · constructor
    · have := hs'.len
      rw [List.length_append] at this
      rw [List.length_take]; omega
    · exact hs'.imm
    · exact hs'.ile
    · exact hs'.ifresh
    · exact hs'.os
    · exact hs'.tape
    · exact hs'.output
    · exact hs'.size
    · exact hs'.keep
    · intro i p b h1 h2
      obtain ⟨hi, h3⟩ := hBl i p h1
      have hok := hs'.ok i p b h3 (hHl i b h2)
      cases b with
      | dead => trivial
      | row es =>
        obtain ⟨carr, e, h4, h5, h6, h7⟩ := hok
        refine ⟨carr, e, h4, h5, h6, ?_⟩
        rcases hrow i es h2 with h8 | h8
        · have hp : ∃ q, B[i]? = some q := ⟨B[i]'(by omega), List.getElem?_eq_getElem _⟩
          obtain ⟨q, hq⟩ := hp
          obtain ⟨carr0, e0, _, _, _, h9⟩ := hs.ok i q _ hq h8
          have h10 := elems_idl h9
          rw [hbl] at h10
          exact idl_elems hsame h10 h7
        · exact noref_elems h8 h7
    · intro i j p q b c h1 h2 h3 h4 hb hc he
      exact hs'.sep i j p q b c (hBl i p h1).2 (hBl j q h2).2 (hHl i b h3) (hHl j c h4) hb hc he
    · intro i p b h1 h2 hb
      exact hs'.own i p b (hBl i p h1).2 (hHl i b h2) hb
  · intro i p h
    have hi : i < H2.length := by rw [← hbl]; exact (List.getElem?_eq_some_iff.1 h).1
    rw [hsame i hi]; exact hB i p h
theorem ACall.trim {P : Program} {g : FuncId} {vs : List V} {H : List Blk} {K : V → List Blk → Prop}
    (h : ACall P g vs H (fun r H' => ∃ H2 X, H' = H2 ++ X ∧ H2.length = H.length ∧ (∀ (i : Nat) es, H2[i]? = some (.row es) → H[i]? = some (.row es) ∨ norefL es = true) ∧ noref r = true ∧ K r H2)) : ACall P g vs H K := by
  refine ⟨h.1, fun f B I w args hs hr => (h.2 f B I w args hs hr).mono ?_⟩
  rintro e w' ⟨r, v, H', B', I', rfl, ⟨H2, X, rfl, hl, hrow, hnr, hk⟩, hs', hB, hI, hrep⟩
  obtain ⟨h1, h2⟩ := hs.trim hs' hB hl hrow
  exact ⟨r, v, H2, _, I', rfl, hk, h1, h2, hI, noref_rep hnr hrep⟩
theorem ACall.trimM {P : Program} {g : FuncId} {vs : List V} {H : List Blk} {K : V → List Blk → Prop}
    (h : ACall P g vs H (fun r H' => ∃ H2 X id off len es, H' = H2 ++ X ∧ H2.length = H.length ∧ (∀ (i : Nat) es, H2[i]? = some (.row es) → H[i]? = some (.row es) ∨ norefL es = true) ∧
      r = .ms (H2.length + id) off len ∧ X[id]? = some (.row es) ∧ norefL es = true ∧ K (.ms H2.length off len) (H2 ++ [.row es]))) : ACall P g vs H K := by
  refine ⟨h.1, fun f B I w args hs hr => (h.2 f B I w args hs hr).mono ?_⟩
  rintro e w' ⟨r, v, H', B', I', rfl, ⟨H2, X, id, off, len, es, rfl, hl, hrow, rfl, hX, hes, hk⟩, hs', hB, hI, hrep⟩
  obtain ⟨h1, h2⟩ := hs.trim hs' hB hl hrow
  simp only [Rep] at hrep
  obtain ⟨p, a, cap, hp, hv⟩ := hrep
  have hid : (H2 ++ X)[H2.length + id]? = some (.row es) := by rw [List.getElem?_append_right (by omega)]; rw [← hX]; congr 1; omega
  refine ⟨_, v, H2 ++ [.row es], B'.take H2.length ++ [p], I', rfl, hk, ?_, h2.trans (BLe.append _ _), hI, ?_⟩
  · refine h1.push _ _ ?_ ?_ ?_
    · obtain ⟨carr, e, h4, h5, h6, h7⟩ := hs'.ok _ p _ hp hid
      exact ⟨carr, e, h4, h5, h6, noref_elems hes h7⟩
    · intro i q c h3 h4 hc heq
      have hi : i < H2.length := (List.getElem?_eq_some_iff.1 h4).1
      rw [List.getElem?_take, if_pos hi] at h3
      have := hs'.sep i (H2.length + id) q p c _ h3 hp (by rw [List.getElem?_append_left hi]; exact h4) hid hc rfl heq
      omega
    · exact hs'.own _ p _ hp hid rfl
  · simp only [Rep]
    refine ⟨p, a, cap, ?_, hv⟩
    rw [getElem?_append_one, if_pos h1.len.symm]
theorem ACall.of1 {P : Program} {g : FuncId} {vs : List V} {H H1 : List Blk} {K : V → List Blk → Prop} {r : V} (h : ACall P g vs H (ret1 r H1)) (hk : K r H1) : ACall P g vs H K :=
  h.mono (fun r' H' h => by obtain ⟨rfl, rfl⟩ := h; exact hk)
section
variable {esz bytes : Nat} {src : List V} {yv : V} {H : List Blk} {K : V → List Blk → Prop}
theorem appK_nils : appK esz bytes src yv .nils H K = ((src = [] → K .nils H) ∧ (src ≠ [] → src.length * bytes ≤ 140737488355328 ∧ K (.ms H.length 0 src.length) (H ++ [.row src]))) := by rw [appK]
theorem appK_emp : appK esz bytes src yv .emp H K = ((src = [] → K .emp H) ∧ (src ≠ [] → src.length * bytes ≤ 140737488355328 ∧ K (.ms H.length 0 src.length) (H ++ [.row src]))) := by rw [appK]
def appM (esz bytes : Nat) (src : List V) (yv : V) (id off len : Nat) (b : Option Blk) (H : List Blk) (K : V → List Blk → Prop) : Prop := match b with
  | some (.row es) => (off + len = es.length ∧ es ≠ [] ∧ headOk esz es ∧ (∀ i o l, yv = .ms i o l → i ≠ id) ∧ (len + src.length) * bytes ≤ 140737488355328) ∧ K (.ms H.length 0 (len + src.length)) (H.set id .dead ++ [.row (es.drop off ++ src)])
  | _ => False
theorem appM_row {id off len : Nat} {es : List V} : appM esz bytes src yv id off len (some (.row es)) H K = ((off + len = es.length ∧ es ≠ [] ∧ headOk esz es ∧ (∀ i o l, yv = .ms i o l → i ≠ id) ∧ (len + src.length) * bytes ≤ 140737488355328) ∧ K (.ms H.length 0 (len + src.length)) (H.set id .dead ++ [.row (es.drop off ++ src)])) := by rw [appM]
theorem appK_ms {id off len : Nat} : appK esz bytes src yv (.ms id off len) H K = appM esz bytes src yv id off len (H[id]?) H K := by
  rw [appK]
  cases H[id]? with
  | none => rfl
  | some b => cases b <;> rfl
end
def kvne (kv : V) (j : Nat) : Prop := ∀ a b, kv ≠ .ms j a b
def OV (H : List Blk) (kv : V) (acc : List V) : Prop := (acc = [] ∧ kv = .nils) ∨ (acc ≠ [] ∧ ∃ id, kv = .ms id 0 acc.length ∧ H[id]? = some (.row acc))
theorem app_OV {esz bytes : Nat} {src : List V} {yv kv : V} {H : List Blk} {K : V → List Blk → Prop} {acc : List V} (hov : OV H kv acc) (hy : ∀ i o l, yv = .ms i o l → kvne kv i) (hh : headOk esz acc) (hb : (acc.length + src.length) * bytes ≤ 140737488355328)
    (hk : ∀ kv' H', OV H' kv' (acc ++ src) → H.length ≤ H'.length → (∀ j, j < H.length → kvne kv j → H'[j]? = H[j]? ∧ kvne kv' j) → K kv' H') : appK esz bytes src yv kv H K := by
  rcases hov with ⟨rfl, rfl⟩ | ⟨hn, id, rfl, hid⟩
  · rw [appK_nils]
    refine ⟨fun h => ?_, fun h => ⟨by simpa using hb, ?_⟩⟩
    · subst h; exact hk _ _ (.inl ⟨rfl, rfl⟩) (Nat.le_refl _) (fun j _ hj => ⟨rfl, hj⟩)
    · refine hk _ _ (.inr ⟨by simpa using h, H.length, by simp, by simp⟩) (by simp) (fun j hj _ => ⟨by rw [List.getElem?_append_left hj], fun a b h => ?_⟩)
      injection h; omega
  · have hl := (List.getElem?_eq_some_iff.1 hid).1
    rw [appK_ms, hid, appM_row]
    refine ⟨⟨by simp, hn, hh, fun i o l h => ?_, hb⟩, ?_⟩
    · intro he; subst he; exact hy _ o l h 0 _ rfl
    · refine hk _ _ (.inr ⟨by simp [hn], H.length, by simp, by rw [List.getElem?_append_right (by simp)]; simp⟩) (by simp) (fun j hj hkj => ⟨?_, fun a b h => ?_⟩)
      · rw [List.getElem?_append_left (by simpa using hj), List.getElem?_set_ne]
        intro he; subst he; exact hkj 0 _ rfl
      · injection h; omega
end Go.Proofs.YteoboibjepokoaaGreatDoor.Av
