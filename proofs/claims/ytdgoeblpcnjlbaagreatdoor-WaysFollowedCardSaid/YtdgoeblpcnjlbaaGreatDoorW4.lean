/- Proved: for every list of numbers the law WaysFollowed answers true and leaves its argument as it was (the tied card); no condition beyond the row's own. Text 4 of 15. -/
import Derived.Test.YtdgoeblpcnjlbaaGreatDoorW3
set_option linter.unusedVariables false
set_option linter.unusedSimpArgs false
set_option linter.unusedSectionVars false
set_option linter.all false
namespace Go.Proofs.YtdgoeblpcnjlbaaGreatDoor.Av
open Go.RowKit
def PCall (P : Program) (g : FuncId) (vs : List V) (K : V → Prop) : Prop :=
  callable P g = true ∧ ∀ (I : IM) (w : World) (args : Array Value), (∀ b o, I b = some o → w.heap[b]? = some o) → RepL [] I vs args.toList →
    Calls P g args w (fun e w' => ∃ r v I', e = .returned v ∧ K r ∧ ILe I I' ∧ (∀ b o, I' b = some o → w'.heap[b]? = some o) ∧ (∀ b, I b = none → I' b ≠ none → w.heap.size ≤ b) ∧ Rep [] I' r v ∧ Below w.heap.size w w')
theorem PCall.mono {P : Program} {g : FuncId} {vs : List V} {K K' : V → Prop} (h : PCall P g vs K) (hk : ∀ r, K r → K' r) : PCall P g vs K' :=
  ⟨h.1, fun I w args h1 h2 => (h.2 I w args h1 h2).mono fun e w' ⟨r, v, I', h3, h4, h5⟩ => ⟨r, v, I', h3, hk r h4, h5⟩⟩
theorem ACall.mono {P : Program} {g : FuncId} {vs : List V} {H : List Blk} {K K' : V → List Blk → Prop} (h : ACall P g vs H K) (hk : ∀ r H', K r H' → K' r H') : ACall P g vs H K' :=
  ⟨h.1, fun f B I w args h1 h2 => (h.2 f B I w args h1 h2).mono fun e w' ⟨r, v, H', B', I', h3, h4, h5⟩ => ⟨r, v, H', B', I', h3, hk r H' h4, h5⟩⟩
theorem repL_mono_nil {B : List Pl} {I I' : IM} {x : V} {v : Value} (h : Rep [] I x v) (hI : ILe I I') : Rep B I' x v :=
  h.mono (fun i p hp => by simp at hp) hI
theorem call_pure {P : Program} {g : FuncId} {vs vs' : List V} {H : List Blk} {K : V → List Blk → Prop} (n : Nat) (hfz : fzL (fz H n) vs = some vs') {R : V → Prop} (h : PCall P g vs' R)
    (hpl : ∀ r, R r → plain r = true) (hk : ∀ r, R r → K r H) : ACall P g vs H K := by
  refine ⟨h.1, fun f B I w args hs hr => ?_⟩
  have hr' : RepL [] (fun b => w.heap[b]?) vs' args.toList := by
    obtain ⟨h1, h2⟩ := fzL_spec hfz
    rw [repL_iff] at hr ⊢
    refine ⟨by rw [h1]; exact hr.1, fun j c hj => ?_⟩
    obtain ⟨y, h3, h4⟩ := h2 j c hj
    obtain ⟨u, h5, h6⟩ := hr.2 j y h3
    exact ⟨u, h5, fz_rep hs (I2 := fun b => w.heap[b]?) hs.imm (fun _ _ _ _ _ _ => rfl) n h4 h6⟩
  refine (h.2 _ w args (fun b o hb => hb) hr').mono ?_
  rintro e w' ⟨r, v, I', rfl, hR, _, _, _, hrep, hb⟩
  refine ⟨r, v, H, B, I, rfl, hk r hR, hs.grow hb (ILe.refl _) (fun b o hI => ?_) (fun b h1 h2 => absurd h1 h2), BLe.refl _, ILe.refl _, plain_rep (hpl r hR) hrep⟩
  rw [hb.block b (hs.ilt (by rw [hI]; simp))]; exact hs.imm b o hI
theorem call_pureR {P : Program} {g : FuncId} {vs : List V} {H : List Blk} {K : V → List Blk → Prop} (hn : norefL vs = true) {R : V → Prop} (h : PCall P g vs R) (hk : ∀ r, R r → K r H) : ACall P g vs H K := by
  refine ⟨h.1, fun f B I w args hs hr => ?_⟩
  refine (h.2 I w args hs.imm (noref_repL hn hr)).mono ?_
  rintro e w' ⟨r, v, I', rfl, hR, hI, himm, hfr, hrep, hb⟩
  exact ⟨r, v, H, B, I', rfl, hk r hR, hs.grow hb hI himm hfr, BLe.refl _, hI, repL_mono_nil hrep (ILe.refl _)⟩
theorem call_eq {P : Program} {g : FuncId} {vs vs' : List V} {H : List Blk} {K : V → List Blk → Prop} {r : V} (n : Nat) (hfz : fzL (fz H n) vs = some vs') (h : PCall P g vs' (· = r)) (hpl : plain r = true) (hk : K r H) : ACall P g vs H K :=
  call_pure n hfz h (by rintro _ rfl; exact hpl) (by rintro _ rfl; exact hk)
theorem call_eqR {P : Program} {g : FuncId} {vs : List V} {H : List Blk} {K : V → List Blk → Prop} {r : V} (hn : norefL vs = true) (h : PCall P g vs (· = r)) (hk : K r H) : ACall P g vs H K :=
  call_pureR hn h (by rintro _ rfl; exact hk)
inductive SRes where
  | tmp (t : Nat)
  | cell (g : Bool) (n : Nat) (t : Nat)
def resOne (P : Program) (r : SRes) (e : Env) (H : List Blk) (k : V → Prop) : Prop :=
  match r with
  | .tmp t => k (e t)
  | .cell g n t => match e t with
    | .ptr _ _ _ => exOp P (.load g n (.tmp t)) e H (fun v _ => k v)
    | .rptr _ => exOp P (.load g n (.tmp t)) e H (fun v _ => k v)
    | _ => False
def resL (P : Program) : List SRes → Env → List Blk → (List V → Prop) → Prop
  | [], _, _, k => k []
  | r :: rs, e, H, k => resOne P r e H fun v => resL P rs e H fun vs => k (v :: vs)
def resP (P : Program) (rs : List SRes) (e : Env) (H : List Blk) (k : V → Prop) : Prop :=
  match rs with
  | [r] => resOne P r e H k
  | rs => resL P rs e H fun vs => k (.tup vs)
def chkRes (P : Program) (n : Nat) : List ResultVar → List SRes → Bool
  | [], [] => true
  | .tmp t :: l, .tmp u :: m => t == u && decide (t < n) && chkRes P n l m
  | .cell a t :: l, .cell g k u :: m => a == u && decide (a < n) && aggOf P t == some g && szOf P t == some k && (g || k == 1) && chkRes P n l m
  | _, _ => false
def resF (tmps : Array Value) (r : ResultVar) : Sem Value :=
  match r with
  | .tmp t => pure (tmps.getD t undef)
  | .cell b t => do loadVar t (← asAddr (tmps.getD b undef))
theorem results_eq (fn : Func) (tmps : Array Value) : results fn tmps = (do let vs ← fn.results.mapM (resF tmps); pure (if h : vs.size = 1 then vs[0] else .tuple vs) : Sem Value) := by
  unfold results
  congr 1
section
variable {P : Program} {f : Fr} {B : List Pl} {I : IM} {w : World} {H : List Blk} {a : Act} {e : Env}
theorem load_sound {g : Bool} {m : Nat} {t : TypeId} {i : Nat} {k : V → Prop} (hi : i < a.tmps.size) (hg : aggOf P t = some g) (hm : szOf P t = some m) (h1 : (g || m == 1) = true) (he : REnv B I e a.tmps) (hs : Sim f B I w H)
    (hk : exOp P (.load g m (.tmp i)) e H (fun v _ => k v)) : ∃ v x, (do loadVar t (← asAddr (a.tmps.getD i undef)) : Sem Value).run P w = .ok v w ∧ k x ∧ Rep B I x v := by
  let o : Oper := { dst := none, op := .load t (.tmp i), type := 0, pos := "", after := #[], guard := none }
  have hc : chkOp P a.tmps.size (.load t (.tmp i)) 0 (.load g m (.tmp i)) = true := by
    simp only [chkOp, hg, hm, chkX, beq_self_eq_true, hi, decide_true, Bool.and_self, Bool.and_true, Bool.true_and]
    exact h1
  have hr := he i (a.tmps[i]) (by simp [hi])
  have hsame : ∀ {w' : World} {v : Value}, (execOp a.eval o).run P w = .ok (.value v) w' → (∀ b : Unit, True) → w' = w → (do loadVar t (← asAddr (a.tmps.getD i undef)) : Sem Value).run P w = .ok v w := by
    intro w' v hx _ hw
    subst hw
    have hev : a.eval (.tmp i) = a.tmps.getD i undef := rfl
    simp only [execOp, o, run_v, Instr.loadAt, hev] at hx
    generalize a.tmps.getD i undef = y at *
    cases y with
    | pointer ad =>
      cases ad with
      | none => simp [Instr.sureAddr] at hx
      | some ad =>
        simp only [Instr.sureAddr, Sem.run_bind, Sem.run_pure, Result.andThen_ok, asAddr] at hx ⊢
        cases hq : (loadVar t ad).run P w' with
        | ok u w2 => rw [hq] at hx; simp at hx; obtain ⟨rfl, rfl⟩ := hx; rfl
        | halt h2 w2 => rw [hq] at hx; simp at hx
    | _ => simp [Instr.sureAddr] at hx
  have key : ∃ v x, (execOp a.eval o).run P w = .ok (.value v) w ∧ k x ∧ Rep B I x v := by
    exact s_loadq (K := fun v _ => k v) (o := o) (env := e) rfl hc he hs hk
  obtain ⟨v, x, h2, h3, h4⟩ := key
  exact ⟨v, x, hsame h2 (fun _ => trivial) rfl, h3, h4⟩
theorem resOne_sound {r : ResultVar} {s : SRes} {k : V → Prop} (hc : chkRes P a.tmps.size [r] [s] = true) (he : REnv B I e a.tmps) (hs : Sim f B I w H) (hk : resOne P s e H k) :
    ∃ v x, (resF a.tmps r).run P w = .ok v w ∧ k x ∧ Rep B I x v := by
  cases r with
  | tmp t =>
    cases s <;> simp only [chkRes, Bool.false_eq_true, Bool.and_eq_true, beq_iff_eq, decide_eq_true_eq] at hc
    obtain ⟨⟨rfl, ht⟩, _⟩ := hc
    refine ⟨_, _, rfl, hk, ?_⟩
    have := he t (a.tmps[t]) (by simp [ht])
    simpa [Array.getD, ht] using this
  | cell b t =>
   cases s with
   | tmp u => simp [chkRes] at hc
   | cell g m u =>
    simp only [chkRes, Bool.and_eq_true, beq_iff_eq, decide_eq_true_eq] at hc
    obtain ⟨⟨⟨⟨⟨rfl, hb⟩, hg⟩, hm⟩, h1⟩, _⟩ := hc
    have hk' : exOp P (.load g m (.tmp b)) e H (fun v _ => k v) := by
      simp only [resOne] at hk
      split at hk
      · exact hk
      · exact hk
      · exact hk.elim
    exact load_sound hb hg hm h1 he hs hk'
theorem chkRes_cons {r : ResultVar} {s : SRes} {l : List ResultVar} {m : List SRes} {n : Nat} : chkRes P n (r :: l) (s :: m) = (chkRes P n [r] [s] && chkRes P n l m) := by
  cases r <;> cases s <;> simp [chkRes, Bool.and_assoc]
theorem resL_sound : ∀ {rs : List ResultVar} {ss : List SRes} {k : List V → Prop}, chkRes P a.tmps.size rs ss = true → REnv B I e a.tmps → Sim f B I w H → resL P ss e H k →
    ∃ vs xs, (rs.mapM (resF a.tmps)).run P w = .ok vs w ∧ k xs ∧ RepL B I xs vs
  | [], [], k, _, _, _, hk => ⟨[], [], by simp, hk, by simp [RepL]⟩
  | r :: rs, s :: ss, k, hc, he, hs, hk => by
    rw [chkRes_cons, Bool.and_eq_true] at hc
    obtain ⟨v, x, h1, h2, h3⟩ := resOne_sound hc.1 he hs hk
    obtain ⟨vs, xs, h4, h5, h6⟩ := resL_sound hc.2 he hs h2
    refine ⟨v :: vs, x :: xs, ?_, h5, by simp only [RepL]; exact ⟨v, vs, rfl, h3, h6⟩⟩
    rw [List.mapM_cons, Sem.run_bind, h1]
    simp only [Result.andThen_ok, Sem.run_bind, h4, Sem.run_pure]
  | [], _ :: _, _, hc, _, _, _ => by simp [chkRes] at hc
  | r :: _, [], _, hc, _, _, _ => by cases r <;> simp [chkRes] at hc
theorem results_sound {fn : Func} {ss : List SRes} {k : V → Prop} (hc : chkRes P a.tmps.size fn.results.toList ss = true) (he : REnv B I e a.tmps) (hs : Sim f B I w H) (hk : resP P ss e H k) :
    ∃ v x, (results fn a.tmps).run P w = .ok v w ∧ k x ∧ Rep B I x v := by
  rw [results_eq, Array.mapM_eq_mapM_toList]
  simp only [Sem.run_bind, Sem.run_map]
  cases hl : ss with
  | nil =>
    rw [hl] at hk hc
    obtain ⟨vs, xs, h1, h2, h3⟩ := resL_sound (k := fun vs => k (.tup vs)) hc he hs hk
    have hlen := h3.length
    have : fn.results.toList = [] := by
      cases hr : fn.results.toList with
      | nil => rfl
      | cons r l => rw [hr] at hc; cases r <;> simp [chkRes] at hc
    rw [h1]
    rw [this] at h1
    simp at h1
    subst h1
    refine ⟨.tuple #[], .tup xs, by simp, h2, by simp only [Rep]; exact ⟨#[], rfl, h3⟩⟩
  | cons s l =>
    rw [hl] at hk hc
    cases l with
    | nil =>
      obtain ⟨r, hr⟩ : ∃ r, fn.results.toList = [r] := by
        match hq : fn.results.toList with
        | [] => rw [hq] at hc; simp [chkRes] at hc
        | [r] => exact ⟨r, rfl⟩
        | r :: r2 :: l => rw [hq, chkRes_cons] at hc; cases r2 <;> simp [chkRes] at hc
      rw [hr] at hc ⊢
      obtain ⟨v, x, h1, h2, h3⟩ := resOne_sound hc he hs hk
      refine ⟨v, x, ?_, h2, h3⟩
      simp only [List.mapM_cons, List.mapM_nil, Sem.run_map, Sem.run_bind, h1, Result.andThen_ok, Sem.run_pure]
      simp
    | cons s2 l =>
      have hk' : resL P (s :: s2 :: l) e H (fun vs => k (.tup vs)) := hk
      obtain ⟨vs, xs, h1, h2, h3⟩ := resL_sound (k := fun vs => k (.tup vs)) hc he hs hk'
      have hlen := h3.length
      refine ⟨.tuple vs.toArray, .tup xs, ?_, h2, by simp only [Rep]; exact ⟨vs.toArray, rfl, by simpa using h3⟩⟩
      have hvl : vs.length ≠ 1 := by
        have : vs.length = fn.results.toList.length := by
          have key : ∀ (rs : List ResultVar) (vs : List Value), (rs.mapM (resF a.tmps)).run P w = .ok vs w → ∀ ss k, chkRes P a.tmps.size rs ss = true → resL P ss e H k → vs.length = rs.length := by
            intro rs
            induction rs with
            | nil => intro vs h ss k _ _; simp at h; subst h; rfl
            | cons r rs ih =>
              intro vs h ss k hc hk
              cases ss with
              | nil => cases r <;> simp [chkRes] at hc
              | cons s ss =>
                rw [chkRes_cons, Bool.and_eq_true] at hc
                obtain ⟨v, x, h1, h2, h3⟩ := resOne_sound hc.1 he hs hk
                obtain ⟨vs', xs', h4, _, _⟩ := resL_sound hc.2 he hs h2
                rw [List.mapM_cons, Sem.run_bind, h1] at h
                simp only [Result.andThen_ok, Sem.run_bind, h4, Sem.run_pure] at h
                cases h
                simp [ih vs' h4 ss _ hc.2 h2]
          exact key _ _ h1 _ _ hc hk'
        have h2' : fn.results.toList.length = (s :: s2 :: l).length := by
          have key : ∀ (rs : List ResultVar) (ss : List SRes), chkRes P a.tmps.size rs ss = true → rs.length = ss.length := by
            intro rs
            induction rs with
            | nil => intro ss h; cases ss <;> simp [chkRes] at h ⊢
            | cons r rs ih => intro ss h; cases ss with
              | nil => cases r <;> simp [chkRes] at h
              | cons s ss => rw [chkRes_cons, Bool.and_eq_true] at h; simp [ih ss h.2]
          exact key _ _ hc
        rw [this, h2']; simp
      rw [h1]
      simp only [Result.andThen_ok, Sem.run_pure]
      simp [hvl]
end
def env0 (vs : List V) : Env := fun i => vs.getD i .und
def fin (P : Program) (rs : List SRes) (k : V → List Blk → Prop) : Kont := .post fun x e H => (x = .normal ∨ x = .ret) ∧ resP P rs e H fun v => k v H
def pfin (n : Nat) (K : V → Prop) : V → List Blk → Prop := fun v H => ∃ v', fz H n v = some v' ∧ K v'
structure Code1 (P : Program) (g : FuncId) (s : SCode) (rs : List SRes) (nt : Nat) : Prop where
  fn : ∃ fn c, P.funcs[g]? = some fn ∧ fn.body = some c ∧ fn.ntmps = nt ∧ chkCode P nt c s = true ∧ chkRes P nt fn.results.toList rs = true
  call : callable P g = true
  mixed : P.follows .mixedOrders = true
theorem env0urep {B : List Pl} {I : IM} {vs : List V} {args : Array Value} {k : Nat} (hr : RepL B I vs args.toList) : REnv B I (env0 vs) (args ++ Array.replicate k undef) := by
  intro i v hv
  unfold env0
  have hl := hr.length
  rw [Array.getElem?_append] at hv
  split at hv
  · rename_i h
    have : vs[i]? = some (vs.getD i .und) := by
      have : i < vs.length := by simp at hl; omega
      simp [this]
    obtain ⟨u, h1, h2⟩ := hr.get this
    have : args.toList[i]? = some v := by simpa using hv
    rw [this] at h1; cases h1; exact h2
  · rename_i h
    have h1 : vs.getD i .und = .und := by
      have : ¬ i < vs.length := by simp at hl; omega
      simp [List.getElem?_eq_none (Nat.le_of_not_lt this)]
    rw [h1]
    simp only [Rep]
    rw [Array.getElem?_replicate] at hv
    split at hv
    · cases hv; rfl
    · cases hv
theorem body_sound {P : Program} {g : FuncId} {s : SCode} {rs : List SRes} {nt : Nat} (hc : Code1 P g s rs nt) {n : Nat} {vs : List V} {H : List Blk} {k : V → List Blk → Prop} (hvs : vs.length ≤ nt)
    (hF : F P n (.code s (env0 vs) H (fin P rs k))) {f : Fr} {B : List Pl} {I : IM} {w : World} {args : Array Value} (hs : Sim f B I w H) (hr : RepL B I vs args.toList) :
    Calls P g args w (fun e w' => ∃ r v H' B' I', e = .returned v ∧ k r H' ∧ Sim f B' I' w' H' ∧ BLe B B' ∧ ILe I I' ∧ Rep B' I' r v) := by
  obtain ⟨fn, c, hfn, hb, hnt, hcode, hres⟩ := hc.fn
  have hl := hr.length
  have hsize : ({ tmps := args ++ Array.replicate (fn.ntmps - args.size) undef, defers := [] } : Act).tmps.size = nt := by
    simp at hl ⊢; omega
  refine calls_of_wp hfn hb (code_sound (f := f) hc.mixed c s hcode n (env0 vs) H (fin P rs k) B I _ w _ hF hs (env0urep hr) rfl hsize ?_)
  intro m x e H' B' I' a' w' hF' hs' hB hI he' hd' hn'
  cases m with
  | zero => exact hF'.elim
  | succ m =>
    obtain ⟨hx, hk⟩ := hF'
    obtain ⟨v, r, h1, h2, h3⟩ := results_sound (fn := fn) (by rw [hn']; exact hres) he' hs' hk
    rcases hx with rfl | rfl
    · exact ⟨hd', v, h1, r, v, H', B', I', rfl, h2, hs', hB, hI, h3⟩
    · exact ⟨hd', v, h1, r, v, H', B', I', rfl, h2, hs', hB, hI, h3⟩
theorem ACall.intro {P : Program} {g : FuncId} {s : SCode} {rs : List SRes} {nt : Nat} (hc : Code1 P g s rs nt) (n : Nat) {vs : List V} {H : List Blk} {k : V → List Blk → Prop} (hvs : vs.length ≤ nt)
    (hF : F P n (.code s (env0 vs) H (fin P rs k))) : ACall P g vs H k :=
  ⟨hc.call, fun f B I w args hs hr => body_sound hc hvs hF hs hr⟩
theorem PCall.intro {P : Program} {g : FuncId} {s : SCode} {rs : List SRes} {nt : Nat} (hc : Code1 P g s rs nt) (n : Nat) {vs : List V} {K : V → Prop} (hvs : vs.length ≤ nt) (m : Nat)
    (hF : F P n (.code s (env0 vs) [] (fin P rs (pfin m K)))) : PCall P g vs K := by
  refine ⟨hc.call, fun I w args himm hr => ?_⟩
  let f : Fr := ⟨w, fun _ => False, I⟩
  have hs : Sim f [] I w [] := by
    constructor
    · rfl
    · exact himm
    · exact ILe.refl _
    · intro b h1 h2; exact absurd h1 h2
    · rfl
    · rfl
    · rfl
    · exact Nat.le_refl _
    · intro k _ _; rfl
    · intro i p b h; simp at h
    · intro i j p q b c h; simp at h
    · intro i p b h; simp at h
  refine (body_sound hc hvs hF hs hr).mono ?_
  rintro e w' ⟨r, v, H', B', I', rfl, ⟨r', hfz, hk⟩, hs', hB, hI, hrep⟩
  have himm' : ∀ b o, (if b < w.heap.size then I b else w'.heap[b]?) = some o → w'.heap[b]? = some o := by
    intro b o hb
    split at hb
    · exact hs'.imm b o (hI b o hb)
    · exact hb
  refine ⟨r', v, fun b => if b < w.heap.size then I b else w'.heap[b]?, rfl, hk, ?_, himm', ?_, ?_, ⟨hs'.os, hs'.tape, hs'.output, hs'.size, fun k hk => hs'.keep k hk (fun h => h)⟩⟩
  · intro b o hb
    have : b < w.heap.size := (Array.getElem?_eq_some_iff.1 (himm b o hb)).1
    simp only
    rw [if_pos this]; exact hb
  · intro b h1 h2
    by_cases hlt : b < w.heap.size
    · simp only [if_pos hlt] at h2; exact absurd h1 h2
    · omega
  · refine fz_rep hs' (I2 := fun b => if b < w.heap.size then I b else w'.heap[b]?) ?_ ?_ m hfz hrep
    · intro b o hb
      by_cases hlt : b < w.heap.size
      · simp only [if_pos hlt]
        cases hq : I b with
        | some o' => rw [← hI b o' hq, hb]
        | none =>
          rcases hs'.ifresh b hq (by rw [hb]; simp) with h | h
          · have : w.heap.size ≤ b := h
            omega
          · exact h.elim
      · simp only [if_neg hlt]; exact hs'.imm b o hb
    · intro id p es hp hH hcl
      obtain ⟨_, h2, _⟩ := hs'.own id p _ hp hH hcl
      rcases h2 with h2 | h2
      · have : ¬ p.blk < w.heap.size := by have : w.heap.size ≤ p.blk := h2; omega
        simp only [if_neg this]
      · exact h2.elim
theorem fillP_det : ∀ {parts : List (Nat × Nat × V)} {cs : List V} {k : List V → Prop}, fillP cs parts k → ∃ cs', fillP cs parts (fun x => cs' = x) ∧ k cs'
  | [], cs, k, h => ⟨cs, by simp [fillP], by simpa [fillP] using h⟩
  | (off, n, v) :: r, cs, k, h => by
    simp only [fillP] at h ⊢
    obtain ⟨h1, h2⟩ := h
    obtain ⟨cs', h3, h4⟩ := fillP_det h2
    exact ⟨cs', ⟨h1, h3⟩, h4⟩
def simpleOp : SOp → Bool
  | .call _ _ | .len _ _ | .frz _ | .snil _ _ => false
  | _ => true
theorem exOp_det {P : Program} {o : SOp} {e : Nat → V} {H : List Blk} {K : V → List Blk → Prop} (hs : simpleOp o = true) (h : exOp P o e H K) : ∃ v H1, exOp P o e H (fun r H' => v = r ∧ H1 = H') ∧ K v H1 := by
  cases o with
  | call f args => simp [simpleOp] at hs
  | len str x => simp [simpleOp] at hs
  | frz t => simp [simpleOp] at hs
  | snil n x => simp [simpleOp] at hs
  | mkemp => simp only [exOp] at h ⊢; exact ⟨_, _, ⟨rfl, rfl⟩, h⟩
  | mkmap => simp only [exOp] at h ⊢; exact ⟨_, _, ⟨rfl, rfl⟩, h⟩
  | mks z x =>
    simp only [exOp] at h ⊢
    split at h
    · exact ⟨_, _, ⟨h.1, rfl, rfl⟩, h.2⟩
    · exact h.elim
  | mlook sh ok z x k =>
    simp only [exOp] at h ⊢
    split at h
    · exact ⟨_, _, ⟨h.1, rfl, rfl⟩, h.2⟩
    · exact ⟨_, _, ⟨h.1, rfl, rfl⟩, h.2⟩
    · split at h
      · exact ⟨_, _, ⟨h.1, rfl, rfl⟩, h.2⟩
      · exact h.elim
    · exact h.elim
  | mset sh x k v =>
    simp only [exOp] at h ⊢
    split at h
    · split at h
      · exact ⟨_, _, ⟨h.1, rfl, rfl⟩, h.2⟩
      · exact h.elim
    · exact h.elim
  | jalloc => simp only [exOp] at h ⊢; exact ⟨_, _, ⟨rfl, rfl⟩, h⟩
  | buildF esz xs => simp only [exOp] at h ⊢; exact ⟨_, _, ⟨h.1, rfl, rfl⟩, h.2⟩
  | mov x => simp only [exOp] at h ⊢; exact ⟨_, _, ⟨rfl, rfl⟩, h⟩
  | pick c a b =>
    simp only [exOp] at h ⊢
    split at h
    · rename_i b' hb
      cases b'
      · exact ⟨_, _, ⟨fun h => by simp at h, fun _ => ⟨rfl, rfl⟩⟩, h.2 rfl⟩
      · exact ⟨_, _, ⟨fun _ => ⟨rfl, rfl⟩, fun h => by simp at h⟩, h.1 rfl⟩
    · exact h.elim
  | alloc z => simp only [exOp] at h ⊢; exact ⟨_, _, ⟨rfl, rfl⟩, h⟩
  | box x => simp only [exOp] at h ⊢; exact ⟨_, _, ⟨h.1, rfl, rfl⟩, h.2⟩
  | build z parts =>
    simp only [exOp] at h ⊢
    obtain ⟨cs', h1, h2⟩ := fillP_det h
    refine ⟨_, _, ?_, h2⟩
    have : (fun x => cs' = x) = (fun cs => V.agg cs' = V.agg cs ∧ H = H) := by funext cs; simp
    rw [this] at h1; exact h1
  | buildS esz xs => simp only [exOp] at h ⊢; exact ⟨_, _, ⟨h.1, rfl, rfl⟩, h.2⟩
  | load agg n a =>
    simp only [exOp] at h ⊢
    split at h
    · split at h
      · exact ⟨_, _, ⟨h.1, rfl, rfl⟩, h.2⟩
      · exact h.elim
    · exact ⟨_, _, ⟨h.1, rfl, rfl⟩, h.2⟩
    · exact h.elim
  | store n a x =>
    simp only [exOp] at h ⊢
    split at h
    · split at h
      · exact ⟨_, _, ⟨h.1, rfl, rfl⟩, h.2⟩
      · exact h.elim
    · exact h.elim
  | nilc x =>
    simp only [exOp] at h ⊢
    split at h
    · exact ⟨_, _, ⟨rfl, rfl⟩, h⟩
    · exact ⟨_, _, ⟨rfl, rfl⟩, h⟩
    · exact ⟨_, _, ⟨rfl, rfl⟩, h⟩
    · exact h.elim
  | bin op x y =>
    simp only [exOp] at h ⊢
    split at h
    · obtain ⟨h1, h2⟩ := h
      split at h2
      all_goals first
        | exact ⟨_, _, ⟨h1, rfl, rfl⟩, h2⟩
        | exact ⟨_, _, ⟨h1, h2.1, rfl, rfl⟩, h2.2⟩
        | exact h2.elim
    · split at h
      all_goals first
        | exact ⟨_, _, ⟨rfl, rfl⟩, h⟩
        | exact ⟨_, _, ⟨h.1, rfl, rfl⟩, h.2⟩
        | exact h.elim
    · exact h.elim
  | beq neg x y =>
    simp only [exOp] at h ⊢
    split at h
    · exact ⟨_, _, ⟨rfl, rfl⟩, h⟩
    · exact h.elim
  | un op x =>
    simp only [exOp] at h ⊢
    split at h
    · exact ⟨_, _, ⟨rfl, rfl⟩, h⟩
    · exact ⟨_, _, ⟨rfl, rfl⟩, h⟩
    · exact h.elim
  | conv k x =>
    simp only [exOp] at h ⊢
    split at h
    · exact ⟨_, _, ⟨rfl, rfl⟩, h⟩
    · exact h.elim
  | convs x =>
    simp only [exOp] at h ⊢
    split at h
    · exact ⟨_, _, ⟨rfl, rfl⟩, h⟩
    · exact h.elim
  | mkfn f a b => simp only [exOp] at h ⊢; exact ⟨_, _, ⟨rfl, rfl⟩, h⟩
  | slice esz x lo hi =>
    simp only [exOp] at h ⊢
    split at h
    · exact h.elim
    · split at h
      · split at h
        · exact h.elim
        · exact ⟨_, _, ⟨h.1, rfl, rfl⟩, h.2⟩
      · split at h
        · exact h.elim
        · split at h
          · exact ⟨_, _, ⟨h.1, rfl, rfl⟩, h.2⟩
          · exact h.elim
      · split at h
        · exact h.elim
        · exact ⟨_, _, ⟨h.1, rfl, rfl⟩, h.2⟩
      · exact h.elim
  | strsl x lo hi => simp only [exOp] at h
  | faddr off x =>
    simp only [exOp] at h ⊢
    split at h
    · exact ⟨_, _, ⟨rfl, rfl⟩, h⟩
    · exact ⟨_, _, ⟨rfl, rfl⟩, h⟩
    · exact h.elim
  | field agg off n x =>
    simp only [exOp] at h ⊢
    split at h
    · exact ⟨_, _, ⟨h.1, rfl, rfl⟩, h.2⟩
    · exact h.elim
  | iaddr esz x i =>
    simp only [exOp] at h ⊢
    split at h
    · split at h
      · exact ⟨_, _, ⟨h.1, rfl, rfl⟩, h.2⟩
      · split at h
        · exact ⟨_, _, ⟨h.1, rfl, rfl⟩, h.2⟩
        · exact h.elim
      · exact h.elim
    · exact h.elim
  | sidx x i =>
    simp only [exOp] at h ⊢
    split at h
    · exact ⟨_, _, ⟨h.1, rfl, rfl⟩, h.2⟩
    · exact h.elim
  | extract x i =>
    simp only [exOp] at h ⊢
    split at h
    · exact ⟨_, _, ⟨h.1, rfl, rfl⟩, h.2⟩
    · exact h.elim
  | append esz bytes x y =>
    simp only [exOp, appK] at h ⊢
    split at h
    · exact h.elim
    · obtain ⟨h0, h⟩ := h
      split at h
      · rename_i src _ _ _
        by_cases hsrc : src = []
        · exact ⟨_, _, ⟨h0, fun _ => ⟨rfl, rfl⟩, fun h' => absurd hsrc h'⟩, h.1 hsrc⟩
        · exact ⟨_, _, ⟨h0, fun h' => absurd h' hsrc, fun _ => ⟨(h.2 hsrc).1, rfl, rfl⟩⟩, (h.2 hsrc).2⟩
      · rename_i src _ _ _
        by_cases hsrc : src = []
        · exact ⟨_, _, ⟨h0, fun _ => ⟨rfl, rfl⟩, fun h' => absurd hsrc h'⟩, h.1 hsrc⟩
        · exact ⟨_, _, ⟨h0, fun h' => absurd h' hsrc, fun _ => ⟨(h.2 hsrc).1, rfl, rfl⟩⟩, (h.2 hsrc).2⟩
      · split at h
        · exact ⟨_, _, ⟨h0, h.1, rfl, rfl⟩, h.2⟩
        · exact h.elim
      · exact h.elim
def gCQ (P : Program) (g : FuncId) (vs : List V) (H : List Blk) (R : V → Prop) : Prop := ∃ v, ACall P g vs H (ret1 v H) ∧ R v
def gCL (P : Program) (g : FuncId) (vs : List V) (H : List Blk) (R : V → List Blk → Prop) : Prop := ∃ v H1, ACall P g vs H (ret1 v H1) ∧ R v H1
def gRq (R : V → List Blk → Prop) (H : List Blk) : V → Prop := fun v => R v H
theorem gRq_eq {R : V → List Blk → Prop} {H : List Blk} {v : V} : gRq R H v = R v H := by rw [gRq]
def gPl (P : Program) (ld : Bool) (o : SOp) (e : Env) (H : List Blk) (R : V → List Blk → Prop) : Prop := match ld with
  | true => exOp P o e H R
  | false => exOp P o e H (fun v H1 => H1 = H ∧ R v H)
def gOp (P : Program) (ld : Bool) (o : SOp) (e : Env) (H : List Blk) (R : V → List Blk → Prop) : Prop := match o with
  | .call fx args => match evX e fx with
    | .clos g first caps => match ld with
      | true => gCL P g (first ++ args.map (evX e) ++ caps) H R
      | false => gCQ P g (first ++ args.map (evX e) ++ caps) H (gRq R H)
    | _ => False
  | .len str x => match str, evX e x with
    | false, .fs es => R (.int .i64 es.length) H
    | false, .nils => R (.int .i64 0) H
    | false, .emp => R (.int .i64 0) H
    | false, .ms id off len => R (.int .i64 len) H
    | true, .str s => R (.int .i64 s.size) H
    | _, _ => False
  | .frz _ => False
  | .snil _ _ => False
  | o => gPl P ld o e H R
theorem gPl_sound {P : Program} {ld : Bool} {o : SOp} {e : Env} {H : List Blk} {R : V → List Blk → Prop} (hs : simpleOp o = true) (h : gPl P ld o e H R) :
    ∃ v H1, exOp P o e H (ret1 v H1) ∧ (ld = false → H1 = H) ∧ R v H1 := by
  cases ld with
  | true =>
    simp only [gPl] at h
    obtain ⟨v, H1, h1, h2⟩ := exOp_det hs h
    refine ⟨v, H1, ?_, by simp, h2⟩
    have : ret1 v H1 = (fun r H' => v = r ∧ H1 = H') := by funext r H'; simp only [ret1, eq_comm]
    rw [this]; exact h1
  | false =>
    simp only [gPl] at h
    obtain ⟨v, H1, h1, h2, h3⟩ := exOp_det hs h
    subst h2
    refine ⟨v, H1, ?_, by simp, h3⟩
    have : ret1 v H1 = (fun r H' => v = r ∧ H1 = H') := by funext r H'; simp only [ret1, eq_comm]
    rw [this]; exact h1
theorem gOp_sound {P : Program} {ld : Bool} {o : SOp} {e : Env} {H : List Blk} {R : V → List Blk → Prop} (h : gOp P ld o e H R) :
    ∃ v H1, exOp P o e H (ret1 v H1) ∧ (ld = false → H1 = H) ∧ R v H1 := by
  cases o with
  | call fx args =>
    simp only [gOp] at h
    split at h
    · rename_i g first caps hf
      split at h
      · obtain ⟨v, H1, h1, h2⟩ := h
        exact ⟨v, H1, by simp only [exOp, hf]; exact h1, by simp, h2⟩
      · obtain ⟨v, h1, h2⟩ := h
        exact ⟨v, H, by simp only [exOp, hf]; exact h1, by simp, h2⟩
    · exact h.elim
  | len str x =>
    simp only [gOp] at h
    simp only [exOp]
    split at h
    · rename_i es hv; rw [hv]; exact ⟨_, _, fun _ => ⟨rfl, rfl⟩, fun _ => rfl, h⟩
    · rename_i hv; rw [hv]; exact ⟨_, _, ⟨rfl, rfl⟩, fun _ => rfl, h⟩
    · rename_i hv; rw [hv]; exact ⟨_, _, ⟨rfl, rfl⟩, fun _ => rfl, h⟩
    · rename_i hv; rw [hv]; exact ⟨_, _, fun _ => ⟨rfl, rfl⟩, fun _ => rfl, h⟩
    · rename_i hv; rw [hv]; exact ⟨_, _, fun _ => ⟨rfl, rfl⟩, fun _ => rfl, h⟩
    · exact h.elim
  | frz t => simp only [gOp] at h
  | snil n x => simp only [gOp] at h
  | _ => exact gPl_sound rfl (by simpa only [gOp] using h)
theorem upd_same {e : Env} {t : Nat} {v : V} (h : e t = v) : upd e t v = e := by
  funext i; unfold upd; split
  · rename_i hi; rw [hi, h]
  · rfl
def g2 (P : Program) : List QO → Env → List Blk → List (List Blk) → List (Env × V) → (List (Env × V) → List (List Blk) → Env → List Blk → Prop) → Prop
  | [], e, H, Hs, tr, k => k tr Hs e H
  | ⟨⟨d, o, g⟩, ld, lo, hi, bs⟩ :: rest, e, H, Hs, tr, k =>
    let run := fun (e : Env) => gOp P ld o e H (fun v H1 => g2 P rest (updO e d v) H1 (if ld then Hs ++ [H1] else Hs) (tr ++ [(e, v)]) k)
    let skip := fun (e : Env) => g2 P rest (updO e d .und) H (if ld then Hs ++ [H] else Hs) (tr ++ [(e, .und)]) k
    match g with
    | none => run e
    | some (t, true) => match e t with
      | .bool b => Fork b (run (upd e t (.bool true))) (skip (upd e t (.bool false)))
      | .und => skip e
      | _ => False
    | some (t, false) => match e t with
      | .bool b => Fork b (skip (upd e t (.bool true))) (run (upd e t (.bool false)))
      | .und => skip e
      | _ => False
theorem g2usound {P : Program} : ∀ {l : List QO} {e : Env} {H : List Blk} {Hs : List (List Blk)} {tr : List (Env × V)} {k : List (Env × V) → List (List Blk) → Env → List Blk → Prop}, g2 P l e H Hs tr k → gRun P l e H Hs tr k
  | [], e, H, Hs, tr, k, h => by simpa only [g2, gRun] using h
  | ⟨⟨d, o, g⟩, ld, lo, hi, bs⟩ :: rest, e, H, Hs, tr, k, h => by
    have run : ∀ e : Env, gOp P ld o e H (fun v H1 => g2 P rest (updO e d v) H1 (if ld then Hs ++ [H1] else Hs) (tr ++ [(e, v)]) k) →
        (∀ v H1, exOp P o e H (ret1 v H1) → gstep P ⟨d, o, g⟩ e H v H1) → gRun P (⟨⟨d, o, g⟩, ld, lo, hi, bs⟩ :: rest) e H Hs tr k := by
      intro e h hg
      obtain ⟨v, H1, h1, h2, h3⟩ := gOp_sound h
      have h4 := g2usound h3
      cases ld with
      | true => simp only [gRun]; exact ⟨v, H1, hg v H1 h1, by simpa using h4⟩
      | false => have := h2 rfl; subst this; simp only [gRun]; exact ⟨v, hg v _ h1, by simpa using h4⟩
    have skip : ∀ e : Env, g2 P rest (updO e d .und) H (if ld then Hs ++ [H] else Hs) (tr ++ [(e, .und)]) k → gstep P ⟨d, o, g⟩ e H .und H → gRun P (⟨⟨d, o, g⟩, ld, lo, hi, bs⟩ :: rest) e H Hs tr k := by
      intro e h hg
      have h4 := g2usound h
      cases ld with
      | true => simp only [gRun]; exact ⟨.und, H, hg, by simpa using h4⟩
      | false => simp only [gRun]; exact ⟨.und, hg, by simpa using h4⟩
    rcases g with _ | ⟨t, want⟩
    · simp only [g2] at h
      exact run e h (fun v H1 h => by simpa [gstep] using h)
    · cases want
      · simp only [g2] at h
        split at h
        · rename_i b hb
          cases b
          · have h' := h.2 rfl; rw [upd_same hb] at h'
            exact run e h' (fun v H1 h => by simpa [gstep, hb] using h)
          · have h' := h.1 rfl; rw [upd_same hb] at h'
            exact skip e h' (by simp [gstep, hb])
        · rename_i hb; exact skip e h (by simp [gstep, hb])
        · exact h.elim
      · simp only [g2] at h
        split at h
        · rename_i b hb
          cases b
          · have h' := h.2 rfl; rw [upd_same hb] at h'
            exact skip e h' (by simp [gstep, hb])
          · have h' := h.1 rfl; rw [upd_same hb] at h'
            exact run e h' (fun v H1 h => by simpa [gstep, hb] using h)
        · rename_i hb; exact skip e h (by simp [gstep, hb])
        · exact h.elim
def gR (P : Program) (ld : Bool) (d : Option Nat) (rest : List QO) (e : Env) (Hs : List (List Blk)) (tr : List (Env × V)) (k : List (Env × V) → List (List Blk) → Env → List Blk → Prop) : V → List Blk → Prop :=
  fun v H1 => g2 P rest (updO e d v) H1 (if ld then Hs ++ [H1] else Hs) (tr ++ [(e, v)]) k
section
variable {P : Program} {e : Env} {H : List Blk} {Hs : List (List Blk)} {tr : List (Env × V)} {k : List (Env × V) → List (List Blk) → Env → List Blk → Prop} {d : Option Nat} {o : SOp} {lo hi bs : Nat} {rest : List QO} {ld : Bool}
theorem gR_t {v : V} {H1 : List Blk} : gR P true d rest e Hs tr k v H1 = g2 P rest (updO e d v) H1 (Hs ++ [H1]) (tr ++ [(e, v)]) k := by simp [gR]
theorem gR_f {v : V} {H1 : List Blk} : gR P false d rest e Hs tr k v H1 = g2 P rest (updO e d v) H1 Hs (tr ++ [(e, v)]) k := by simp [gR]
theorem g2unil : g2 P [] e H Hs tr k = k tr Hs e H := by rw [g2]
theorem g2uop : g2 P (⟨⟨d, o, none⟩, ld, lo, hi, bs⟩ :: rest) e H Hs tr k = gOp P ld o e H (gR P ld d rest e Hs tr k) := by rw [g2]; rfl
theorem g2uopT {t : Nat} : g2 P (⟨⟨d, o, some (t, true)⟩, ld, lo, hi, bs⟩ :: rest) e H Hs tr k = (match e t with
  | .bool b => Fork b (gOp P ld o (upd e t (.bool true)) H (gR P ld d rest (upd e t (.bool true)) Hs tr k)) (gR P ld d rest (upd e t (.bool false)) Hs tr k .und H)
  | .und => gR P ld d rest e Hs tr k .und H
  | _ => False) := by
  rw [g2]
  cases e t <;> rfl
theorem g2uopF {t : Nat} : g2 P (⟨⟨d, o, some (t, false)⟩, ld, lo, hi, bs⟩ :: rest) e H Hs tr k = (match e t with
  | .bool b => Fork b (gR P ld d rest (upd e t (.bool true)) Hs tr k .und H) (gOp P ld o (upd e t (.bool false)) H (gR P ld d rest (upd e t (.bool false)) Hs tr k))
  | .und => gR P ld d rest e Hs tr k .und H
  | _ => False) := by
  rw [g2]
  cases e t <;> rfl
theorem gPl_t {R : V → List Blk → Prop} : gPl P true o e H R = exOp P o e H R := by rw [gPl]
def gF (H : List Blk) (R : V → List Blk → Prop) : V → List Blk → Prop := fun v H1 => H1 = H ∧ R v H
theorem gF_eq {R : V → List Blk → Prop} {v : V} : gF H R v H = R v H := by simp [gF]
theorem gPl_f {R : V → List Blk → Prop} : gPl P false o e H R = exOp P o e H (gF H R) := by rw [gPl]; rfl
end
theorem Fork_t {b : Bool} {p q : Prop} (h : b = true) : Fork b p q = p := by subst h; exact Fork_true
theorem Fork_f {b : Bool} {p q : Prop} (h : b = false) : Fork b p q = q := by subst h; exact Fork_false
theorem F_q2 {P : Program} {n : Nat} {l : List QO} {e : Env} {H : List Blk} {k : Kont} (h : g2 P l e H [H] [] (gEnd P (F P n) l k)) : F P (n + 1) (.code (.qregion l) e H k) := by
  rw [F_qregion]; exact g2usound h
theorem gCQ.mk {P : Program} {g : FuncId} {vs : List V} {H : List Blk} {R : V → Prop} (v : V) (h : ACall P g vs H (ret1 v H)) (hr : R v) : gCQ P g vs H R := ⟨v, h, hr⟩
theorem gCQ_eqR {P : Program} {g : FuncId} {vs : List V} {H : List Blk} {R : V → Prop} {r : V} (hn : norefL vs = true) (h : PCall P g vs (· = r)) (hk : R r) : gCQ P g vs H R :=
  ⟨r, call_eqR hn h ⟨rfl, rfl⟩, hk⟩
theorem gCQ_eq {P : Program} {g : FuncId} {vs vs' : List V} {H : List Blk} {R : V → Prop} {r : V} (n : Nat) (hfz : fzL (fz H n) vs = some vs') (h : PCall P g vs' (· = r)) (hpl : plain r = true) (hk : R r) : gCQ P g vs H R :=
  ⟨r, call_eq n hfz h hpl ⟨rfl, rfl⟩, hk⟩
theorem gCL_eqR {P : Program} {g : FuncId} {vs : List V} {H : List Blk} {R : V → List Blk → Prop} {r : V} (hn : norefL vs = true) (h : PCall P g vs (· = r)) (hk : R r H) : gCL P g vs H R :=
  ⟨r, H, call_eqR hn h ⟨rfl, rfl⟩, hk⟩
theorem gCL_eq {P : Program} {g : FuncId} {vs vs' : List V} {H : List Blk} {R : V → List Blk → Prop} {r : V} (n : Nat) (hfz : fzL (fz H n) vs = some vs') (h : PCall P g vs' (· = r)) (hpl : plain r = true) (hk : R r H) : gCL P g vs H R :=
  ⟨r, H, call_eq n hfz h hpl ⟨rfl, rfl⟩, hk⟩
theorem gCL.mk {P : Program} {g : FuncId} {vs : List V} {H H1 : List Blk} {R : V → List Blk → Prop} {r : V} (h : ACall P g vs H (ret1 r H1)) (hk : R r H1) : gCL P g vs H R := ⟨r, H1, h, hk⟩
theorem ACall.fz {P : Program} {g : FuncId} {vs : List V} {H : List Blk} {K : V → List Blk → Prop}
    (h : ACall P g vs H (fun r H' => ∃ D r', fz (keepL D H') 20 r = some r' ∧ K r' (killL D H'))) : ACall P g vs H K := by
  refine ⟨h.1, fun f B I w args hs hr => (h.2 f B I w args hs hr).mono ?_⟩
  rintro e w' ⟨r, v, H', B', I', rfl, ⟨D, r', hf, hk⟩, hs', hB, hI, hrep⟩
  obtain ⟨I2, hI2, hs2, hrep2⟩ := hs'.freeze D
  exact ⟨r', v, _, B', I2, rfl, hk, hs2, hB, hI.trans hI2, (hrep2 20 hf hrep).mono (fun i p h => by simp at h) (ILe.refl _)⟩
mutual
def idl (n : Nat) : V → Bool
  | .ptr id _ _ | .ms id _ _ | .map id => decide (id < n)
  | .rptr l | .fs l | .agg l | .tup l => idlL n l
  | .fmap a b => idlL n a && idlL n b
  | .clos _ a b => idlL n a && idlL n b
  | .iface _ v => idl n v
  | _ => true
def idlL (n : Nat) : List V → Bool
  | [] => true
  | v :: l => idl n v && idlL n l
end
mutual
theorem rep_idl {B : List Pl} {I : IM} : ∀ {x : V} {v : Value}, Rep B I x v → idl B.length x = true
  | .any, _, h | .und, _, h | .bool _, _, h | .int _ _, _, h | .str _, _, h | .nilp, _, h | .nils, _, h | .emp, _, h | .nilmap, _, h | .nilf, _, h | .nili, _, h => by simp [idl]
  | .ptr id i c, _, h => by
    simp only [Rep, idl, decide_eq_true_eq] at *
    obtain ⟨p, hp, _⟩ := h
    exact (List.getElem?_eq_some_iff.1 hp).1
  | .ms id off len, _, h => by
    simp only [Rep, idl, decide_eq_true_eq] at *
    obtain ⟨p, a, cap, hp, _⟩ := h
    exact (List.getElem?_eq_some_iff.1 hp).1
  | .map id, _, h => by
    simp only [Rep, idl, decide_eq_true_eq] at *
    obtain ⟨p, hp, _⟩ := h
    exact (List.getElem?_eq_some_iff.1 hp).1
  | .rptr cells, _, h => by
    simp only [Rep, idl] at *
    obtain ⟨b, o, h1, h2⟩ := h
    exact cells_idl h2
  | .fs elems, _, h => by
    simp only [Rep, idl] at *
    obtain ⟨a, cap, h1, h2, h3, h4⟩ := h
    rcases h4 with h4 | ⟨b, o, sz, h5, h6⟩
    · subst h4; rfl
    · exact elems_idl h6
  | .fmap ks vs, _, h => by
    simp only [Rep, idl, Bool.and_eq_true] at *
    obtain ⟨b, es, clock, h1, h2, h0, h3, h4⟩ := h
    exact ⟨repL_idl h3, repL_idl h4⟩
  | .clos f first caps, _, h => by
    simp only [Rep, idl, Bool.and_eq_true] at *
    obtain ⟨fs, cs, h1, h2, h3⟩ := h
    exact ⟨repL_idl h2, repL_idl h3⟩
  | .agg cells, _, h => by
    simp only [Rep, idl] at *
    obtain ⟨cs, h1, h2⟩ := h
    exact repL_idl h2
  | .tup cells, _, h => by
    simp only [Rep, idl] at *
    obtain ⟨cs, h1, h2⟩ := h
    exact repL_idl h2
  | .iface t x, _, h => by
    simp only [Rep, idl] at *
    obtain ⟨u, h1, h2⟩ := h
    exact rep_idl h2
theorem repL_idl {B : List Pl} {I : IM} : ∀ {xs : List V} {l : List Value}, RepL B I xs l → idlL B.length xs = true
  | [], _, h => rfl
  | c :: cs, _, h => by
    simp only [RepL, idlL, Bool.and_eq_true] at *
    obtain ⟨v, vs, h1, h2, h3⟩ := h
    exact ⟨rep_idl h2, repL_idl h3⟩
theorem cells_idl {B : List Pl} {I : IM} : ∀ {xs : List V} {g : Nat → Option Value} {o : Nat}, CellsG B I xs g o → idlL B.length xs = true
  | [], _, _, h => rfl
  | c :: cs, _, _, h => by
    simp only [CellsG, idlL, Bool.and_eq_true] at *
    obtain ⟨⟨v, h1, h2⟩, h3⟩ := h
    exact ⟨rep_idl h2, cells_idl h3⟩
theorem elems_idl {B : List Pl} {I : IM} : ∀ {xs : List V} {g : Nat → Option Value} {sz o : Nat}, ElemsG B I xs g sz o → idlL B.length xs = true
  | [], _, _, _, h => rfl
  | .agg cs :: es, _, _, _, h => by
    simp only [ElemsG, idlL, idl, Bool.and_eq_true] at *
    exact ⟨cells_idl h.2.1, elems_idl h.2.2⟩
  | e :: es, _, _, _, h => by
    have he : ∀ v, Rep B I e v → idl B.length e = true := fun v hv => rep_idl hv
    have hes := fun g sz o => elems_idl (B := B) (I := I) (xs := es) (g := g) (sz := sz) (o := o)
    simp only [idlL, Bool.and_eq_true]
    cases e with
    | agg cs =>
      simp only [ElemsG, idl] at *
      exact ⟨cells_idl h.2.1, hes _ _ _ h.2.2⟩
    | _ =>
      simp only [ElemsG] at h
      obtain ⟨h0, ⟨v, h1, h2⟩, h3⟩ := h
      exact ⟨he v h2, hes _ _ _ h3⟩
end
section
variable {B B' : List Pl} {I : IM} {n : Nat} (hB : ∀ i, i < n → B'[i]? = B[i]?)
include hB
mutual
theorem idl_rep : ∀ {x : V} {v : Value}, idl n x = true → Rep B I x v → Rep B' I x v
  | .any, _, _, h => by simp [Rep]
  | .und, _, _, h => by simpa [Rep] using h
  | .bool _, _, _, h => by simpa [Rep] using h
  | .int _ _, _, _, h => by simpa [Rep] using h
  | .str _, _, _, h => by simpa [Rep] using h
  | .nilp, _, _, h => by simpa [Rep] using h
  | .nils, _, _, h => by simpa [Rep] using h
  | .emp, _, _, h => by simpa [Rep] using h
  | .nilmap, _, _, h => by simpa [Rep] using h
  | .nilf, _, _, h => by simpa [Rep] using h
  | .nili, _, _, h => by simpa [Rep] using h
  | .ptr id i c, _, hn, h => by
    simp only [Rep, idl, decide_eq_true_eq] at *
    rw [hB id hn]; exact h
  | .ms id off len, _, hn, h => by
    simp only [Rep, idl, decide_eq_true_eq] at *
    rw [hB id hn]; exact h
  | .map id, _, hn, h => by
    simp only [Rep, idl, decide_eq_true_eq] at *
    rw [hB id hn]; exact h
  | .rptr cells, _, hn, h => by
    simp only [Rep, idl] at *
    obtain ⟨b, o, h1, h2⟩ := h
    exact ⟨b, o, h1, idl_cells hn h2⟩
  | .fs elems, _, hn, h => by
    simp only [Rep, idl] at *
    obtain ⟨a, cap, h1, h2, h3, h4⟩ := h
    refine ⟨a, cap, h1, h2, h3, ?_⟩
    rcases h4 with h4 | ⟨b, o, sz, h5, h6⟩
    · exact .inl h4
    · exact .inr ⟨b, o, sz, h5, idl_elems hn h6⟩
  | .fmap ks vs, _, hn, h => by
    simp only [Rep, idl, Bool.and_eq_true] at *
    obtain ⟨b, es, clock, h1, h2, h0, h3, h4⟩ := h
    exact ⟨b, es, clock, h1, h2, h0, idl_repL hn.1 h3, idl_repL hn.2 h4⟩
  | .clos f first caps, _, hn, h => by
    simp only [Rep, idl, Bool.and_eq_true] at *
    obtain ⟨fs, cs, h1, h2, h3⟩ := h
    exact ⟨fs, cs, h1, idl_repL hn.1 h2, idl_repL hn.2 h3⟩
  | .agg cells, _, hn, h => by
    simp only [Rep, idl] at *
    obtain ⟨cs, h1, h2⟩ := h
    exact ⟨cs, h1, idl_repL hn h2⟩
  | .tup cells, _, hn, h => by
    simp only [Rep, idl] at *
    obtain ⟨cs, h1, h2⟩ := h
    exact ⟨cs, h1, idl_repL hn h2⟩
  | .iface t x, _, hn, h => by
    simp only [Rep, idl] at *
    obtain ⟨u, h1, h2⟩ := h
    exact ⟨u, h1, idl_rep hn h2⟩
theorem idl_repL : ∀ {xs : List V} {l : List Value}, idlL n xs = true → RepL B I xs l → RepL B' I xs l
  | [], _, _, h => by simpa [RepL] using h
  | c :: cs, _, hn, h => by
    simp only [RepL, idlL, Bool.and_eq_true] at *
    obtain ⟨v, vs, h1, h2, h3⟩ := h
    exact ⟨v, vs, h1, idl_rep hn.1 h2, idl_repL hn.2 h3⟩
theorem idl_cells : ∀ {xs : List V} {g : Nat → Option Value} {o : Nat}, idlL n xs = true → CellsG B I xs g o → CellsG B' I xs g o
  | [], _, _, _, h => by simp [CellsG]
  | c :: cs, _, _, hn, h => by
    simp only [CellsG, idlL, Bool.and_eq_true] at *
    obtain ⟨⟨v, h1, h2⟩, h3⟩ := h
    exact ⟨⟨v, h1, idl_rep hn.1 h2⟩, idl_cells hn.2 h3⟩
theorem idl_elems : ∀ {xs : List V} {g : Nat → Option Value} {sz o : Nat}, idlL n xs = true → ElemsG B I xs g sz o → ElemsG B' I xs g sz o
  | [], _, _, _, _, h => by simp [ElemsG]
  | .agg cs :: es, _, _, _, hn, h => by
    simp only [ElemsG, idlL, idl, Bool.and_eq_true] at *
    exact ⟨h.1, idl_cells hn.1 h.2.1, idl_elems hn.2 h.2.2⟩
  | e :: es, _, _, _, hn, h => by
    simp only [idlL, Bool.and_eq_true] at hn
    have he : ∀ v, Rep B I e v → Rep B' I e v := fun v hv => idl_rep hn.1 hv
    have hes := fun g sz o => idl_elems (xs := es) (g := g) (sz := sz) (o := o) hn.2
    cases e with
    | agg cs =>
      simp only [ElemsG, idl] at *
      exact ⟨h.1, idl_cells hn.1 h.2.1, hes _ _ _ h.2.2⟩
    | _ =>
      simp only [ElemsG] at *
      obtain ⟨h0, ⟨v, h1, h2⟩, h3⟩ := h
      exact ⟨h0, ⟨v, h1, he v h2⟩, hes _ _ _ h3⟩
end
end
def Blk.nr : Blk → Bool
  | .row es => norefL es
  | .mp ks vs => norefL ks && norefL vs
  | .dead => true
theorem Sim.trim {f : Fr} {B B' : List Pl} {I I' : IM} {w w' : World} {H H2 X : List Blk} (hs : Sim f B I w H) (hs' : Sim f B' I' w' (H2 ++ X)) (hB : BLe B B') (hl : H2.length = H.length)
    (hrow : ∀ (i : Nat) b, H2[i]? = some b → H[i]? = some b ∨ b.nr = true) : Sim f (B'.take H2.length) I' w' H2 ∧ BLe B (B'.take H2.length) := by
  have hbl : B.length = H2.length := by rw [hs.len, hl]
  have hBl : ∀ i p, (B'.take H2.length)[i]? = some p → i < H2.length ∧ B'[i]? = some p := by
    intro i p h
    rw [List.getElem?_take] at h
    split at h
    · exact ⟨by assumption, h⟩
    · cases h
  have hHl : ∀ (i : Nat) b, H2[i]? = some b → (H2 ++ X)[i]? = some b := by
    intro i b h
    rw [List.getElem?_append_left (List.getElem?_eq_some_iff.1 h).1]; exact h
  have hsame : ∀ i, i < H2.length → (B'.take H2.length)[i]? = B'[i]? := fun i hi => by rw [List.getElem?_take, if_pos hi]
  refine ⟨?_, ?_⟩
  · constructor
    · have := hs'.len
      rw [List.length_append] at this
      rw [List.length_take]; omega
    · exact hs'.imm
    · exact hs'.ile
    · exact hs'.ifresh
    · exact hs'.os
    · exact hs'.tape
    · exact hs'.output
    · exact hs'.size
    · exact hs'.keep
    · intro i p b h1 h2
      obtain ⟨hi, h3⟩ := hBl i p h1
      have hok := hs'.ok i p b h3 (hHl i b h2)
      cases b with
      | dead => trivial
      | row es =>
        obtain ⟨carr, e, h4, h5, h6, h7⟩ := hok
        refine ⟨carr, e, h4, h5, h6, ?_⟩
        rcases hrow i _ h2 with h8 | h8
        · have hp : ∃ q, B[i]? = some q := ⟨B[i]'(by omega), List.getElem?_eq_getElem _⟩
          obtain ⟨q, hq⟩ := hp
          obtain ⟨carr0, e0, _, _, _, h9⟩ := hs.ok i q _ hq h8
          have h10 := elems_idl h9
          rw [hbl] at h10
          exact idl_elems hsame h10 h7
        · exact noref_elems h8 h7
      | mp ks vs =>
        obtain ⟨es, clock, h4, h0, h5, h6⟩ := hok
        refine ⟨es, clock, h4, h0, ?_⟩
        rcases hrow i _ h2 with h8 | h8
        · have hp : ∃ q, B[i]? = some q := ⟨B[i]'(by omega), List.getElem?_eq_getElem _⟩
          obtain ⟨q, hq⟩ := hp
          obtain ⟨es0, c0, _, _, h9, h10⟩ := hs.ok i q _ hq h8
          have h9 := repL_idl h9
          have h10 := repL_idl h10
          rw [hbl] at h9 h10
          exact ⟨idl_repL hsame h9 h5, idl_repL hsame h10 h6⟩
        · simp only [Blk.nr, Bool.and_eq_true] at h8
          exact ⟨noref_repL h8.1 h5, noref_repL h8.2 h6⟩
    · intro i j p q b c h1 h2 h3 h4 hb hc he
      exact hs'.sep i j p q b c (hBl i p h1).2 (hBl j q h2).2 (hHl i b h3) (hHl j c h4) hb hc he
    · intro i p b h1 h2 hb
      exact hs'.own i p b (hBl i p h1).2 (hHl i b h2) hb
  · intro i p h
    have hi : i < H2.length := by rw [← hbl]; exact (List.getElem?_eq_some_iff.1 h).1
    rw [hsame i hi]; exact hB i p h
theorem ACall.trim {P : Program} {g : FuncId} {vs : List V} {H : List Blk} {K : V → List Blk → Prop}
    (h : ACall P g vs H (fun r H' => ∃ H2 X, H' = H2 ++ X ∧ H2.length = H.length ∧ (∀ (i : Nat) b, H2[i]? = some b → H[i]? = some b ∨ b.nr = true) ∧ noref r = true ∧ K r H2)) : ACall P g vs H K := by
  refine ⟨h.1, fun f B I w args hs hr => (h.2 f B I w args hs hr).mono ?_⟩
  rintro e w' ⟨r, v, H', B', I', rfl, ⟨H2, X, rfl, hl, hrow, hnr, hk⟩, hs', hB, hI, hrep⟩
  obtain ⟨h1, h2⟩ := hs.trim hs' hB hl hrow
  exact ⟨r, v, H2, _, I', rfl, hk, h1, h2, hI, noref_rep hnr hrep⟩
theorem ACall.trimM {P : Program} {g : FuncId} {vs : List V} {H : List Blk} {K : V → List Blk → Prop}
    (h : ACall P g vs H (fun r H' => ∃ H2 X id off len es, H' = H2 ++ X ∧ H2.length = H.length ∧ (∀ (i : Nat) b, H2[i]? = some b → H[i]? = some b ∨ b.nr = true) ∧
      r = .ms (H2.length + id) off len ∧ X[id]? = some (.row es) ∧ norefL es = true ∧ K (.ms H2.length off len) (H2 ++ [.row es]))) : ACall P g vs H K := by
  refine ⟨h.1, fun f B I w args hs hr => (h.2 f B I w args hs hr).mono ?_⟩
  rintro e w' ⟨r, v, H', B', I', rfl, ⟨H2, X, id, off, len, es, rfl, hl, hrow, rfl, hX, hes, hk⟩, hs', hB, hI, hrep⟩
  obtain ⟨h1, h2⟩ := hs.trim hs' hB hl hrow
  simp only [Rep] at hrep
  obtain ⟨p, a, cap, hp, hv⟩ := hrep
  have hid : (H2 ++ X)[H2.length + id]? = some (.row es) := by rw [List.getElem?_append_right (by omega)]; rw [← hX]; congr 1; omega
  refine ⟨_, v, H2 ++ [.row es], B'.take H2.length ++ [p], I', rfl, hk, ?_, h2.trans (BLe.append _ _), hI, ?_⟩
  · refine h1.push _ _ ?_ ?_ ?_
    · obtain ⟨carr, e, h4, h5, h6, h7⟩ := hs'.ok _ p _ hp hid
      exact ⟨carr, e, h4, h5, h6, noref_elems hes h7⟩
    · intro i q c h3 h4 hc heq
      have hi : i < H2.length := (List.getElem?_eq_some_iff.1 h4).1
      rw [List.getElem?_take, if_pos hi] at h3
      have := hs'.sep i (H2.length + id) q p c _ h3 hp (by rw [List.getElem?_append_left hi]; exact h4) hid hc rfl heq
      omega
    · exact hs'.own _ p _ hp hid rfl
  · simp only [Rep]
    refine ⟨p, a, cap, ?_, hv⟩
    rw [getElem?_append_one, if_pos h1.len.symm]
theorem ACall.of1 {P : Program} {g : FuncId} {vs : List V} {H H1 : List Blk} {K : V → List Blk → Prop} {r : V} (h : ACall P g vs H (ret1 r H1)) (hk : K r H1) : ACall P g vs H K :=
  h.mono (fun r' H' h => by obtain ⟨rfl, rfl⟩ := h; exact hk)
section
variable {esz bytes : Nat} {src : List V} {yv : V} {H : List Blk} {K : V → List Blk → Prop}
theorem appK_nils : appK esz bytes src yv .nils H K = ((src = [] → K .nils H) ∧ (src ≠ [] → src.length * bytes ≤ 140737488355328 ∧ K (.ms H.length 0 src.length) (H ++ [.row src]))) := by rw [appK]
theorem appK_emp : appK esz bytes src yv .emp H K = ((src = [] → K .emp H) ∧ (src ≠ [] → src.length * bytes ≤ 140737488355328 ∧ K (.ms H.length 0 src.length) (H ++ [.row src]))) := by rw [appK]
def appM (esz bytes : Nat) (src : List V) (yv : V) (id off len : Nat) (b : Option Blk) (H : List Blk) (K : V → List Blk → Prop) : Prop := match b with
  | some (.row es) => (off + len = es.length ∧ es ≠ [] ∧ headOk esz es ∧ (∀ i o l, yv = .ms i o l → i ≠ id) ∧ (len + src.length) * bytes ≤ 140737488355328) ∧ K (.ms H.length 0 (len + src.length)) (H.set id .dead ++ [.row (es.drop off ++ src)])
  | _ => False
theorem appM_row {id off len : Nat} {es : List V} : appM esz bytes src yv id off len (some (.row es)) H K = ((off + len = es.length ∧ es ≠ [] ∧ headOk esz es ∧ (∀ i o l, yv = .ms i o l → i ≠ id) ∧ (len + src.length) * bytes ≤ 140737488355328) ∧ K (.ms H.length 0 (len + src.length)) (H.set id .dead ++ [.row (es.drop off ++ src)])) := by rw [appM]
theorem appK_ms {id off len : Nat} : appK esz bytes src yv (.ms id off len) H K = appM esz bytes src yv id off len (H[id]?) H K := by
  rw [appK]
  cases H[id]? with
  | none => rfl
  | some b => cases b <;> rfl
end
def kvne (kv : V) (j : Nat) : Prop := ∀ a b, kv ≠ .ms j a b
def OV (H : List Blk) (kv : V) (acc : List V) : Prop := (acc = [] ∧ kv = .nils) ∨ (acc ≠ [] ∧ ∃ id, kv = .ms id 0 acc.length ∧ H[id]? = some (.row acc))
theorem app_OV {esz bytes : Nat} {src : List V} {yv kv : V} {H : List Blk} {K : V → List Blk → Prop} {acc : List V} (hov : OV H kv acc) (hy : ∀ i o l, yv = .ms i o l → kvne kv i) (hh : headOk esz acc) (hb : (acc.length + src.length) * bytes ≤ 140737488355328)
    (hk : ∀ kv' H', OV H' kv' (acc ++ src) → H.length ≤ H'.length → (∀ j, j < H.length → kvne kv j → H'[j]? = H[j]? ∧ kvne kv' j) → K kv' H') : appK esz bytes src yv kv H K := by
  rcases hov with ⟨rfl, rfl⟩ | ⟨hn, id, rfl, hid⟩
  · rw [appK_nils]
    refine ⟨fun h => ?_, fun h => ⟨by simpa using hb, ?_⟩⟩
    · subst h; exact hk _ _ (.inl ⟨rfl, rfl⟩) (Nat.le_refl _) (fun j _ hj => ⟨rfl, hj⟩)
    · refine hk _ _ (.inr ⟨by simpa using h, H.length, by simp, by simp⟩) (by simp) (fun j hj _ => ⟨by rw [List.getElem?_append_left hj], fun a b h => ?_⟩)
      injection h; omega
  · have hl := (List.getElem?_eq_some_iff.1 hid).1
    rw [appK_ms, hid, appM_row]
    refine ⟨⟨by simp, hn, hh, fun i o l h => ?_, hb⟩, ?_⟩
    · intro he; subst he; exact hy _ o l h 0 _ rfl
    · refine hk _ _ (.inr ⟨by simp [hn], H.length, by simp, by rw [List.getElem?_append_right (by simp)]; simp⟩) (by simp) (fun j hj hkj => ⟨?_, fun a b h => ?_⟩)
      · rw [List.getElem?_append_left (by simpa using hj), List.getElem?_set_ne]
        intro he; subst he; exact hkj 0 _ rfl
      · injection h; omega
class CG (G : Prop) (P : outParam Program) (g : outParam FuncId) (vs : outParam (List V)) (H : outParam (List Blk)) (R : outParam (V → List Blk → Prop)) : Prop where
  out : ∀ {r H1}, ACall P g vs H (ret1 r H1) → R r H1 → G
instance {P : Program} {g : FuncId} {vs : List V} {H : List Blk} {K : V → List Blk → Prop} : CG (ACall P g vs H K) P g vs H K := ⟨fun h hk => ACall.of1 h hk⟩
instance {P : Program} {g : FuncId} {vs : List V} {H : List Blk} {R : V → List Blk → Prop} : CG (gCL P g vs H R) P g vs H R := ⟨fun h hk => gCL.mk h hk⟩
class CQ (G : Prop) (P : outParam Program) (g : outParam FuncId) (vs : outParam (List V)) (H : outParam (List Blk)) (R : outParam (V → Prop)) : Prop where
  outR : ∀ {r}, norefL vs = true → PCall P g vs (· = r) → R r → G
  out : ∀ {r vs'} (n : Nat), fzL (fz H n) vs = some vs' → PCall P g vs' (· = r) → plain r = true → R r → G
instance {P : Program} {g : FuncId} {vs : List V} {H : List Blk} {K : V → List Blk → Prop} : CQ (ACall P g vs H K) P g vs H (fun r => K r H) := ⟨fun hn h hk => call_eqR hn h hk, fun n hfz h hpl hk => call_eq n hfz h hpl hk⟩
instance {P : Program} {g : FuncId} {vs : List V} {H : List Blk} {R : V → Prop} : CQ (gCQ P g vs H R) P g vs H R := ⟨fun hn h hk => gCQ_eqR hn h hk, fun n hfz h hpl hk => gCQ_eq n hfz h hpl hk⟩
instance {P : Program} {g : FuncId} {vs : List V} {H : List Blk} {R : V → List Blk → Prop} : CQ (gCL P g vs H R) P g vs H (fun r => R r H) := ⟨fun hn h hk => gCL_eqR hn h hk, fun n hfz h hpl hk => gCL_eq n hfz h hpl hk⟩
theorem cgA {G : Prop} {P : Program} {g : FuncId} {vs : List V} {H H1 : List Blk} {R : V → List Blk → Prop} {r : V} [CG G P g vs H R] (h : ACall P g vs H (ret1 r H1)) (hk : R r H1) : G := CG.out h hk
theorem cgR {G : Prop} {P : Program} {g : FuncId} {vs : List V} {H : List Blk} {R : V → Prop} {r : V} [CQ G P g vs H R] (h : PCall P g vs (· = r)) (hn : norefL vs = true) (hk : R r) : G := CQ.outR hn h hk
theorem cgF {G : Prop} {P : Program} {g : FuncId} {vs vs' : List V} {H : List Blk} {R : V → Prop} {r : V} [CQ G P g vs H R] (hfz : fzL (fz H 20) vs = some vs') (h : PCall P g vs' (· = r)) (hpl : plain r = true) (hk : R r) : G := CQ.out 20 hfz h hpl hk
attribute [go_sem] fin appK_nils appK_emp appK_ms appM_row ret1 eq_self exists_eq_left' exists_eq_left decide_true decide_false beq_self_eq_true F_skip F_region F_seq F_cond F_block F_exit F_ret F_nil F_op F_opT F_opF F_post F_seqN F_seqR F_seqE F_blockN F_blockR F_blockE F_loopN F_loopR F_loopE ret2ueq gEnd_eq pEnd_eq g2unil g2uop g2uopT g2uopF gOp gPl_t gPl_f gF_eq gRq_eq gR_t gR_f Bool.or_true Bool.true_or Bool.false_or Bool.or_false stabL stabR gstep exOp evX upd updO env0 List.getD_cons_zero List.getD_cons_succ List.getD_nil true_and and_true or_true true_or or_false false_or List.map_cons List.map_nil List.nil_append List.cons_append List.append_nil List.append_assoc Int.toNat_natCast V.isAny rd splice remk fillP srcE ixO Option.map_none List.length_cons List.length_nil List.length_map List.take_succ_cons List.take_zero List.drop_succ_cons List.drop_zero List.headD_cons Nat.zero_add List.getElem?_cons_zero List.getElem?_cons_succ List.set_cons_zero List.set_cons_succ List.length_append Nat.add_assoc Bool.not_true Bool.not_false V.one List.all_cons List.all_nil Bool.and_true Bool.and_self Bool.true_and
attribute [go_sem ↓] Fork_t Fork_f
attribute [push_cast] resP exOp evX rd List.headD_cons resOne resL upd pfin or_true true_or false_or true_and and_true noref norefL List.getElem?_cons_zero List.getElem?_cons_succ List.length_cons List.length_nil List.length_map List.drop_zero List.take_succ_cons List.take_zero List.drop_succ_cons Nat.zero_add Nat.le_refl Nat.zero_le Nat.lt_add_one List.getD_cons_zero Bool.and_true Bool.and_self Bool.true_and Option.map_some Option.some.injEq exists_eq_left' exists_eq_left V.int.injEq V.bool.injEq V.str.injEq V.fs.injEq
attribute [go_sem] Nat.reduceEqDiff Nat.reduceBEq Int.reduceToNat Nat.reduceAdd Nat.reduceLT Nat.reduceLeDiff reduceCtorEq Nat.reduceSub
attribute [go_sem ↓] reduceIte
theorem hls {α : Type} : (∀ {l m : List α} {n : Nat}, n < l.length → (l ++ m)[n]? = l[n]?) ∧ (∀ {l m : List α} {n : Nat}, l.length ≤ n → (l ++ m)[n]? = m[n - l.length]?) ∧ (∀ {l : List α} {i j : Nat} {a : α}, i ≠ j → (l.set i a)[j]? = l[j]?) ∧
    (∀ {l : List α} {i : Nat} {a : α}, i < l.length → (l.set i a)[i]? = some a) ∧ (∀ {l m : List α} {i : Nat} {x : α}, i < l.length → (l ++ m).set i x = l.set i x ++ m) ∧ (∀ {l m : List α} {i : Nat} {x : α}, l.length ≤ i → (l ++ m).set i x = l ++ m.set (i - l.length) x) ∧
    (∀ {l : List α} {i : Nat} {a : α}, (l.set i a).length = l.length) ∧ (∀ {l : List α} {i : Nat} {a b : α}, (l.set i a).set i b = l.set i b) :=
  ⟨fun h => List.getElem?_append_left h, fun h => List.getElem?_append_right h, fun h => List.getElem?_set_ne h, fun h => List.getElem?_set_self h, fun h => List.set_append_left _ _ h, fun h => List.set_append_right _ _ h, List.length_set, List.set_set ..⟩
theorem hln : (∀ p : Prop, (False → p) = True) ∧ (∀ p : Prop, (True → p) = p) ∧ (∀ n k : Nat, n ≤ n + k) ∧ (∀ n : Nat, n ≤ n) ∧ (∀ n : Nat, n - n = 0) ∧ (∀ n m : Nat, n + m - n = m) :=
  ⟨fun p => by simp, fun p => by simp, Nat.le_add_right, Nat.le_refl, Nat.sub_self, Nat.add_sub_cancel_left⟩
theorem rpI {P : Program} {rs : List SRes} {e : Env} {H : List Blk} {k : V → Prop} (h : resP P rs e H k) : resP P rs e H k := h
end Go.Proofs.YtdgoeblpcnjlbaaGreatDoor.Av
