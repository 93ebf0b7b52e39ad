/- Proved: for every list of numbers the law WaysFollowed answers true and leaves its argument as it was (the tied card); no condition beyond the row's own. Text 1 of 15. -/
import Derived.Tactics
import Derived.Below
import Derived.Deep.LoopGhost
import Derived.Laws.NewBlocks
import Derived.Laws.CopyRow
import Derived.Laws.AppendOwn
import Derived.Deep.Quiet
import Derived.KernelRfl
import Derived.Laws.Tables
import Derived.Laws.Rows
import Derived.Laws.Strings
import Derived.Laws.Small
import Derived.Laws.Slices
set_option linter.unusedVariables false
set_option linter.unusedSimpArgs false
set_option linter.unusedSectionVars false
set_option linter.all false
namespace Go.Proofs.YtdgoeblpcnjlbaaGreatDoor.Av
open Go.RowKit
inductive V where
  | any
  | und
  | bool (b : Bool)
  | int (k : IntKind) (n : Int)
  | str (s : ByteArray)
  | nilp
  | ptr (id i c : Nat)
  | rptr (cells : List V)
  | nils
  | emp
  | fs (elems : List V)
  | ms (id off len : Nat)
  | nilmap
  | map (id : Nat)
  | fmap (keys vals : List V)
  | nilf
  | clos (f : FuncId) (first caps : List V)
  | agg (cells : List V)
  | tup (vs : List V)
  | nili
  | iface (t : TypeId) (v : V)
  deriving Inhabited
def cellsV : V → List V
  | .agg cs => cs
  | v => [v]
structure Pl where
  blk : Nat
  base : Nat
  size : Nat
  esz : Nat
abbrev IM := Nat → Option Obj
def Bn (es : Array MapEntry) (clock : Nat) : Prop := (∀ x ∈ es.toList, x.born < clock) ∧ (es.toList.map (·.born)).Nodup
def icell (I : IM) (b o : Nat) : Option Value :=
  match I b with
  | some (.cells c _ _) => c[o]?
  | _ => none
mutual
def Rep (B : List Pl) (I : IM) : V → Value → Prop
  | .any, _ => True
  | .und, v => v = undef
  | .bool b, v => v = .bool b
  | .int k n, v => v = .int k n
  | .str s, v => v = .string s ∧ s.size ≤ maxLen
  | .nilp, v => v = .pointer none
  | .ptr id i c, v => ∃ p, B[id]? = some p ∧ v = .pointer (some ⟨p.blk, p.base + i * p.esz + c, none⟩)
  | .rptr cells, v => ∃ b o, v = .pointer (some ⟨b, o, none⟩) ∧ CellsG B I cells (icell I b) o
  | .nils, v => v = .slice none 0 0
  | .emp, v => ∃ a, v = .slice a 0 0
  | .fs elems, v => ∃ a cap, v = .slice a elems.length cap ∧ elems.length ≤ cap ∧ cap ≤ maxLen ∧
      (elems = [] ∨ ∃ b o sz, a = some ⟨b, o, none⟩ ∧ ElemsG B I elems (icell I b) sz o)
  | .ms id off len, v => ∃ p a cap, B[id]? = some p ∧ v = .slice a len cap ∧ (0 < cap → a = some ⟨p.blk, p.base + off * p.esz, none⟩) ∧ len ≤ cap ∧ cap ≤ maxLen ∧
      p.base + (off + cap) * p.esz ≤ p.size
  | .nilmap, v => v = .map none
  | .map id, v => ∃ p, B[id]? = some p ∧ v = .map (some p.blk)
  | .fmap ks vs, v => ∃ b es clock, v = .map (some b) ∧ I b = some (.map es clock) ∧ Bn es clock ∧ RepL B I ks (es.toList.map (·.key)) ∧ RepL B I vs (es.toList.map (·.val))
  | .nilf, v => v = .nilFunc
  | .clos f first caps, v => ∃ fs cs : Array Value, v = .func (.func f) fs cs ∧ RepL B I first fs.toList ∧ RepL B I caps cs.toList
  | .agg cells, v => ∃ cs : Array Value, v = .agg cs ∧ RepL B I cells cs.toList
  | .tup vs, v => ∃ cs : Array Value, v = .tuple cs ∧ RepL B I vs cs.toList
  | .nili, v => v = .nilIface
  | .iface t x, v => ∃ u, v = .iface t u ∧ Rep B I x u
def RepL (B : List Pl) (I : IM) : List V → List Value → Prop
  | [], l => l = []
  | c :: cs, l => ∃ v vs, l = v :: vs ∧ Rep B I c v ∧ RepL B I cs vs
def CellsG (B : List Pl) (I : IM) : List V → (Nat → Option Value) → Nat → Prop
  | [], _, _ => True
  | c :: cs, g, o => (∃ v, g o = some v ∧ Rep B I c v) ∧ CellsG B I cs g (o + 1)
def ElemsG (B : List Pl) (I : IM) : List V → (Nat → Option Value) → Nat → Nat → Prop
  | [], _, _, _ => True
  | .agg cs :: es, g, sz, o => cs.length = sz ∧ CellsG B I cs g o ∧ ElemsG B I es g sz (o + sz)
  | e :: es, g, sz, o => sz = 1 ∧ (∃ v, g o = some v ∧ Rep B I e v) ∧ ElemsG B I es g sz (o + sz)
end
theorem elemsG_cons {B : List Pl} {I : IM} {e : V} {es : List V} {g : Nat → Option Value} {sz o : Nat} :
    ElemsG B I (e :: es) g sz o ↔ (cellsV e).length = sz ∧ CellsG B I (cellsV e) g o ∧ ElemsG B I es g sz (o + sz) := by
  cases e <;> simp [ElemsG, cellsV, CellsG, eq_comm, and_assoc]
def ILe (I I' : IM) : Prop := ∀ b o, I b = some o → I' b = some o
def BLe (B B' : List Pl) : Prop := ∀ (i : Nat) p, B[i]? = some p → B'[i]? = some p
theorem ILe.refl (I : IM) : ILe I I := fun _ _ h => h
theorem BLe.refl (B : List Pl) : BLe B B := fun _ _ h => h
theorem ILe.trans {I J K : IM} (h : ILe I J) (k : ILe J K) : ILe I K := fun b o x => k b o (h b o x)
theorem BLe.trans {I J K : List Pl} (h : BLe I J) (k : BLe J K) : BLe I K := fun b o x => k b o (h b o x)
theorem BLe.append (B C : List Pl) : BLe B (B ++ C) := fun i p h => by
  have := (List.getElem?_eq_some_iff.1 h).1
  rw [List.getElem?_append_left this]; exact h
theorem icell_mono {I I' : IM} (h : ILe I I') {b o : Nat} {v : Value} (e : icell I b o = some v) : icell I' b o = some v := by
  unfold icell at *
  cases hb : I b with
  | none => rw [hb] at e; cases e
  | some x => rw [hb] at e; rw [h b x hb]; exact e
theorem cellsG_iff {B : List Pl} {I : IM} {g : Nat → Option Value} : ∀ {cs : List V} {o : Nat},
    CellsG B I cs g o ↔ ∀ (j : Nat) c, cs[j]? = some c → ∃ v, g (o + j) = some v ∧ Rep B I c v
  | [], o => by simp [CellsG]
  | c :: cs, o => by
    simp only [CellsG, cellsG_iff (cs := cs)]
    constructor
    · rintro ⟨h0, h⟩ j x hj
      cases j with
      | zero => simp at hj; subst hj; exact h0
      | succ j => have := h j x (by simpa using hj); rwa [show o + 1 + j = o + (j + 1) by omega] at this
    · intro h
      refine ⟨h 0 c (by simp), fun j x hj => ?_⟩
      have := h (j + 1) x (by simpa using hj)
      rwa [show o + 1 + j = o + (j + 1) by omega]
theorem elemsG_iff {B : List Pl} {I : IM} {g : Nat → Option Value} {sz : Nat} : ∀ {es : List V} {o : Nat},
    ElemsG B I es g sz o ↔ ∀ (i : Nat) e, es[i]? = some e → (cellsV e).length = sz ∧ ∀ (j : Nat) c, (cellsV e)[j]? = some c → ∃ v, g (o + i * sz + j) = some v ∧ Rep B I c v
  | [], o => by simp [ElemsG]
  | e :: es, o => by
    rw [elemsG_cons]
    simp only [cellsG_iff, elemsG_iff (es := es)]
    constructor
    · rintro ⟨hl, h0, h⟩ i x hi
      cases i with
      | zero => simp at hi; subst hi; exact ⟨hl, fun j c hj => by simpa using h0 j c hj⟩
      | succ i =>
        obtain ⟨h1, h2⟩ := h i x (by simpa using hi)
        refine ⟨h1, fun j c hj => ?_⟩
        have := h2 j c hj
        rwa [show o + sz + i * sz = o + (i + 1) * sz by rw [Nat.add_mul]; omega] at this
    · intro h
      obtain ⟨h1, h2⟩ := h 0 e (by simp)
      refine ⟨h1, fun j c hj => by simpa using h2 j c hj, fun i x hi => ?_⟩
      obtain ⟨h3, h4⟩ := h (i + 1) x (by simpa using hi)
      refine ⟨h3, fun j c hj => ?_⟩
      have := h4 j c hj
      rwa [show o + (i + 1) * sz = o + sz + i * sz by rw [Nat.add_mul]; omega] at this
theorem cellsG_mono_g {B : List Pl} {I : IM} {g g' : Nat → Option Value} (hg : ∀ o v, g o = some v → g' o = some v) {cs : List V} {o : Nat} (h : CellsG B I cs g o) : CellsG B I cs g' o := by
  rw [cellsG_iff] at *
  intro j c hj
  obtain ⟨v, h1, h2⟩ := h j c hj
  exact ⟨v, hg _ _ h1, h2⟩
theorem elemsG_mono_g {B : List Pl} {I : IM} {g g' : Nat → Option Value} (hg : ∀ o v, g o = some v → g' o = some v) {cs : List V} {o sz : Nat} (h : ElemsG B I cs g sz o) : ElemsG B I cs g' sz o := by
  rw [elemsG_iff] at *
  intro i e hi
  obtain ⟨h0, h1⟩ := h i e hi
  refine ⟨h0, fun j c hj => ?_⟩
  obtain ⟨v, h1, h2⟩ := h1 j c hj
  exact ⟨v, hg _ _ h1, h2⟩
mutual
theorem Rep.mono {B B' : List Pl} {I I' : IM} (hB : BLe B B') (hI : ILe I I') : ∀ {x : V} {v : Value}, Rep B I x v → Rep B' I' x v
  | .any, _, h => by simp [Rep]
  | .und, _, h => by simpa [Rep] using h
  | .bool _, _, h => by simpa [Rep] using h
  | .int _ _, _, h => by simpa [Rep] using h
  | .str _, _, h => by simpa [Rep] using h
  | .nilp, _, h => by simpa [Rep] using h
  | .ptr id i c, _, h => by
    simp only [Rep] at *
    obtain ⟨p, h1, h2⟩ := h
    exact ⟨p, hB _ _ h1, h2⟩
  | .rptr cells, _, h => by
    simp only [Rep] at *
    obtain ⟨b, o, h1, h2⟩ := h
    exact ⟨b, o, h1, cellsG_mono_g (fun _ _ => icell_mono hI) (CellsG.mono hB hI h2)⟩
  | .nils, _, h => by simpa [Rep] using h
  | .emp, _, h => by simpa [Rep] using h
  | .fs elems, _, h => by
    simp only [Rep] at *
    obtain ⟨a, cap, h1, h2, h3, h4⟩ := h
    refine ⟨a, cap, h1, h2, h3, ?_⟩
    rcases h4 with h4 | ⟨b, o, sz, h5, h6⟩
    · exact .inl h4
    · exact .inr ⟨b, o, sz, h5, elemsG_mono_g (fun _ _ => icell_mono hI) (ElemsG.mono hB hI h6)⟩
  | .ms id off len, _, h => by
    simp only [Rep] at *
    obtain ⟨p, a, cap, h1, h2⟩ := h
    exact ⟨p, a, cap, hB _ _ h1, h2⟩
  | .nilmap, _, h => by simpa [Rep] using h
  | .map id, _, h => by
    simp only [Rep] at *
    obtain ⟨p, h1, h2⟩ := h
    exact ⟨p, hB _ _ h1, h2⟩
  | .fmap ks vs, _, h => by
    simp only [Rep] at *
    obtain ⟨b, es, clock, h1, h2, h0, h3, h4⟩ := h
    exact ⟨b, es, clock, h1, hI _ _ h2, h0, RepL.mono hB hI h3, RepL.mono hB hI h4⟩
  | .nilf, _, h => by simpa [Rep] using h
  | .clos f first caps, _, h => by
    simp only [Rep] at *
    obtain ⟨fs, cs, h1, h2, h3⟩ := h
    exact ⟨fs, cs, h1, RepL.mono hB hI h2, RepL.mono hB hI h3⟩
  | .agg cells, _, h => by
    simp only [Rep] at *
    obtain ⟨cs, h1, h2⟩ := h
    exact ⟨cs, h1, RepL.mono hB hI h2⟩
  | .tup cells, _, h => by
    simp only [Rep] at *
    obtain ⟨cs, h1, h2⟩ := h
    exact ⟨cs, h1, RepL.mono hB hI h2⟩
  | .nili, _, h => by simpa [Rep] using h
  | .iface t x, _, h => by
    simp only [Rep] at *
    obtain ⟨u, h1, h2⟩ := h
    exact ⟨u, h1, Rep.mono hB hI h2⟩
theorem RepL.mono {B B' : List Pl} {I I' : IM} (hB : BLe B B') (hI : ILe I I') : ∀ {xs : List V} {l : List Value}, RepL B I xs l → RepL B' I' xs l
  | [], _, h => by simpa [RepL] using h
  | c :: cs, _, h => by
    simp only [RepL] at *
    obtain ⟨v, vs, h1, h2, h3⟩ := h
    exact ⟨v, vs, h1, Rep.mono hB hI h2, RepL.mono hB hI h3⟩
theorem CellsG.mono {B B' : List Pl} {I I' : IM} (hB : BLe B B') (hI : ILe I I') : ∀ {xs : List V} {g : Nat → Option Value} {o : Nat}, CellsG B I xs g o → CellsG B' I' xs g o
  | [], _, _, h => by simp [CellsG]
  | c :: cs, _, _, h => by
    simp only [CellsG] at *
    obtain ⟨⟨v, h1, h2⟩, h3⟩ := h
    exact ⟨⟨v, h1, Rep.mono hB hI h2⟩, CellsG.mono hB hI h3⟩
theorem ElemsG.mono {B B' : List Pl} {I I' : IM} (hB : BLe B B') (hI : ILe I I') : ∀ {xs : List V} {g : Nat → Option Value} {sz o : Nat}, ElemsG B I xs g sz o → ElemsG B' I' xs g sz o
  | [], _, _, _, h => by simp [ElemsG]
  | .agg cs :: es, _, _, _, h => by
    simp only [ElemsG] at *
    exact ⟨h.1, CellsG.mono hB hI h.2.1, ElemsG.mono hB hI h.2.2⟩
  | e :: es, _, _, _, h => by
    have he : ∀ v, Rep B I e v → Rep B' I' e v := fun v hv => Rep.mono hB hI hv
    have hes := fun g sz o => ElemsG.mono hB hI (xs := es) (g := g) (sz := sz) (o := o)
    cases e with
    | agg cs => 
      simp only [ElemsG] at *
      refine ⟨h.1, ?_, hes _ _ _ h.2.2⟩
      obtain ⟨v, hv⟩ : ∃ v : Value, v = .agg #[] := ⟨_, rfl⟩
      exact CellsG.mono hB hI h.2.1
    | _ =>
      simp only [ElemsG] at *
      obtain ⟨h0, ⟨v, h1, h2⟩, h3⟩ := h
      exact ⟨h0, ⟨v, h1, he v h2⟩, hes _ _ _ h3⟩
end
theorem repL_iff {B : List Pl} {I : IM} : ∀ {cs : List V} {l : List Value}, RepL B I cs l ↔ cs.length = l.length ∧ ∀ (j : Nat) c, cs[j]? = some c → ∃ v, l[j]? = some v ∧ Rep B I c v
  | [], l => by
    simp only [RepL, List.length_nil, List.getElem?_nil]
    constructor
    · rintro rfl; simp
    · rintro ⟨h, _⟩; cases l <;> simp_all
  | c :: cs, l => by
    simp only [RepL, repL_iff (cs := cs)]
    constructor
    · rintro ⟨v, vs, rfl, hv, hl, h⟩
      refine ⟨by simp [hl], fun j x hj => ?_⟩
      cases j with
      | zero => simp at hj; subst hj; exact ⟨v, by simp, hv⟩
      | succ j => simpa using h j x (by simpa using hj)
    · rintro ⟨hl, h⟩
      cases l with
      | nil => simp at hl
      | cons v vs =>
        obtain ⟨v', h1, h2⟩ := h 0 c (by simp)
        simp at h1; subst h1
        exact ⟨v, vs, rfl, h2, by simpa using hl, fun j x hj => by simpa using h (j + 1) x (by simpa using hj)⟩
theorem RepL.length {B : List Pl} {I : IM} {cs : List V} {l : List Value} (h : RepL B I cs l) : cs.length = l.length := (repL_iff.1 h).1
theorem RepL.append {B : List Pl} {I : IM} : ∀ {cs ds : List V} {l m : List Value}, RepL B I cs l → RepL B I ds m → RepL B I (cs ++ ds) (l ++ m)
  | [], _, _, _, h, k => by simp only [RepL] at h; subst h; simpa using k
  | c :: cs, _, _, _, h, k => by
    simp only [RepL] at h
    obtain ⟨v, vs, rfl, h1, h2⟩ := h
    simp only [List.cons_append, RepL]
    exact ⟨v, _, rfl, h1, RepL.append h2 k⟩
theorem RepL.take {B : List Pl} {I : IM} {cs : List V} {l : List Value} (n : Nat) (h : RepL B I cs l) : RepL B I (cs.take n) (l.take n) := by
  rw [repL_iff] at *
  obtain ⟨h1, h2⟩ := h
  refine ⟨by simp [h1], fun j c hj => ?_⟩
  rw [List.getElem?_take] at hj ⊢
  split at hj
  · rename_i hlt; simpa [hlt] using h2 j c hj
  · cases hj
theorem RepL.drop {B : List Pl} {I : IM} {cs : List V} {l : List Value} (n : Nat) (h : RepL B I cs l) : RepL B I (cs.drop n) (l.drop n) := by
  rw [repL_iff] at *
  obtain ⟨h1, h2⟩ := h
  refine ⟨by simp [h1], fun j c hj => ?_⟩
  rw [List.getElem?_drop] at hj ⊢
  exact h2 _ c hj
theorem RepL.get {B : List Pl} {I : IM} {cs : List V} {l : List Value} (h : RepL B I cs l) {i : Nat} {c : V} (hi : cs[i]? = some c) : ∃ v, l[i]? = some v ∧ Rep B I c v := (repL_iff.1 h).2 i c hi
inductive Blk where
  | row (elems : List V)
  | mp (ks vs : List V)
  | dead
def Blk.live : Blk → Bool
  | .dead => false
  | _ => true
def BlkOK (B : List Pl) (I : IM) (w : World) (p : Pl) : Blk → Prop
  | .row es => ∃ carr e, w.heap[p.blk]? = some (.cells carr e (0, 0)) ∧ carr.size = p.size ∧ p.base + es.length * p.esz ≤ p.size ∧ ElemsG B I es (fun o => carr[o]?) p.esz p.base
  | .mp ks vs => ∃ (es : Array MapEntry) (clock : Nat), w.heap[p.blk]? = some (.map es clock) ∧ Bn es clock ∧ RepL B I ks (es.toList.map (·.key)) ∧ RepL B I vs (es.toList.map (·.val))
  | .dead => True
theorem BlkOK.mono {B B' : List Pl} {I I' : IM} {w w' : World} {p : Pl} {b : Blk} (hB : BLe B B') (hI : ILe I I') (hw : b.live = true → w'.heap[p.blk]? = w.heap[p.blk]?) (h : BlkOK B I w p b) : BlkOK B' I' w' p b := by
  cases b with
  | dead => trivial
  | row es =>
    obtain ⟨carr, e, h1, h2, h3, h4⟩ := h
    exact ⟨carr, e, (hw rfl).trans h1, h2, h3, ElemsG.mono hB hI h4⟩
  | mp ks vs =>
    obtain ⟨es, clock, h1, h0, h2, h3⟩ := h
    exact ⟨es, clock, (hw rfl).trans h1, h0, RepL.mono hB hI h2, RepL.mono hB hI h3⟩
structure Fr where
  w0 : World
  M : Nat → Prop
  I0 : IM
structure Sim (f : Fr) (B : List Pl) (I : IM) (w : World) (H : List Blk) : Prop where
  len : B.length = H.length
  imm : ∀ b o, I b = some o → w.heap[b]? = some o
  ile : ILe f.I0 I
  ifresh : ∀ b, f.I0 b = none → I b ≠ none → f.w0.heap.size ≤ b ∨ f.M b
  os : w.os = f.w0.os
  tape : w.tape = f.w0.tape
  output : w.output = f.w0.output
  size : f.w0.heap.size ≤ w.heap.size
  keep : ∀ k, k < f.w0.heap.size → ¬ f.M k → w.heap[k]? = f.w0.heap[k]?
  ok : ∀ (i : Nat) p b, B[i]? = some p → H[i]? = some b → BlkOK B I w p b
  sep : ∀ (i j : Nat) p q b c, B[i]? = some p → B[j]? = some q → H[i]? = some b → H[j]? = some c → b.live = true → c.live = true → p.blk = q.blk → i = j
  own : ∀ (i : Nat) p b, B[i]? = some p → H[i]? = some b → b.live = true → I p.blk = none ∧ (f.w0.heap.size ≤ p.blk ∨ f.M p.blk) ∧ p.blk < w.heap.size
theorem Sim.ilt {f : Fr} {B : List Pl} {I : IM} {w : World} {H : List Blk} (h : Sim f B I w H) {b : Nat} (hb : I b ≠ none) : b < w.heap.size := by
  cases hI : I b with
  | none => exact absurd hI hb
  | some o => exact (Array.getElem?_eq_some_iff.1 (h.imm b o hI)).1
theorem Sim.grow {f : Fr} {B : List Pl} {I I' : IM} {w w' : World} {H : List Blk} (h : Sim f B I w H) (hw : Below w.heap.size w w') (hI : ILe I I')
    (imm : ∀ b o, I' b = some o → w'.heap[b]? = some o) (fresh : ∀ b, I b = none → I' b ≠ none → w.heap.size ≤ b) : Sim f B I' w' H where
  len := h.len
  imm := imm
  ile := h.ile.trans hI
  ifresh b h0 h1 := by
    by_cases hb : I b = none
    · exact .inl (Nat.le_trans h.size (fresh b hb h1))
    · exact h.ifresh b h0 hb
  os := hw.os.trans h.os
  tape := hw.tape.trans h.tape
  output := hw.output.trans h.output
  size := Nat.le_trans h.size hw.size
  keep k hk hm := (hw.block k (Nat.lt_of_lt_of_le hk h.size)).trans (h.keep k hk hm)
  ok i p b h1 h2 := by
    refine (h.ok i p b h1 h2).mono (BLe.refl _) hI fun hl => ?_
    exact hw.block _ (h.own i p b h1 h2 hl).2.2
  sep := h.sep
  own i p b h1 h2 hl := by
    obtain ⟨h3, h4, h5⟩ := h.own i p b h1 h2 hl
    refine ⟨?_, h4, Nat.lt_of_lt_of_le h5 hw.size⟩
    by_cases hx : I' p.blk = none
    · exact hx
    · have := fresh _ h3 hx; omega
theorem Sim.drew {f : Fr} {B : List Pl} {I : IM} {w : World} {H : List Blk} (h : Sim f B I w H) : Sim f B I w.drew H :=
  h.grow ⟨rfl, rfl, rfl, Nat.le_refl _, fun _ _ => rfl⟩ (ILe.refl _) h.imm (fun b h1 h2 => absurd h1 h2)
theorem below_alloc1 (w : World) (o : Obj) : Below w.heap.size w (w.alloc o) := (Below.refl _ _).alloc (Nat.le_refl _) _
theorem Sim.junk {f : Fr} {B : List Pl} {I : IM} {w : World} {H : List Blk} (h : Sim f B I w H) (o : Obj) : Sim f B I (w.alloc o) H := by
  refine h.grow (below_alloc1 w o) (ILe.refl _) (fun b x hx => ?_) (fun b h1 h2 => absurd h1 h2)
  rw [(below_alloc1 w o).block b (h.ilt (by rw [hx]; simp))]; exact h.imm b x hx
theorem getElem?_append_one {α : Type} (l : List α) (a : α) (i : Nat) : (l ++ [a])[i]? = if i = l.length then some a else l[i]? := by
  by_cases h : i < l.length
  · rw [List.getElem?_append_left h, if_neg (by omega)]
  · rw [List.getElem?_append_right (by omega)]
    by_cases h2 : i = l.length
    · subst h2; simp
    · rw [if_neg h2, List.getElem?_eq_none (by simp; omega), List.getElem?_eq_none (by omega)]
theorem Sim.push {f : Fr} {B : List Pl} {I : IM} {w : World} {H : List Blk} (h : Sim f B I w H) (p : Pl) (b : Blk)
    (hok : BlkOK B I w p b) (hsep : ∀ (i : Nat) q c, B[i]? = some q → H[i]? = some c → c.live = true → q.blk ≠ p.blk)
    (hown : I p.blk = none ∧ (f.w0.heap.size ≤ p.blk ∨ f.M p.blk) ∧ p.blk < w.heap.size) : Sim f (B ++ [p]) I w (H ++ [b]) where
  len := by simp [h.len]
  imm := h.imm
  ile := h.ile
  ifresh := h.ifresh
  os := h.os
  tape := h.tape
  output := h.output
  size := h.size
  keep := h.keep
  ok i q c h1 h2 := by
    rw [getElem?_append_one] at h1 h2
    rw [h.len] at h1
    split at h1
    · rename_i e
      rw [if_pos e] at h2
      cases h1; cases h2
      exact hok.mono (BLe.append _ _) (ILe.refl _) (fun _ => rfl)
    · rename_i e
      rw [if_neg e] at h2
      exact (h.ok i q c h1 h2).mono (BLe.append _ _) (ILe.refl _) (fun _ => rfl)
  sep i j q r c d h1 h2 h3 h4 hc hd he := by
    rw [getElem?_append_one] at h1 h2 h3 h4
    rw [h.len] at h1 h2
    split at h1 <;> split at h2
    · omega
    · rename_i e1 e2
      rw [if_neg e2] at h4
      cases h1
      exact absurd he.symm (hsep j r d h2 h4 hd)
    · rename_i e1 e2
      rw [if_neg e1] at h3
      cases h2
      exact absurd he (hsep i q c h1 h3 hc)
    · rename_i e1 e2
      rw [if_neg e1] at h3
      rw [if_neg e2] at h4
      exact h.sep i j q r c d h1 h2 h3 h4 hc hd he
  own i q c h1 h2 hl := by
    rw [getElem?_append_one] at h1 h2
    rw [h.len] at h1
    split at h1
    · cases h1; exact hown
    · rename_i e
      rw [if_neg e] at h2
      exact h.own i q c h1 h2 hl
theorem Sim.alloc {f : Fr} {B : List Pl} {I : IM} {w : World} {H : List Blk} (h : Sim f B I w H) (carr : Array Value) (t : TypeId) (es : List V) (sz : Nat)
    (hs : es.length * sz ≤ carr.size) (he : ElemsG B I es (fun o => carr[o]?) sz 0) :
    Sim f (B ++ [⟨w.heap.size, 0, carr.size, sz⟩]) I (w.alloc (.cells carr t)) (H ++ [.row es]) := by
  refine (h.junk (.cells carr t)).push _ _ ?_ ?_ ?_
  · exact ⟨carr, t, by show (w.heap.push _)[w.heap.size]? = _; simp, rfl, by simpa using hs, he⟩
  · intro i q c h1 h2 hl
    have := (h.own i q c h1 h2 hl).2.2
    simp; omega
  · refine ⟨?_, .inl h.size, by simp⟩
    cases hx : I w.heap.size with
    | none => rfl
    | some o => have := h.ilt (b := w.heap.size) (by rw [hx]; simp); omega
theorem lset_get {α : Type} (l : List α) (i j : Nat) (a : α) : (l.set i a)[j]? = if i = j then (if i < l.length then some a else none) else l[j]? := by
  rw [List.getElem?_set]
theorem Sim.kill {f : Fr} {B : List Pl} {I : IM} {w : World} {H : List Blk} (h : Sim f B I w H) (id : Nat) : Sim f B I w (H.set id .dead) where
  len := by simp [h.len]
  imm := h.imm
  ile := h.ile
  ifresh := h.ifresh
  os := h.os
  tape := h.tape
  output := h.output
  size := h.size
  keep := h.keep
  ok i q c h1 h2 := by
    rw [lset_get] at h2
    split at h2
    · split at h2 <;> cases h2; trivial
    · exact h.ok i q c h1 h2
  sep i j q r c d h1 h2 h3 h4 hc hd he := by
    rw [lset_get] at h3 h4
    split at h3
    · split at h3 <;> cases h3; cases hc
    · split at h4
      · split at h4 <;> cases h4; cases hd
      · exact h.sep i j q r c d h1 h2 h3 h4 hc hd he
  own i q c h1 h2 hl := by
    rw [lset_get] at h2
    split at h2
    · split at h2 <;> cases h2; cases hl
    · exact h.own i q c h1 h2 hl
theorem Sim.rewrite {f : Fr} {B : List Pl} {I : IM} {w : World} {H : List Blk} (h : Sim f B I w H) {id : Nat} {p : Pl} {es es' : List V} {carr carr' : Array Value} {t : TypeId}
    (hp : B[id]? = some p) (hH : H[id]? = some (.row es)) (hc : w.heap[p.blk]? = some (.cells carr t (0, 0))) (hsz : carr'.size = carr.size)
    (hes : p.base + es'.length * p.esz ≤ p.size) (he : ElemsG B I es' (fun o => carr'[o]?) p.esz p.base) :
    Sim f B I (w.setRow p.blk carr') (H.set id (.row es')) := by
  have hlt : p.blk < w.heap.size := (Array.getElem?_eq_some_iff.1 hc).1
  have hother : ∀ k, k ≠ p.blk → (w.setRow p.blk carr').heap[k]? = w.heap[k]? := by
    intro k hk
    simp only [World.setRow, Array.getElem?_modify]
    rw [if_neg (by omega)]
  have hself : (w.setRow p.blk carr').heap[p.blk]? = some (.cells carr' t (0, 0)) := by
    simp only [World.setRow, Array.getElem?_modify, if_pos, hc, Option.map_some]
  obtain ⟨hn, hm, _⟩ := h.own id p _ hp hH rfl
  have hsize : (w.setRow p.blk carr').heap.size = w.heap.size := by simp [World.setRow]
  constructor
  · simp [h.len]
  · intro b o hb
    rw [hother b (by rintro rfl; rw [hn] at hb; cases hb)]
    exact h.imm b o hb
  · exact h.ile
  · exact h.ifresh
  · exact h.os
  · exact h.tape
  · exact h.output
  · rw [hsize]; exact h.size
  · intro k hk hmk
    rw [hother k (by rintro rfl; rcases hm with hm | hm; · omega
                     · exact hmk hm)]
    exact h.keep k hk hmk
  · intro i q c h1 h2
    rw [lset_get] at h2
    split at h2
    · rename_i e
      subst e
      split at h2 <;> cases h2
      rw [hp] at h1; cases h1
      obtain ⟨carr0, t0, h3, h4, _, _⟩ := h.ok id p _ hp hH
      rw [hc] at h3; cases h3
      exact ⟨carr', t, hself, by rw [hsz, h4], hes, he⟩
    · rename_i e
      refine (h.ok i q c h1 h2).mono (BLe.refl _) (ILe.refl _) fun hl => hother _ fun heq => ?_
      exact e (h.sep id i p q _ c hp h1 hH h2 rfl hl heq.symm)
  · intro i j q r c d h1 h2 h3 h4 hc' hd he'
    have fix : ∀ (k : Nat) (x : Blk), (H.set id (.row es'))[k]? = some x → x.live = true → ∃ y, H[k]? = some y ∧ y.live = true := by
      intro k x hx hxl
      rw [lset_get] at hx
      split at hx
      · rename_i e; subst e; exact ⟨_, hH, rfl⟩
      · exact ⟨x, hx, hxl⟩
    obtain ⟨c', h3', hc''⟩ := fix i c h3 hc'
    obtain ⟨d', h4', hd''⟩ := fix j d h4 hd
    exact h.sep i j q r c' d' h1 h2 h3' h4' hc'' hd'' he'
  · intro i q c h1 h2 hl
    rw [hsize]
    rw [lset_get] at h2
    split at h2
    · rename_i e; subst e; exact h.own _ q _ h1 hH rfl
    · exact h.own i q c h1 h2 hl
theorem Sim.rewriteO {f : Fr} {B : List Pl} {I : IM} {w : World} {H : List Blk} (h : Sim f B I w H) {id : Nat} {p : Pl} {b0 b1 : Blk} {o : Obj}
    (hp : B[id]? = some p) (hH : H[id]? = some b0) (hl0 : b0.live = true) (hlt : p.blk < w.heap.size)
    (hok : BlkOK B I { w with heap := w.heap.setIfInBounds p.blk o } p b1) : Sim f B I { w with heap := w.heap.setIfInBounds p.blk o } (H.set id b1) := by
  have hother : ∀ k, k ≠ p.blk → (w.heap.setIfInBounds p.blk o)[k]? = w.heap[k]? := by
    intro k hk
    rw [Array.getElem?_setIfInBounds, if_neg (by omega)]
  obtain ⟨hn, hm, _⟩ := h.own id p _ hp hH hl0
  have hsize : (w.heap.setIfInBounds p.blk o).size = w.heap.size := by simp
  constructor
  · simp [h.len]
  · intro b x hb
    show (w.heap.setIfInBounds p.blk o)[b]? = _
    rw [hother b (by rintro rfl; rw [hn] at hb; cases hb)]
    exact h.imm b x hb
  · exact h.ile
  · exact h.ifresh
  · exact h.os
  · exact h.tape
  · exact h.output
  · show _ ≤ (w.heap.setIfInBounds p.blk o).size
    rw [hsize]; exact h.size
  · intro k hk hmk
    show (w.heap.setIfInBounds p.blk o)[k]? = _
    rw [hother k (by rintro rfl; rcases hm with hm | hm; · omega
                     · exact hmk hm)]
    exact h.keep k hk hmk
  · intro i q c h1 h2
    rw [lset_get] at h2
    split at h2
    · rename_i e
      subst e
      split at h2 <;> cases h2
      rw [hp] at h1; cases h1
      exact hok
    · rename_i e
      refine (h.ok i q c h1 h2).mono (BLe.refl _) (ILe.refl _) fun hl => hother _ fun heq => ?_
      exact e (h.sep id i p q _ c hp h1 hH h2 hl0 hl heq.symm)
  · intro i j q r c d h1 h2 h3 h4 hc' hd he'
    have fix : ∀ (k : Nat) (x : Blk), (H.set id b1)[k]? = some x → x.live = true → ∃ y, H[k]? = some y ∧ y.live = true := by
      intro k x hx hxl
      rw [lset_get] at hx
      split at hx
      · rename_i e; subst e; exact ⟨_, hH, hl0⟩
      · exact ⟨x, hx, hxl⟩
    obtain ⟨c', h3', hc''⟩ := fix i c h3 hc'
    obtain ⟨d', h4', hd''⟩ := fix j d h4 hd
    exact h.sep i j q r c' d' h1 h2 h3' h4' hc'' hd'' he'
  · intro i q c h1 h2 hl
    show I q.blk = none ∧ (_ ∨ _) ∧ q.blk < (w.heap.setIfInBounds p.blk o).size
    rw [hsize]
    rw [lset_get] at h2
    split at h2
    · rename_i e; subst e; exact h.own _ q _ h1 hH hl0
    · exact h.own i q c h1 h2 hl
theorem Sim.allocM {f : Fr} {B : List Pl} {I : IM} {w : World} {H : List Blk} (h : Sim f B I w H) :
    Sim f (B ++ [⟨w.heap.size, 0, 0, 0⟩]) I (w.alloc (.map #[] 0)) (H ++ [.mp [] []]) := by
  refine (h.junk (.map #[] 0)).push _ _ ?_ ?_ ?_
  · exact ⟨#[], 0, by show (w.heap.push _)[w.heap.size]? = _; simp, by simp [Bn], by simp [RepL], by simp [RepL]⟩
  · intro i q c h1 h2 hl
    have := (h.own i q c h1 h2 hl).2.2
    simp; omega
  · refine ⟨?_, .inl h.size, by simp⟩
    cases hx : I w.heap.size with
    | none => rfl
    | some o => have := h.ilt (b := w.heap.size) (by rw [hx]; simp); omega
mutual
def noref : V → Bool
  | .ptr _ _ _ | .ms _ _ _ | .map _ => false
  | .rptr l | .fs l | .agg l | .tup l => norefL l
  | .fmap a b => norefL a && norefL b
  | .clos _ a b => norefL a && norefL b
  | .iface _ v => noref v
  | _ => true
def norefL : List V → Bool
  | [] => true
  | v :: l => noref v && norefL l
end
def fzL (g : V → Option V) : List V → Option (List V)
  | [] => some []
  | v :: l => match g v, fzL g l with
    | some x, some xs => some (x :: xs)
    | _, _ => none
def fz (H : List Blk) : Nat → V → Option V
  | 0, _ => none
  | n + 1, v => match v with
    | .nils => some (.fs [])
    | .emp => some (.fs [])
    | .ptr id i c => match H[id]? with
      | some (.row es) => if i < es.length ∧ c ≤ (cellsV (es.getD i .any)).length then (fzL (fz H n) ((cellsV (es.getD i .any)).drop c)).map .rptr else none
      | _ => none
    | .ms id off len => match H[id]? with
      | some (.row es) => if off + len ≤ es.length then (fzL (fz H n) ((es.drop off).take len)).map .fs else none
      | _ => none
    | .map id => match H[id]? with
      | some (.mp ks vs) => match fzL (fz H n) ks, fzL (fz H n) vs with
        | some a, some b => some (.fmap a b)
        | _, _ => none
      | _ => none
    | .agg cs => (fzL (fz H n) cs).map .agg
    | .tup cs => (fzL (fz H n) cs).map .tup
    | .clos f a b => match fzL (fz H n) a, fzL (fz H n) b with
      | some a, some b => some (.clos f a b)
      | _, _ => none
    | v => if noref v then some v else none
def keepL (D : List Nat) (H : List Blk) : List Blk := H.mapIdx fun i b => if D.contains i then b else .dead
def killL : List Nat → List Blk → List Blk
  | [], H => H
  | d :: D, H => killL D (H.set d .dead)
inductive SX where
  | tmp (t : Nat)
  | val (v : V)
  deriving Inhabited
def evX (env : Nat → V) : SX → V
  | .tmp t => env t
  | .val v => v
inductive SOp where
  | mov (x : SX)
  | pick (c a b : SX)
  | alloc (z : V)
  | box (x : SX)
  | build (z : List V) (parts : List (Nat × Nat × SX))
  | buildS (esz : Nat) (xs : List SX)
  | load (agg : Bool) (n : Nat) (a : SX)
  | store (n : Nat) (a x : SX)
  | nilc (x : SX)
  | bin (op : BinOp) (x y : SX)
  | beq (neg : Bool) (x y : SX)
  | un (op : UnOp) (x : SX)
  | conv (k : IntKind) (x : SX)
  | convs (x : SX)
  | mkfn (f : FuncId) (first caps : List SX)
  | slice (esz : Nat) (x : SX) (lo hi : Option SX)
  | strsl (x : SX) (lo hi : Option SX)
  | faddr (off : Nat) (x : SX)
  | field (agg : Bool) (off n : Nat) (x : SX)
  | iaddr (esz : Nat) (x i : SX)
  | sidx (x i : SX)
  | extract (x : SX) (i : Nat)
  | call (f : SX) (args : List SX)
  | len (str : Bool) (x : SX)
  | append (esz bytes : Nat) (x y : SX)
  | frz (t : Nat)
  | buildF (esz : Nat) (xs : List SX)
  | mkemp
  | jalloc
  | snil (neg : Bool) (x : SX)
  | mkmap
  | mks (z : V) (x : SX)
  | mlook (sh : Bool × List Bool) (ok : Bool) (z : V) (x k : SX)
  | mset (sh : Bool × List Bool) (x k v : SX)
  deriving Inhabited
structure SOper where
  dst : Option Nat
  op : SOp
  guard : Option (Nat × Bool)
abbrev sT := SX.tmp
abbrev opM (d t : Nat) : SOper := ⟨some d, .mov (.tmp t), none⟩
abbrev opG (d t g : Nat) (b : Bool) : SOper := ⟨some d, .mov (.tmp t), some (g, b)⟩
abbrev opL (d t : Nat) : SOper := ⟨some d, .load false 1 (.tmp t), none⟩
abbrev opH (d t g : Nat) (b : Bool) : SOper := ⟨some d, .load false 1 (.tmp t), some (g, b)⟩
abbrev opN (d n t : Nat) : SOper := ⟨some d, .load true n (.tmp t), none⟩
abbrev opF (d k t : Nat) : SOper := ⟨some d, .faddr k (.tmp t), none⟩
abbrev opK (d k t g : Nat) (b : Bool) : SOper := ⟨some d, .faddr k (.tmp t), some (g, b)⟩
abbrev opB (d : Nat) (o : BinOp) (x y : Nat) : SOper := ⟨some d, .bin o (.tmp x) (.tmp y), none⟩
abbrev opY (d : Nat) (o : BinOp) (x : Nat) (v : V) : SOper := ⟨some d, .bin o (.tmp x) (.val v), none⟩
abbrev opE (d t : Nat) : SOper := ⟨some d, .len false (.tmp t), none⟩
abbrev opI (d k x y : Nat) : SOper := ⟨some d, .iaddr k (.tmp x) (.tmp y), none⟩
abbrev opW (d : Nat) (v : V) : SOper := ⟨some d, .mov (.val v), none⟩
abbrev opC (d : Nat) (f : FuncId) (l : List SX) : SOper := ⟨some d, .call (.val (.clos f [] [])) l, none⟩
def SOper.isFrz : SOper → Bool
  | ⟨some d, .frz t, none⟩ => d == t
  | _ => false
def strip : List SOper → List SOper
  | [] => []
  | s :: ss => if s.isFrz then strip ss else s :: strip ss
structure QO where
  o : SOper
  ld : Bool
  lo : Nat
  hi : Nat
  bs : Nat
inductive SCode where
  | skip
  | region (ops : List SOper)
  | qregion (ops : List QO)
  | pregion (ops : List QO) (t ia : Nat) (z : V) (st : SOper)
  | seq (a b : SCode)
  | cond (c : SX) (t e : SCode)
  | block (id : Nat) (c : SCode)
  | loop (c : SCode)
  | exit (id : Nat)
  | ret
def V.isAny : V → Bool
  | .any => true
  | _ => false
def V.one : V → Bool
  | .any | .und | .agg _ | .tup _ => false
  | _ => true
def splice (cs : List V) (off : Nat) (vs : List V) : List V := cs.take off ++ vs ++ cs.drop (off + vs.length)
def rd (agg : Bool) (n : Nat) (cells : List V) : V := if agg then .agg (cells.take n) else cells.headD .any
def remk (e : V) (cells : List V) : V := match e with
  | .agg _ => .agg cells
  | _ => cells.headD .any
def upd (e : Nat → V) (d : Nat) (v : V) : Nat → V := fun i => if i = d then v else e i
def updO (e : Nat → V) (d : Option Nat) (v : V) : Nat → V := match d with
  | some d => upd e d v
  | none => e
def Fork (b : Bool) (p q : Prop) : Prop := (b = true → p) ∧ (b = false → q)
def fillP : List V → List (Nat × Nat × V) → (List V → Prop) → Prop
  | cs, [], k => k cs
  | cs, (off, n, v) :: r, k => (v.isAny = false ∧ (cellsV v).length = n ∧ off + n ≤ cs.length) ∧ fillP (splice cs off (cellsV v)) r k
def bt (s : ByteArray) (i : Nat) : Int := ((s.data.getD i 0).toNat : Int)
def srcE (H : List Blk) : V → Option (List V)
  | .fs es => some es
  | .nils => some []
  | .emp => some []
  | .ms id off len => match H[id]? with
    | some (.row es) => if off + len ≤ es.length then some ((es.drop off).take len) else none
    | _ => none
  | _ => none
def ixO (env : Nat → V) (d : Int) : Option SX → Option Int
  | none => some d
  | some x => match evX env x with
    | .int _ i => some i
    | _ => none
def headOk (sz : Nat) (es : List V) : Prop := ∀ e, es.head? = some e → (cellsV e).length = sz
def keq1 : V → V → Option Bool
  | .int k a, .int k' b => if k = k' then some (decide (a = b)) else none
  | .str a, .str b => some (decide (a = b))
  | _, _ => none
def keqL : List V → List V → Option Bool
  | [], [] => some true
  | x :: xs, y :: ys => match keq1 x y, keqL xs ys with
    | some a, some b => some (a && b)
    | _, _ => none
  | _, _ => none
def keq : V → V → Option Bool
  | .agg xs, .agg ys => keqL xs ys
  | .agg _, _ => none
  | x, y => keq1 x y
def kfit1 : Bool → V → Bool
  | true, .str _ => true
  | false, .int _ _ => true
  | _, _ => false
def kfitL : List Bool → List V → Bool
  | [], [] => true
  | b :: bs, v :: vs => kfit1 b v && kfitL bs vs
  | _, _ => false
def kfit : Bool × List Bool → V → Bool
  | (true, l), .agg cs => kfitL l cs
  | (false, [b]), v => kfit1 b v
  | _, _ => false
def kOk (sh : Bool × List Bool) (ks : List V) (k : V) : Bool := kfit sh k && ks.all fun q => (keq k q).isSome
def mget : List V → List V → V → Option V
  | q :: ks, v :: vs, k => if keq k q = some true then some v else mget ks vs k
  | _, _, _ => none
def mputK (ks : List V) (k : V) : List V := if ks.any (fun q => keq k q == some true) then ks else ks ++ [k]
def mputV : List V → List V → V → V → List V
  | q :: ks, v :: vs, k, x => if keq k q = some true then x :: vs else v :: mputV ks vs k x
  | _, vs, _, x => vs ++ [x]
def mres (ok : Bool) (z : V) (r : Option V) : V := if ok then .tup [r.getD z, .bool r.isSome] else r.getD z
def ixP (i : Int) (n : Nat) : Prop := 0 ≤ i ∧ i.toNat < n
def callable (P : Program) (g : FuncId) : Bool := match P.funcs[g]? with
  | some fn => fn.body.isSome && fn.name != "runtime.NumGoroutine"
  | none => false
def ACall (P : Program) (g : FuncId) (vs : List V) (H : List Blk) (K : V → List Blk → Prop) : Prop :=
  callable P g = true ∧ ∀ (f : Fr) (B : List Pl) (I : IM) (w : World) (args : Array Value), Sim f B I w H → RepL B I vs args.toList →
    Calls P g args w (fun e w' => ∃ r v H' B' I', e = .returned v ∧ K r H' ∧ Sim f B' I' w' H' ∧ BLe B B' ∧ ILe I I' ∧ Rep B' I' r v)
def appK (esz bytes : Nat) (src : List V) (yv xv : V) (H : List Blk) (K : V → List Blk → Prop) : Prop := match xv with
  | .emp => (src = [] → K .emp H) ∧ (src ≠ [] → src.length * bytes ≤ 140737488355328 ∧ K (.ms H.length 0 src.length) (H ++ [.row src]))
  | .nils => (src = [] → K .nils H) ∧ (src ≠ [] → src.length * bytes ≤ 140737488355328 ∧ K (.ms H.length 0 src.length) (H ++ [.row src]))
  | .ms id off len => match H[id]? with
        | some (.row es) => (off + len = es.length ∧ es ≠ [] ∧ headOk esz es ∧ (∀ i o l, yv = .ms i o l → i ≠ id) ∧ (len + src.length) * bytes ≤ 140737488355328) ∧
          K (.ms H.length 0 (len + src.length)) (H.set id .dead ++ [.row (es.drop off ++ src)])
        | _ => False
  | _ => False
def exOp (P : Program) (o : SOp) (env : Nat → V) (H : List Blk) (K : V → List Blk → Prop) : Prop :=
  match o with
  | .mov x => K (evX env x) H
  | .pick c a b => match evX env c with
    | .bool c => Fork c (K (evX env a) H) (K (evX env b) H)
    | _ => False
  | .alloc z => K (.ptr H.length 0 0) (H ++ [.row [z]])
  | .box x => (evX env x).isAny = false ∧ K (.ptr H.length 0 0) (H ++ [.row [evX env x]])
  | .build z parts => fillP z (parts.map fun p => (p.1, p.2.1, evX env p.2.2)) fun cs => K (.agg cs) H
  | .buildS esz xs => ((xs.map (evX env)).all (fun v => !v.isAny && (cellsV v).length == esz) = true) ∧ K (.ms H.length 0 xs.length) (H ++ [.row (xs.map (evX env))])
  | .load agg n a => match evX env a with
    | .ptr id i c => match H[id]? with
      | some (.row es) => (i < es.length ∧ c + n ≤ (cellsV (es.getD i .any)).length) ∧ K (rd agg n ((cellsV (es.getD i .any)).drop c)) H
      | _ => False
    | .rptr cells => n ≤ cells.length ∧ K (rd agg n cells) H
    | _ => False
  | .store n a x => match evX env a with
    | .ptr id i c => match H[id]? with
      | some (.row es) => (i < es.length ∧ c + n ≤ (cellsV (es.getD i .any)).length ∧ (cellsV (evX env x)).length = n ∧ (cellsV (evX env x)).all V.one = true ∧
          cellsV (remk (es.getD i .any) (splice (cellsV (es.getD i .any)) c (cellsV (evX env x)))) = splice (cellsV (es.getD i .any)) c (cellsV (evX env x))) ∧
        K .any (H.set id (.row (es.set i (remk (es.getD i .any) (splice (cellsV (es.getD i .any)) c (cellsV (evX env x)))))))
      | _ => False
    | _ => False
  | .nilc x => match evX env x with
    | .ptr id i c => K (.ptr id i c) H
    | .rptr cs => K (.rptr cs) H
    | .clos f a b => K (.clos f a b) H
    | _ => False
  | .bin op x y => match evX env x, evX env y with
    | .int k a, .int k' b => k = k' ∧ (match op with
      | .add => K (.int k (k.wrap (a + b))) H
      | .sub => K (.int k (k.wrap (a - b))) H
      | .mul => K (.int k (k.wrap (a * b))) H
      | .quo => b ≠ 0 ∧ K (.int k (k.wrap (a.tdiv b))) H
      | .rem => b ≠ 0 ∧ K (.int k (a.tmod b)) H
      | .eql => K (.bool (decide (a = b))) H
      | .neq => K (.bool (!decide (a = b))) H
      | .lss => K (.bool (decide (a < b))) H
      | .leq => K (.bool (decide (a ≤ b))) H
      | .gtr => K (.bool (decide (b < a))) H
      | .geq => K (.bool (decide (b ≤ a))) H
      | _ => False)
    | .str a, .str b => match op with
      | .add => a.size + b.size ≤ 9223372036854775807 ∧ K (.str (a ++ b)) H
      | .eql => K (.bool (decide (a = b))) H
      | .neq => K (.bool (!decide (a = b))) H
      | _ => False
    | _, _ => False
  | .beq neg x y => match evX env x, evX env y with
    | .bool a, .bool b => K (.bool (if neg then a != b else a == b)) H
    | _, _ => False
  | .un op x => match op, evX env x with
    | .not, .bool b => K (.bool (!b)) H
    | .neg, .int k n => K (.int k (k.wrap (0 - n))) H
    | _, _ => False
  | .conv k x => match evX env x with
    | .int _ n => K (.int k (k.wrap n)) H
    | _ => False
  | .convs x => match evX env x with
    | .str s => K (.str s) H
    | _ => False
  | .mkfn f first caps => K (.clos f (first.map (evX env)) (caps.map (evX env))) H
  | .slice esz x lo hi => match ixO env 0 lo with
    | none => False
    | some l => match evX env x with
      | .fs es => match ixO env es.length hi with
        | none => False
        | some h => (0 ≤ l ∧ l ≤ h ∧ h ≤ es.length ∧ headOk esz es) ∧ K (.fs ((es.take h.toNat).drop l.toNat)) H
      | .ms id off len => match ixO env len hi with
        | none => False
        | some h => match H[id]? with
          | some (.row es) => (0 ≤ l ∧ l ≤ h ∧ h ≤ len ∧ off + len ≤ es.length ∧ headOk esz es) ∧ K (.ms id (off + l.toNat) (h.toNat - l.toNat)) H
          | _ => False
      | .nils => match ixO env 0 hi with
        | none => False
        | some h => (l = 0 ∧ h = 0) ∧ K .nils H
      | _ => False
  | .strsl x lo hi => False
  | .faddr off x => match evX env x with
    | .ptr id i c => K (.ptr id i (c + off)) H
    | .rptr cells => K (.rptr (cells.drop off)) H
    | _ => False
  | .field agg off n x => match evX env x with
    | .agg cs => off + n ≤ cs.length ∧ K (rd agg n (cs.drop off)) H
    | _ => False
  | .iaddr esz x i => match evX env i with
    | .int _ i => match evX env x with
      | .fs es => (ixP i es.length ∧ (cellsV (es.getD i.toNat .any)).length = esz) ∧ K (.rptr (cellsV (es.getD i.toNat .any))) H
      | .ms id off len => match H[id]? with
        | some (.row es) => (ixP i len ∧ off + len ≤ es.length ∧ (cellsV (es.getD (off + i.toNat) .any)).length = esz) ∧ K (.ptr id (off + i.toNat) 0) H
        | _ => False
      | _ => False
    | _ => False
  | .sidx x i => match evX env x, evX env i with
    | .str s, .int _ i => ixP i s.size ∧ K (.int .u8 (bt s i.toNat)) H
    | _, _ => False
  | .extract x i => match evX env x with
    | .tup vs => i < vs.length ∧ K (vs.getD i .any) H
    | _ => False
  | .call fx args => match evX env fx with
    | .clos g first caps => ACall P g (first ++ args.map (evX env) ++ caps) H K
    | _ => False
  | .len str x => match str, evX env x with
    | false, .fs es => es.length ≤ 9223372036854775807 → K (.int .i64 es.length) H
    | false, .nils => K (.int .i64 0) H
    | false, .emp => K (.int .i64 0) H
    | false, .ms id off len => len ≤ 9223372036854775807 → K (.int .i64 len) H
    | true, .str s => s.size ≤ 9223372036854775807 → K (.int .i64 s.size) H
    | _, _ => False
  | .append esz bytes x y => match srcE H (evX env y) with
    | none => False
    | some src => (src.all (fun e => (cellsV e).length == esz && !e.isAny && (cellsV e).all V.one) = true) ∧ appK esz bytes src (evX env y) (evX env x) H K
  | .frz t => ∃ D v', fz (keepL D H) 20 (env t) = some v' ∧ K v' (killL D H)
  | .buildF esz xs => ((xs.map (evX env)).all (fun v => !v.isAny && (cellsV v).length == esz) = true) ∧ K (.fs (xs.map (evX env))) H
  | .mkemp => K .emp H
  | .jalloc => K .any H
  | .snil neg x => match evX env x with
    | .nils => K (.bool (!neg)) H
    | .emp => ∀ b, K (.bool b) H
    | .fs [] => ∀ b, K (.bool b) H
    | .fs (_ :: _) => K (.bool neg) H
    | .ms _ _ (_ + 1) => K (.bool neg) H
    | .ms _ _ 0 => ∀ b, K (.bool b) H
    | _ => False
  | .mkmap => K (.map H.length) (H ++ [.mp [] []])
  | .mks z x => match evX env x with
    | .int _ n => (0 ≤ n ∧ n ≤ 1000000000) ∧ K (.ms H.length 0 n.toNat) (H ++ [.row (List.replicate n.toNat z)])
    | _ => False
  | .mlook sh ok z x k => match evX env x with
    | .nilmap => kOk sh [] (evX env k) = true ∧ K (mres ok z none) H
    | .fmap ks vs => kOk sh ks (evX env k) = true ∧ K (mres ok z (mget ks vs (evX env k))) H
    | .map id => match H[id]? with
      | some (.mp ks vs) => kOk sh ks (evX env k) = true ∧ K (mres ok z (mget ks vs (evX env k))) H
      | _ => False
    | _ => False
  | .mset sh x k v => match evX env x with
    | .map id => match H[id]? with
      | some (.mp ks vs) => kOk sh ks (evX env k) = true ∧ K .any (H.set id (.mp (mputK ks (evX env k)) (mputV ks vs (evX env k) (evX env v))))
      | _ => False
    | _ => False
def relVal0 : Value → V → Bool
  | .bool b, .bool c => b == c
  | .int k n, .int k' n' => k == k' && n == n'
  | .string s, .str t => s.data == t.data && s.size ≤ 1000000
  | .pointer none, .nilp => true
  | .slice none 0 0, .nils => true
  | .slice none 0 0, .fs [] => true
  | .map none, .nilmap => true
  | .nilFunc, .nilf => true
  | .nilIface, .nili => true
  | _, _ => false
def relL : List Value → List V → Bool
  | [], [] => true
  | v :: vs, x :: xs => relVal0 v x && relL vs xs
  | _, _ => false
def relVal : Value → V → Bool
  | .agg cs, .agg xs => relL cs.toList xs
  | v, x => relVal0 v x
def chkX (n : Nat) : Operand → SX → Bool
  | .tmp t, .tmp u => t == u && t < n
  | .const v, .val x => relVal v x
  | .func f, .val (.clos g [] []) => f == g
  | _, _ => false
def chkXs (n : Nat) : List Operand → List SX → Bool
  | [], [] => true
  | x :: xs, y :: ys => chkX n x y && chkXs n xs ys
  | _, _ => false
def chkO (n : Nat) : Option Operand → Option SX → Bool
  | none, none => true
  | some x, some y => chkX n x y
  | _, _ => false
def aggOf (P : Program) (t : TypeId) : Option Bool :=
  match P.underlying t with
  | some (.struct _) | some (.array _ _) => some true
  | some _ => some false
  | none => none
def szOf (P : Program) (t : TypeId) : Option Nat := (P.info? t).map (·.size)
def chkParts (n : Nat) (place : Nat → Option (Nat × Nat)) : List (Nat × Operand) → List (Nat × Nat × SX) → Bool
  | [], [] => true
  | (i, x) :: r, (off, sz, y) :: s => place i == some (off, sz) && chkX n x y && chkParts n place r s
  | _, _ => false
def chkPartsE (n : Nat) : Nat → List (Nat × Operand) → List SX → Bool
  | _, [], [] => true
  | j, (i, x) :: r, y :: s => i == j && chkX n x y && chkPartsE n (j + 1) r s
  | _, _, _ => false
def fieldPl (P : Program) (fs : Array Field) (i : Nat) : Option (Nat × Nat) := (fs[i]?).bind fun f => (szOf P f.type).map fun s => (f.offset, s)
def zeroOf (P : Program) (t : TypeId) : Option Value := (P.info? t).bind (·.zero)
def isIntT (P : Program) (t : TypeId) : Option IntKind := match P.underlying t with
  | some (.int k) => some k
  | _ => none
def elT (P : Program) (t : TypeId) : Option TypeId := match P.underlying t with
  | some (.slice e) => some e
  | _ => none
def kt1 (P : Program) (t : TypeId) : Bool → Bool
  | true => match P.underlying t with | some .string => true | _ => false
  | false => match P.underlying t with | some (.int _) => true | _ => false
def ktFs (P : Program) : Nat → List Field → List Bool → Bool
  | _, [], [] => true
  | i, f :: fs, b :: bs => f.name != "_" && kt1 P f.type b && f.offset == i && szOf P f.type == some 1 && aggOf P f.type == some false && ktFs P (i + 1) fs bs
  | _, _, _ => false
def ktOk (P : Program) (t : TypeId) : Bool × List Bool → Bool
  | (false, [b]) => kt1 P t b
  | (true, l) => match P.underlying t with
    | some (.struct fs) => !P.stoodInHeld t && ktFs P 0 fs.toList l
    | _ => false
  | _ => false
def chkOp (P : Program) (n : Nat) : Op → TypeId → SOp → Bool
  | .move x, _, .mov y | .assign x, _, .mov y => chkX n x y
  | .pick c a b, _, .pick c' a' b' => chkX n c c' && chkX n a a' && chkX n b b'
  | .alloc t, _, .alloc z => match zeroOf P t with
    | some v => relVal v z
    | none => false
  | .box t x, _, .box y => chkX n x y
  | .build t parts, _, .build z ps => match P.underlying t, zeroOf P t with
    | some (.struct fs), some (.agg v) => relL v.toList z && chkParts n (fieldPl P fs) parts.toList ps && fs.toList.all fun f => (szOf P f.type).isSome
    | _, _ => false
  | .buildSlice t len parts, _, .buildS esz xs => match (elT P t) with
    | some e => szOf P e == some esz && xs.length == len && (decide (len * esz ≤ 10000)) && decide (0 < esz) && chkPartsE n 0 parts.toList xs && (zeroOf P e).isSome && decide (0 < len)
    | none => false
  | .load t a, _, .load g m a' => aggOf P t == some g && szOf P t == some m && (g || m == 1) && chkX n a a'
  | .store t a x, _, .store m a' x' => szOf P t == some m && chkX n a a' && chkX n x x'
  | .nilCheck x, _, .nilc y => chkX n x y
  | .binOp op t x y u, _, .bin op' x' y' => decide (op = op') && chkX n x x' && chkX n y y'
  | .binOp .eql t x y u, _, .beq false x' y' => chkX n x x' && chkX n y y' && (match P.underlying t with | some .bool => true | _ => false)
  | .binOp .neq t x y u, _, .beq true x' y' => chkX n x x' && chkX n y y' && (match P.underlying t with | some .bool => true | _ => false)
  | .unOp op _ x, _, .un op' x' => decide (op = op') && chkX n x x'
  | .convert s d x, _, .conv k x' => (P.underlying s).isSome && isIntT P d == some k && chkX n x x'
  | .convert s d x, _, .convs x' => (P.underlying s).isSome && (match P.underlying d with | some .string => true | _ => false) && chkX n x x'
  | .makeFunc (.func f) first caps, _, .mkfn g a b => f == g && chkXs n first.toList a && chkXs n caps.toList b
  | .slice t x lo hi none, _, .slice esz x' lo' hi' => match elT P t with
    | some e => szOf P e == some esz && chkX n x x' && chkO n lo lo' && chkO n hi hi'
    | none => false
  | .fieldAddr t x i, _, .faddr off x' => match P.underlying t with
    | some (.struct fs) => match fs[i]? with
      | some f => f.offset == off && (match szOf P f.type with | some s => s != 0 | none => false) && chkX n x x'
      | none => false
    | _ => false
  | .field t x i, _, .field g off m x' => match P.underlying t with
    | some (.struct fs) => match fs[i]? with
      | some f => f.offset == off && szOf P f.type == some m && aggOf P f.type == some g && (g || m == 1) && chkX n x x'
      | none => false
    | _ => false
  | .indexAddr t x i, _, .iaddr esz x' i' => match elT P t with
    | some e => szOf P e == some esz && chkX n x x' && chkX n i i'
    | none => false
  | .index t x i, _, .sidx x' i' => (match P.underlying t with | some .string => true | _ => false) && chkX n x x' && chkX n i i'
  | .extract x i, _, .extract x' i' => i == i' && chkX n x x'
  | .call c, _, .call f args => match c.callee with
    | .value g => chkX n g f && chkXs n c.args.toList args
    | _ => false
  | .call c, _, .len str x => match c.callee, c.args.toList, c.argTypes.toList with
    | .builtin .len, [y], [t] => chkX n y x && (match str, P.underlying t with | true, some .string => true | false, some (.slice _) => true | _, _ => false)
    | _, _, _ => false
  | .call c, _, .append esz bytes x y => match c.callee, c.args.toList, c.argTypes.toList with
    | .builtin .append, [x', y'], [t, u] => match elT P t with
      | some e => t == u && szOf P e == some esz && decide (0 < esz) && ((P.info? e).map (·.bytes)) == some bytes && decide (0 < bytes) && (match zeroOf P e with | some z => z.cells.size == esz | none => false) && chkX n x' x && chkX n y' y
      | _ => false
    | _, _, _ => false
  | .buildSlice t len parts, _, .buildF esz xs => match (elT P t) with
    | some e => szOf P e == some esz && xs.length == len && (decide (len * esz ≤ 10000)) && decide (0 < esz) && chkPartsE n 0 parts.toList xs && (zeroOf P e).isSome && decide (0 < len)
    | none => false
  | .alloc t, _, .jalloc => (zeroOf P t).isSome
  | .buildSlice t len parts, _, .mkemp => (match elT P t with | some e => (szOf P e).isSome | none => false) && len == 0 && parts.toList.isEmpty
  | .binOp op t x y u, _, .snil neg x' => decide (op = if neg then .neq else .eql) && (elT P t).isSome && chkX n x x' && (match y with | .const (.slice none 0 0) => true | _ => false)
  | .makeSlice t x y, _, .mks z x' => (match elT P t with
    | some e => szOf P e == some 1 && (match zeroOf P e with | some v => relVal v z && v.cells.size == 1 | none => false) && (cellsV z).length == 1 && (match P.info? e with | some i => decide (i.bytes ≤ 4096) | none => false)
    | none => false) && chkX n x x' && chkX n y x'
  | .makeMap t none, _, .mkmap => (match P.underlying t with | some (.map _ _) => true | _ => false)
  | .lookup t x k ok, _, .mlook sh ok' z x' k' => (match P.underlying t with
    | some (.map kt e) => ktOk P kt sh && (match zeroOf P e with | some v => relVal v z | none => false)
    | _ => false) && ok == ok' && chkX n x x' && chkX n k k'
  | .mapUpdate t x k v, _, .mset sh x' k' v' => (match P.underlying t with | some (.map kt _) => ktOk P kt sh | _ => false) && chkX n x x' && chkX n k k' && chkX n v v'
  | _, _, _ => false
def chkGuard (n : Nat) (all : Array Oper) : Option (Nat × Bool) → Option (Nat × Bool) → Bool
  | none, none => true
  | some (j, b), some (t, c) => b == c && ((all[j]?).bind (·.dst)) == some t && t < n
  | _, _ => false
def chkDst (n : Nat) : Option Nat → Option Nat → Bool
  | none, none => true
  | some d, some e => d == e && d < n
  | _, _ => false
def chkOper (P : Program) (n : Nat) (all : Array Oper) (o : Oper) (s : SOper) : Bool :=
  chkDst n o.dst s.dst && chkGuard n all o.guard s.guard && chkOp P n o.op o.type s.op
def chkOps (P : Program) (n : Nat) (all : Array Oper) : List Oper → List SOper → Bool
  | [], [] => true
  | o :: os, s :: ss => chkOper P n all o s && chkOps P n all os ss
  | _, _ => false
def REnv (B : List Pl) (I : IM) (env : Nat → V) (t : Array Value) : Prop := ∀ (i : Nat) v, t[i]? = some v → Rep B I (env i) v
theorem REnv.mono {B B' : List Pl} {I I' : IM} {env : Nat → V} {t : Array Value} (hB : BLe B B') (hI : ILe I I') (h : REnv B I env t) : REnv B' I' env t := fun i v hv => (h i v hv).mono hB hI
theorem REnv.set {B : List Pl} {I : IM} {env : Nat → V} {t : Array Value} (h : REnv B I env t) (d : Nat) {x : V} {v : Value} (hx : Rep B I x v) : REnv B I (upd env d x) (t.setIfInBounds d v) := by
  intro i u hu
  unfold upd
  rw [Array.getElem?_setIfInBounds] at hu
  split at hu
  · rename_i e
    subst e
    rw [if_pos rfl]
    split at hu
    · cases hu; exact hx
    · cases hu
  · rename_i e
    rw [if_neg (by omega)]
    exact h i u hu
theorem REnv.put {B : List Pl} {I : IM} {env : Nat → V} {a : Act} (h : REnv B I env a.tmps) (d : Option Nat) {x : V} {v : Value} (hx : Rep B I x v) : REnv B I (updO env d x) (a.put d v).tmps := by
  cases d with
  | none => exact h
  | some d => exact h.set d hx
theorem put_size (a : Act) (d : Option Nat) (v : Value) : (a.put d v).tmps.size = a.tmps.size := by cases d <;> simp [Act.put]
theorem put_defers (a : Act) (d : Option Nat) (v : Value) : (a.put d v).defers = a.defers := by cases d <;> simp [Act.put]
theorem rel0urep {B : List Pl} {I : IM} : ∀ {v : Value} {x : V}, relVal0 v x = true → Rep B I x v := by
  intro v x h
  unfold relVal0 at h
  split at h <;> simp_all [Rep, maxLen]
  case h_6 => exact ⟨none, 0, ⟨rfl, rfl⟩, by omega⟩
  · obtain ⟨h1, h2⟩ := h
    rename_i s t
    have : s = t := by cases s; cases t; simp_all
    subst this
    exact ⟨rfl, by omega⟩
theorem relL_rep {B : List Pl} {I : IM} : ∀ {l : List Value} {xs : List V}, relL l xs = true → RepL B I xs l
  | [], [], _ => by simp [RepL]
  | v :: vs, x :: xs, h => by
    simp only [relL, Bool.and_eq_true] at h
    simp only [RepL]
    exact ⟨v, vs, rfl, rel0urep h.1, relL_rep h.2⟩
  | [], _ :: _, h => by simp [relL] at h
  | _ :: _, [], h => by simp [relL] at h
theorem rel_rep {B : List Pl} {I : IM} {v : Value} {x : V} (h : relVal v x = true) : Rep B I x v := by
  unfold relVal at h
  split at h
  · simp only [Rep]; exact ⟨_, rfl, relL_rep h⟩
  · exact rel0urep h
theorem chkX_rep {B : List Pl} {I : IM} {env : Nat → V} {a : Act} {x : Operand} {y : SX} (h : chkX a.tmps.size x y = true) (he : REnv B I env a.tmps) : Rep B I (evX env y) (a.eval x) := by
  unfold chkX at h
  split at h
  · rename_i t u
    simp only [Bool.and_eq_true, beq_iff_eq, decide_eq_true_eq] at h
    obtain ⟨rfl, hlt⟩ := h
    simp only [evX, Act.eval]
    refine he t _ ?_
    simp [Array.getD, hlt]
  · simp only [evX, Act.eval]; exact rel_rep h
  · simp only [beq_iff_eq] at h; subst h
    simp only [evX, Act.eval, Rep]
    exact ⟨_, _, rfl, by simp [RepL], by simp [RepL]⟩
  · cases h
theorem chkXs_rep {B : List Pl} {I : IM} {env : Nat → V} {a : Act} (he : REnv B I env a.tmps) : ∀ {xs : List Operand} {ys : List SX}, chkXs a.tmps.size xs ys = true → RepL B I (ys.map (evX env)) (xs.map a.eval)
  | [], [], _ => by simp [RepL]
  | x :: xs, y :: ys, h => by
    simp only [chkXs, Bool.and_eq_true] at h
    simp only [List.map_cons, RepL]
    exact ⟨_, _, rfl, chkX_rep h.1 he, chkXs_rep he h.2⟩
  | [], _ :: _, h => by simp [chkXs] at h
  | _ :: _, [], h => by simp [chkXs] at h
def Out (f : Fr) (B : List Pl) (I : IM) (K : V → List Blk → Prop) (r : Result Next) : Prop :=
  ∃ v w' x H' B' I', (r = .ok (.value v) w' ∨ (r = .ok .skip w' ∧ v = undef)) ∧ K x H' ∧ Sim f B' I' w' H' ∧ BLe B B' ∧ ILe I I' ∧ Rep B' I' x v
section
variable {P : Program} {f : Fr} {B : List Pl} {I : IM} {w : World} {H : List Blk} {K : V → List Blk → Prop} {a : Act} {env : Nat → V} {o : Oper}
theorem Out.quiet {r : Result Next} {v : Value} {x : V} (hr : r = .ok (.value v) w) (hk : K x H) (hs : Sim f B I w H) (hx : Rep B I x v) : Out f B I K r :=
  ⟨v, w, x, H, B, I, .inl hr, hk, hs, BLe.refl _, ILe.refl _, hx⟩
theorem run_v (s : Sem Value) : ((do pure (.value (← s)) : Sem Next)).run P w = (s.run P w).andThen fun v w' => .ok (.value v) w' := by simp [Sem.run_bind]
theorem s_mov {x : Operand} {y : SX} (ho : o.op = .move x ∨ o.op = .assign x) (hc : chkX a.tmps.size x y = true) (he : REnv B I env a.tmps) (hs : Sim f B I w H) (hk : K (evX env y) H) :
    Out f B I K ((execOp a.eval o).run P w) := by
  refine Out.quiet (v := a.eval x) ?_ hk hs (chkX_rep hc he)
  rcases ho with ho | ho <;> simp [execOp, ho]
theorem s_pick {c x y : Operand} {c' x' y' : SX} (ho : o.op = .pick c x y) (hc : chkX a.tmps.size c c' = true) (h1 : chkX a.tmps.size x x' = true) (h2 : chkX a.tmps.size y y' = true)
    (he : REnv B I env a.tmps) (hs : Sim f B I w H) (hk : exOp P (.pick c' x' y') env H K) : Out f B I K ((execOp a.eval o).run P w) := by
  have hr := chkX_rep hc he
  simp only [exOp] at hk
  split at hk
  · rename_i b e
    rw [e] at hr
    simp only [Rep] at hr
    cases b with
    | true => exact Out.quiet (v := a.eval x) (by simp [execOp, ho, hr, asBool]) (hk.1 rfl) hs (chkX_rep h1 he)
    | false => exact Out.quiet (v := a.eval y) (by simp [execOp, ho, hr, asBool]) (hk.2 rfl) hs (chkX_rep h2 he)
  · exact hk.elim
theorem cells_rep {x : V} {v : Value} (h : Rep B I x v) (hx : x.isAny = false) : RepL B I (cellsV x) v.cells.toList := by
  cases x with
  | any => cases hx
  | agg cs =>
    simp only [Rep] at h
    obtain ⟨vs, rfl, h⟩ := h
    simpa [cellsV, Value.cells] using h
  | _ =>
    simp only [cellsV, RepL]
    have h' := h
    simp only [Rep] at h
    first
      | (subst h; exact ⟨_, _, rfl, h', rfl⟩)
      | (obtain ⟨rfl, _⟩ := h; exact ⟨_, _, rfl, h', rfl⟩)
      | (obtain ⟨_, _, rfl⟩ := h; exact ⟨_, _, rfl, h', rfl⟩)
      | (obtain ⟨_, rfl, _⟩ := h; exact ⟨_, _, rfl, h', rfl⟩)
      | (obtain ⟨_, _, rfl, _⟩ := h; exact ⟨_, _, rfl, h', rfl⟩)
      | (obtain ⟨_, _, _, rfl, _⟩ := h; exact ⟨_, _, rfl, h', rfl⟩)
      | (obtain ⟨_, _, _, _, rfl, _⟩ := h; exact ⟨_, _, rfl, h', rfl⟩)
theorem cellsG_of_repL {cs : List V} {l : List Value} {g : Nat → Option Value} {o : Nat} (h : RepL B I cs l) (hg : ∀ (j : Nat) v, l[j]? = some v → g (o + j) = some v) : CellsG B I cs g o := by
  rw [cellsG_iff]
  intro j c hj
  obtain ⟨v, h1, h2⟩ := h.get hj
  exact ⟨v, hg j v h1, h2⟩
theorem repL_of_cellsG {g : Nat → Option Value} : ∀ {cs : List V} {o : Nat}, CellsG B I cs g o → ∃ l : List Value, RepL B I cs l ∧ ∀ (j : Nat) v, l[j]? = some v → g (o + j) = some v := by
  intro cs
  induction cs with
  | nil => intro o _; exact ⟨[], by simp [RepL], by simp⟩
  | cons c cs ih =>
    intro o h
    simp only [CellsG] at h
    obtain ⟨⟨v, h1, h2⟩, h3⟩ := h
    obtain ⟨l, h4, h5⟩ := ih h3
    refine ⟨v :: l, by simp only [RepL]; exact ⟨v, l, rfl, h2, h4⟩, fun j u hj => ?_⟩
    cases j with
    | zero => simp at hj; subst hj; exact h1
    | succ j => have := h5 j u (by simpa using hj); rwa [show o + 1 + j = o + (j + 1) by omega] at this
theorem one_elem {x : V} {v : Value} (h : Rep B I x v) (hx : x.isAny = false) : ElemsG B I [x] (fun o => v.cells[o]?) (cellsV x).length 0 := by
  rw [elemsG_cons]
  refine ⟨rfl, cellsG_of_repL (cells_rep h hx) (fun j u hj => ?_), by simp [ElemsG]⟩
  simpa using hj
theorem rel_notAny {v : Value} {z : V} (h : relVal v z = true) : z.isAny = false := by
  cases z <;> first | rfl | (unfold relVal at h; split at h <;> simp_all [relVal0])
theorem run_newVar (t : TypeId) (v : Value) : (newVar t v).run P w = .ok ⟨w.heap.size, 0, none⟩ (w.alloc (.cells v.cells t)) := by
  simp [newVar, newRow]
theorem run_zero {t : TypeId} {z : Value} (h : zeroOf P t = some z) : (zeroValue t).run P w = .ok z w := by
  unfold zeroOf at h
  cases hi : P.info? t with
  | none => rw [hi] at h; cases h
  | some i =>
    rw [hi] at h
    have h' : i.zero = some z := h
    simp [zeroValue, typeInfo, hi, h']
theorem s_newvar {x : V} {v : Value} (t : TypeId) (h : Rep B I x v) (hx : x.isAny = false) (hs : Sim f B I w H) (hk : K (.ptr H.length 0 0) (H ++ [.row [x]]))
    (r : Result Next) (hr : r = .ok (.value (.pointer (some ⟨w.heap.size, 0, none⟩))) (w.alloc (.cells v.cells t))) : Out f B I K r := by
  have hlen := (cells_rep h hx).length
  refine ⟨_, _, _, _, _, _, .inl hr, hk, hs.alloc v.cells t [x] (cellsV x).length (by simp at hlen ⊢; omega) (one_elem h hx), BLe.append _ _, ILe.refl _, ?_⟩
  simp only [Rep]
  exact ⟨_, by rw [← hs.len, getElem?_append_one, if_pos rfl], by simp⟩
theorem s_alloc {t : TypeId} {z : V} (ho : o.op = .alloc t) (hc : chkOp P a.tmps.size (.alloc t) o.type (.alloc z) = true) (hs : Sim f B I w H)
    (hk : exOp P (.alloc z) env H K) : Out f B I K ((execOp a.eval o).run P w) := by
  simp only [chkOp] at hc
  split at hc
  · rename_i v hz
    refine s_newvar t (rel_rep hc) (rel_notAny hc) hs hk _ ?_
    simp [execOp, ho, Instr.alloc, run_zero hz, run_newVar]
  · cases hc
theorem jalloc_run {t : TypeId} (ho : o.op = .alloc t) {v : Value} (hz : zeroOf P t = some v) : (execOp a.eval o).run P w = .ok (.value (.pointer (some ⟨w.heap.size, 0, none⟩))) (w.alloc (.cells v.cells t)) := by
  simp [execOp, ho, Instr.alloc, run_zero hz, run_newVar]
theorem s_jalloc {t : TypeId} (ho : o.op = .alloc t) (hc : chkOp P a.tmps.size (.alloc t) o.type .jalloc = true) (hs : Sim f B I w H)
    (hk : exOp P .jalloc env H K) : Out f B I K ((execOp a.eval o).run P w) := by
  simp only [chkOp, Option.isSome_iff_exists] at hc
  obtain ⟨v, hz⟩ := hc
  exact ⟨_, _, _, _, _, _, .inl (jalloc_run ho hz), hk, hs.junk _, BLe.refl _, ILe.refl _, trivial⟩
theorem s_box {t : TypeId} {x : Operand} {y : SX} (ho : o.op = .box t x) (hc : chkX a.tmps.size x y = true) (he : REnv B I env a.tmps) (hs : Sim f B I w H)
    (hk : exOp P (.box y) env H K) : Out f B I K ((execOp a.eval o).run P w) := by
  simp only [exOp] at hk
  refine s_newvar t (chkX_rep hc he) hk.1 hs hk.2 _ ?_
  simp [execOp, ho, Instr.box, run_newVar]
theorem row_at (hs : Sim f B I w H) {id i c n : Nat} {es : List V} {p : Pl} (hp : B[id]? = some p) (hH : H[id]? = some (.row es)) (hi : i < es.length) (hn : c + n ≤ (cellsV (es.getD i .any)).length) :
    ∃ carr t, w.heap[p.blk]? = some (.cells carr t (0, 0)) ∧ p.base + i * p.esz + c + n ≤ carr.size ∧ carr.size = p.size ∧ (cellsV (es.getD i .any)).length = p.esz ∧
      ∀ (j : Nat) x, (cellsV (es.getD i .any))[j]? = some x → ∃ v, carr[p.base + i * p.esz + j]? = some v ∧ Rep B I x v := by
  obtain ⟨carr, t, h1, h2, h3, h4⟩ := hs.ok id p _ hp hH
  rw [elemsG_iff] at h4
  have hg : es[i]? = some (es.getD i .any) := by simp [hi]
  obtain ⟨h5, h6⟩ := h4 i _ hg
  refine ⟨carr, t, h1, ?_, h2, h5, h6⟩
  have : i * p.esz + p.esz ≤ es.length * p.esz := by rw [← Nat.succ_mul]; exact Nat.mul_le_mul_right _ hi
  omega
theorem cell_of_heap {g : Nat} {carr : Array Value} {t : TypeId} {fr : Nat × Nat} (h : w.heap[g]? = some (.cells carr t fr)) (j : Nat) : w.cell? ⟨g, j, none⟩ = carr[j]? := by
  simp [World.cell?, h]
theorem addr_add (g o j : Nat) : (⟨g, o, none⟩ : Addr).add j = ⟨g, o + j, none⟩ := by
  unfold Addr.add; split <;> simp_all
theorem run_loadVar_any {t : TypeId} {g : Bool} {m : Nat} (hg : aggOf P t = some g) (hm : szOf P t = some m) (b o : Nat) (l : List Value) (hl : l.length = m) (h1 : g = true ∨ m = 1)
    (hc : ∀ (j : Nat) v, l[j]? = some v → w.cell? ⟨b, o + j, none⟩ = some v) :
    (loadVar t ⟨b, o, none⟩).run P w = .ok (if g then .agg l.toArray else l.headD undef) w := by
  have hsz : (sizeOf t).run P w = .ok m w := by
    unfold szOf at hm
    cases hi : P.info? t with
    | none => rw [hi] at hm; cases hm
    | some i => rw [hi] at hm; simp [sizeOf, typeInfo, hi]; simpa using hm
  have hag : (isAgg t).run P w = .ok g w := by
    unfold aggOf at hg
    cases hu : P.underlying t with
    | none => rw [hu] at hg; cases hg
    | some d =>
      rw [hu] at hg
      simp only [isAgg, Sem.run_bind, run_underlying hu, Result.andThen_ok]
      cases d <;> simp_all
  cases g with
  | true =>
    simp only [loadVar, Sem.run_bind, hag, hsz, Result.andThen_ok, if_true]
    rw [← hl, run_loadCells_list w ⟨b, o, none⟩ l (fun j v hj => by rw [addr_add]; exact hc j v hj)]
    simp
  | false =>
    have hm1 : m = 1 := by simpa using h1
    subst hm1
    match l, hl with
    | [v], _ =>
      simp only [loadVar, Sem.run_bind, hag, Result.andThen_ok]
      have := hc 0 v (by simp)
      simp at this
      simp [this]
theorem rd_rep {cs : List V} {l : List Value} {g : Bool} {m : Nat} (h : RepL B I cs l) (hm : m ≤ cs.length) (h1 : g = true ∨ m = 1) : Rep B I (rd g m cs) (if g then .agg (l.take m).toArray else (l.take m).headD undef) := by
  unfold rd
  cases g with
  | true => simp only [if_true, Rep]; exact ⟨_, rfl, by simpa using h.take m⟩
  | false =>
    have hm1 : m = 1 := by simpa using h1
    subst hm1
    cases cs with
    | nil => simp at hm
    | cons c cs =>
      simp only [RepL] at h
      obtain ⟨v, vs, rfl, h2, _⟩ := h
      simpa using h2
theorem s_loadq {t : TypeId} {x : Operand} {g : Bool} {m : Nat} {y : SX} (ho : o.op = .load t x) (hc : chkOp P a.tmps.size (.load t x) o.type (.load g m y) = true) (he : REnv B I env a.tmps) (hs : Sim f B I w H)
    (hk : exOp P (.load g m y) env H K) : ∃ v x, (execOp a.eval o).run P w = .ok (.value v) w ∧ K x H ∧ Rep B I x v := by
  simp only [chkOp, Bool.and_eq_true, beq_iff_eq, Bool.or_eq_true] at hc
  obtain ⟨⟨⟨hg, hm⟩, h1⟩, hx⟩ := hc
  have hr := chkX_rep hx he
  simp only [exOp] at hk
  split at hk
  · rename_i id i c e
    rw [e] at hr
    simp only [Rep] at hr
    obtain ⟨p, hp, hv⟩ := hr
    split at hk
    · rename_i es hH
      obtain ⟨⟨hi, hn⟩, hk⟩ := hk
      obtain ⟨carr, tt, hh, hsz, _, hl, hcell⟩ := row_at hs hp hH hi hn
      obtain ⟨l, hl1, hl2⟩ := repL_of_cellsG (B := B) (I := I) (g := fun o => carr[o]?) (cs := cellsV (es.getD i .any)) (o := p.base + i * p.esz) (by rw [cellsG_iff]; exact hcell)
      have hll := hl1.length
      have hrun := run_loadVar_any (P := P) (w := w) hg hm p.blk (p.base + i * p.esz + c) ((l.drop c).take m) (by rw [List.length_take, List.length_drop]; omega) h1 (fun j v hj => by
        rw [cell_of_heap hh]
        rw [List.getElem?_take] at hj
        split at hj
        · rw [List.getElem?_drop] at hj
          have := hl2 _ _ hj
          rwa [show p.base + i * p.esz + c + j = p.base + i * p.esz + (c + j) by omega]
        · cases hj)
      refine ⟨_, _, ?_, hk, rd_rep (hl1.drop c) (by rw [List.length_drop]; omega) h1⟩
      simp [execOp, ho, Instr.loadAt, hv, Instr.sureAddr, hrun]
    · exact hk.elim
  · rename_i cells e
    rw [e] at hr
    simp only [Rep] at hr
    obtain ⟨b, o', hv, hcell⟩ := hr
    obtain ⟨hn, hk⟩ := hk
    obtain ⟨l, hl1, hl2⟩ := repL_of_cellsG (B := B) (I := I) hcell
    have hll := hl1.length
    have hrun := run_loadVar_any (P := P) (w := w) hg hm b o' (l.take m) (by rw [List.length_take]; omega) h1 (fun j v hj => by
      rw [List.getElem?_take] at hj
      split at hj
      · have := hl2 _ _ hj
        unfold icell at this
        cases hI : I b with
        | none => rw [hI] at this; cases this
        | some ob =>
          rw [hI] at this
          cases ob with
          | cells cc tt fr => rw [cell_of_heap (hs.imm b _ hI)]; exact this
          | _ => cases this
      · cases hj)
    refine ⟨_, _, ?_, hk, rd_rep hl1 hn h1⟩
    simp [execOp, ho, Instr.loadAt, hv, Instr.sureAddr, hrun]
  · exact hk.elim
theorem s_load {t : TypeId} {x : Operand} {g : Bool} {m : Nat} {y : SX} (ho : o.op = .load t x) (hc : chkOp P a.tmps.size (.load t x) o.type (.load g m y) = true) (he : REnv B I env a.tmps) (hs : Sim f B I w H)
    (hk : exOp P (.load g m y) env H K) : Out f B I K ((execOp a.eval o).run P w) := by
  obtain ⟨v, z, h1, h2, h3⟩ := s_loadq ho hc he hs hk
  exact Out.quiet h1 h2 hs h3
end
section
variable {P : Program} {f : Fr} {B : List Pl} {I : IM} {w : World} {H : List Blk} {K : V → List Blk → Prop} {a : Act} {env : Nat → V} {o : Oper}
theorem get_splice {α : Type} (l vs : List α) (o k : Nat) (h : o + vs.length ≤ l.length) :
    (l.take o ++ vs ++ l.drop (o + vs.length))[k]? = if k < o then l[k]? else if k < o + vs.length then vs[k - o]? else l[k]? := by
  by_cases h1 : k < o
  · rw [if_pos h1, List.append_assoc, List.getElem?_append_left (by rw [List.length_take]; omega), List.getElem?_take, if_pos h1]
  · rw [if_neg h1]
    by_cases h2 : k < o + vs.length
    · rw [if_pos h2, List.append_assoc, List.getElem?_append_right (by rw [List.length_take]; omega), List.getElem?_append_left (by rw [List.length_take]; omega), List.length_take]
      congr 1; omega
    · rw [if_neg h2, List.getElem?_append_right (by rw [List.length_append, List.length_take]; omega), List.getElem?_drop, List.length_append, List.length_take]
      congr 1; omega
theorem length_splice {α : Type} (l vs : List α) (o : Nat) (h : o + vs.length ≤ l.length) : (l.take o ++ vs ++ l.drop (o + vs.length)).length = l.length := by
  rw [List.length_append, List.length_append, List.length_take, List.length_drop]; omega
theorem one_rep {x : V} {v : Value} (h : Rep B I x v) (hx : x.one = true) : v.oneCell' = true := by
  cases x <;> simp_all [V.one, Rep] <;> first
    | (subst h; rfl)
    | (obtain ⟨rfl, _⟩ := h; rfl)
    | (obtain ⟨_, _, rfl⟩ := h; rfl)
    | (obtain ⟨_, rfl, _⟩ := h; rfl)
    | (obtain ⟨_, _, rfl, _⟩ := h; rfl)
    | (obtain ⟨_, _, _, rfl, _⟩ := h; rfl)
    | (obtain ⟨_, _, _, _, rfl, _⟩ := h; rfl)
theorem one_notAny {x : V} (h : (cellsV x).all V.one = true) : x.isAny = false := by
  cases x <;> first | rfl | (simp [cellsV, V.one] at h)
theorem s_store {t : TypeId} {x z : Operand} {m : Nat} {y u : SX} (ho : o.op = .store t x z) (hc : chkOp P a.tmps.size (.store t x z) o.type (.store m y u) = true) (he : REnv B I env a.tmps) (hs : Sim f B I w H)
    (hk : exOp P (.store m y u) env H K) : Out f B I K ((execOp a.eval o).run P w) := by
  simp only [chkOp, Bool.and_eq_true, beq_iff_eq] at hc
  obtain ⟨⟨hm, hx⟩, hz⟩ := hc
  have hr := chkX_rep hx he
  have hv := chkX_rep hz he
  simp only [exOp] at hk
  split at hk
  · rename_i id i c e
    rw [e] at hr
    simp only [Rep] at hr
    obtain ⟨p, hp, hptr⟩ := hr
    split at hk
    · rename_i es hH
      obtain ⟨⟨hi, hn, hl, hone, hcr⟩, hk⟩ := hk
      obtain ⟨carr, tt, hh, hsz, hpsz, hesz, hcell⟩ := row_at hs hp hH hi hn
      have hcv := cells_rep hv (one_notAny hone)
      have hlv := hcv.length
      generalize hE : es.getD i .any = E at *
      generalize hX : evX env u = X at *
      generalize hVV : a.eval z = VV at *
      have hsize : (sizeOf t).run P w = .ok m w := by
        unfold szOf at hm
        cases hi : P.info? t with
        | none => rw [hi] at hm; cases hm
        | some i => rw [hi] at hm; simp [sizeOf, typeInfo, hi]; simpa using hm
      have hones : ∀ v ∈ VV.cells.toList, v.oneCell' = true := by
        intro v hvm
        obtain ⟨j, hj⟩ := List.getElem?_of_mem hvm
        have hjl := (List.getElem?_eq_some_iff.1 hj).1
        have hc' : (cellsV X)[j]? = some ((cellsV X)[j]'(by omega)) := List.getElem?_eq_getElem _
        obtain ⟨v', h1, h2⟩ := hcv.get hc'
        rw [hj] at h1; cases h1
        exact one_rep h2 (List.all_eq_true.1 hone _ (List.getElem_mem _))
      have hstore := run_storeCells_at (P := P) p.blk (p.base + i * p.esz + c) tt VV.cells.toList 0 carr w hh (by omega) hones
      have hfit : p.base + i * p.esz + c + VV.cells.toList.length ≤ carr.toList.length := by simp at hlv ⊢; omega
      have hfit2 : c + (cellsV X).length ≤ (cellsV E).length := by omega
      have hrun : (execOp a.eval o).run P w = .ok .skip (w.setRow p.blk (carr.toList.take (p.base + i * p.esz + c) ++ VV.cells.toList ++ carr.toList.drop (p.base + i * p.esz + c + VV.cells.toList.length)).toArray) := by
        have h0 : VV.cells.size = m := by simp at hlv; omega
        simp only [Nat.add_zero] at hstore
        simp [execOp, ho, Instr.storeAt, hptr, Instr.sureAddr, storeVar, hsize, hVV, h0, hstore, -List.append_assoc]
      obtain ⟨_, _, h1, h2, h3, h4⟩ := hs.ok id p _ hp hH
      rw [hh] at h1; cases h1
      refine ⟨undef, _, _, _, _, _, .inr ⟨hrun, rfl⟩, hk, hs.rewrite hp hH hh ?_ (by simpa using h3) ?_, BLe.refl _, ILe.refl _, by simp [Rep]⟩
      · rw [List.size_toArray, length_splice _ _ _ hfit]; simp
      · rw [elemsG_iff] at h4 ⊢
        intro k x hx
        rw [lset_get] at hx
        have hget : ∀ q, ((carr.toList.take (p.base + i * p.esz + c) ++ VV.cells.toList ++ carr.toList.drop (p.base + i * p.esz + c + VV.cells.toList.length)).toArray)[q]? = if q < p.base + i * p.esz + c then carr[q]? else if q < p.base + i * p.esz + c + VV.cells.toList.length then VV.cells.toList[q - (p.base + i * p.esz + c)]? else carr[q]? := by
          intro q
          rw [List.getElem?_toArray, get_splice _ _ _ _ hfit]; simp
        split at hx
        · rename_i hik
          subst hik
          first | (rw [if_pos hi] at hx; cases hx) | cases hx
          rw [hcr]
          refine ⟨by rw [← hesz]; exact length_splice _ _ _ hfit2, fun j y hj => ?_⟩
          unfold splice at hj
          rw [get_splice _ _ _ _ hfit2] at hj
          rw [hget]
          split at hj
          · rw [if_pos (by omega)]; exact hcell j y hj
          · split at hj
            · rw [if_neg (by omega), if_pos (by omega)]
              obtain ⟨v', h5, h6⟩ := hcv.get hj
              exact ⟨v', by rw [← h5]; congr 1; omega, h6⟩
            · rw [if_neg (by omega), if_neg (by omega)]; exact hcell j y hj
        · rename_i hik
          obtain ⟨h5, h6⟩ := h4 k x hx
          refine ⟨h5, fun j y hj => ?_⟩
          have hjl := (List.getElem?_eq_some_iff.1 hj).1
          rw [hget]
          have hne : p.base + k * p.esz + j < p.base + i * p.esz + c ∨ ¬ p.base + k * p.esz + j < p.base + i * p.esz + c + VV.cells.toList.length := by
            rcases Nat.lt_or_gt_of_ne hik with hlt | hlt
            · right
              have : i * p.esz + p.esz ≤ k * p.esz := by rw [← Nat.succ_mul]; exact Nat.mul_le_mul_right _ hlt
              omega
            · left
              have : k * p.esz + p.esz ≤ i * p.esz := by rw [← Nat.succ_mul]; exact Nat.mul_le_mul_right _ hlt
              omega
          rcases hne with hne | hne
          · rw [if_pos hne]; exact h6 j y hj
          · rw [if_neg (by omega), if_neg hne]; exact h6 j y hj
    · exact hk.elim
  · exact hk.elim
end
section
variable {P : Program} {f : Fr} {B : List Pl} {I : IM} {w : World} {H : List Blk} {K : V → List Blk → Prop} {a : Act} {env : Nat → V} {o : Oper}
theorem s_nilc {x : Operand} {y : SX} (ho : o.op = .nilCheck x) (hc : chkX a.tmps.size x y = true) (he : REnv B I env a.tmps) (hs : Sim f B I w H)
    (hk : exOp P (.nilc y) env H K) : Out f B I K ((execOp a.eval o).run P w) := by
  have hr := chkX_rep hc he
  simp only [exOp] at hk
  split at hk
  · rename_i id i c e
    rw [e] at hr
    refine Out.quiet (v := a.eval x) ?_ hk hs hr
    simp only [Rep] at hr
    obtain ⟨p, hp, hv⟩ := hr
    simp [execOp, ho, hv]
  · rename_i cs e
    rw [e] at hr
    refine Out.quiet (v := a.eval x) ?_ hk hs hr
    simp only [Rep] at hr
    obtain ⟨b, o', hv, _⟩ := hr
    simp [execOp, ho, hv]
  · rename_i g q r e
    rw [e] at hr
    refine Out.quiet (v := a.eval x) ?_ hk hs hr
    simp only [Rep] at hr
    obtain ⟨b, o', hv, _⟩ := hr
    simp [execOp, ho, hv]
  · exact hk.elim
theorem toList_eq_iff (x y : ByteArray) : (x.toList == y.toList) = decide (x = y) := by
  have h : x.toList = y.toList ↔ x = y := by
    constructor
    · intro h
      rw [ByteArray.toList_eq, ByteArray.toList_eq] at h
      cases x; cases y
      congr 1
      exact Array.toList_inj.1 h
    · rintro rfl; rfl
  rw [Bool.eq_iff_iff]; simp [h]
theorem s_bin {t u : TypeId} {op : BinOp} {x y : Operand} {x' y' : SX} (ho : o.op = .binOp op t x y u) (hx : chkX a.tmps.size x x' = true) (hy : chkX a.tmps.size y y' = true) (he : REnv B I env a.tmps) (hs : Sim f B I w H)
    (hk : exOp P (.bin op x' y') env H K) : Out f B I K ((execOp a.eval o).run P w) := by
  have hr := chkX_rep hx he
  have hr' := chkX_rep hy he
  simp only [exOp] at hk
  split at hk
  · rename_i k n k' n' e e'
    rw [e] at hr
    rw [e'] at hr'
    simp only [Rep] at hr hr'
    obtain ⟨rfl, hk⟩ := hk
    cases op <;> simp only at hk <;> first
      | exact hk.elim
      | (refine Out.quiet ?_ hk hs (by simp only [Rep]; rfl); simp [execOp, ho, hr, hr', eqGuard, binOp, Op.intArith, Op.intCmp, Op.intDiv, hk]; done)
      | (refine Out.quiet ?_ hk hs (by simp only [Rep]; rfl); simp [execOp, ho, hr, hr', eqGuard, binOp, Op.intArith, Op.intCmp, Op.intDiv, hk, bne, BEq.beq, instBEqOfDecidableEq]; done)
      | (refine Out.quiet ?_ hk.2 hs (by simp only [Rep]; rfl); simp [execOp, ho, hr, hr', eqGuard, binOp, Op.intArith, Op.intCmp, Op.intDiv, hk.1]; done)
  · rename_i s s' e e'
    rw [e] at hr
    rw [e'] at hr'
    simp only [Rep] at hr hr'
    obtain ⟨hr, hs1⟩ := hr
    obtain ⟨hr', hs2⟩ := hr'
    cases op <;> simp only at hk <;> first
      | exact hk.elim
      | (refine Out.quiet ?_ hk hs (by simp only [Rep]; rfl); simp [execOp, ho, hr, hr', eqGuard, binOp, Op.stringOp, toList_eq_iff]; done)
      | (refine Out.quiet ?_ hk hs (by simp only [Rep]; rfl); simp [execOp, ho, hr, hr', eqGuard, binOp, Op.stringOp, toList_eq_iff, ByteArray.toList_eq]; done)
      | (refine Out.quiet (v := .string (s ++ s')) ?_ hk.2 hs (by have := hk.1; simp [Rep, maxLen]; omega)
         have h0 := hk.1
         have : ¬ (9223372036854775807 : Int) < (s.size : Int) + (s'.size : Int) := by omega
         simp [execOp, ho, hr, hr', eqGuard, binOp, Op.stringOp, IntKind.max, IntKind.signed, IntKind.bits, this])
  · exact hk.elim
theorem s_beq {t u : TypeId} {neg : Bool} {x y : Operand} {x' y' : SX} (ho : o.op = .binOp (if neg then .neq else .eql) t x y u) (hx : chkX a.tmps.size x x' = true) (hy : chkX a.tmps.size y y' = true)
    (ht : P.underlying t = some .bool) (he : REnv B I env a.tmps) (hs : Sim f B I w H)
    (hk : exOp P (.beq neg x' y') env H K) : Out f B I K ((execOp a.eval o).run P w) := by
  have hr := chkX_rep hx he
  have hr' := chkX_rep hy he
  simp only [exOp] at hk
  split at hk
  · rename_i b c e e'
    rw [e] at hr
    rw [e'] at hr'
    simp only [Rep] at hr hr'
    cases neg <;> simp only [if_true, if_false, Bool.false_eq_true] at hk ho <;>
    · refine Out.quiet ?_ hk hs (by simp only [Rep]; rfl)
      simp only [execOp, ho, hr, hr', eqGuard, Sem.run_bind]
      first
        | (simp [run_eql_bool w t b c ht]; done)
        | simp [run_neq_bool w t b c ht, bne]
  · exact hk.elim
theorem run_equalIn_sn (d : Nat) (t e : TypeId) (a : Option Addr) (l c : Nat) (h : P.underlying t = some (.slice e)) : (Op.equalIn (d + 1) t (.slice a l c) (.slice none 0 0)).run P w = .ok a.isNone w := by
  cases a <;> simp [Op.equalIn, run_underlying h]
theorem run_equal_sn (t e : TypeId) (a : Option Addr) (l c : Nat) (h : P.underlying t = some (.slice e)) : (Op.equal t (.slice a l c) (.slice none 0 0)).run P w = .ok a.isNone w := run_equalIn_sn 9999 t e a l c h
theorem run_eql_sn (t e : TypeId) (a : Option Addr) (l c : Nat) (h : P.underlying t = some (.slice e)) : (binOp .eql t (.slice a l c) (.slice none 0 0)).run P w = .ok (.bool a.isNone) w := by
  simp only [binOp]; simp [run_equal_sn t e a l c h]
theorem run_neq_sn (t e : TypeId) (a : Option Addr) (l c : Nat) (h : P.underlying t = some (.slice e)) : (binOp .neq t (.slice a l c) (.slice none 0 0)).run P w = .ok (.bool (!a.isNone)) w := by
  simp only [binOp]; simp [run_equal_sn t e a l c h]
theorem s_snil {t u : TypeId} {op : BinOp} {neg : Bool} {x y : Operand} {x' : SX} (ho : o.op = .binOp op t x y u) (hc : chkOp P a.tmps.size (.binOp op t x y u) o.type (.snil neg x') = true) (he : REnv B I env a.tmps) (hs : Sim f B I w H)
    (hk : exOp P (.snil neg x') env H K) : Out f B I K ((execOp a.eval o).run P w) := by
  simp only [chkOp, Bool.and_eq_true, decide_eq_true_eq] at hc
  obtain ⟨⟨⟨hop, ht⟩, hx⟩, hy⟩ := hc
  obtain ⟨e, he1⟩ := Option.isSome_iff_exists.1 ht
  have ht := (show P.underlying t = some (.slice e) by
    unfold elT at he1
    split at he1
    · rename_i h; cases he1; exact h
    · cases he1)
  have hy : y = .const (.slice none 0 0) := by
    split at hy
    · rfl
    · cases hy
  subst hy
  have hr := chkX_rep hx he
  have run : ∀ (ad : Option Addr) (l c : Nat) (b : Bool), a.eval x = .slice ad l c → ad.isNone = b → K (.bool (if neg then !b else b)) H → Out f B I K ((execOp a.eval o).run P w) := by
    intro ad l c b hv hb hk
    refine Out.quiet (v := .bool (if neg then !b else b)) ?_ hk hs (by simp [Rep])
    subst hop
    have h2 : a.eval (.const (.slice none 0 0)) = .slice none 0 0 := rfl
    cases neg with
    | true =>
      have := run_neq_sn (P := P) (w := w) t e ad l c ht
      simp only [execOp, ho, hv, h2, eqGuard, Sem.run_bind, if_true, this, hb]
      simp [Sem.run_bind, this, hb]
    | false =>
      have := run_eql_sn (P := P) (w := w) t e ad l c ht
      simp only [execOp, ho, hv, h2, eqGuard, Sem.run_bind, this, hb, Bool.false_eq_true, if_false]
      simp [Sem.run_bind, this, hb]
  simp only [exOp] at hk
  split at hk
  · rename_i e1
    rw [e1] at hr; simp only [Rep] at hr
    refine run none 0 0 true hr rfl ?_
    cases neg <;> exact hk
  · rename_i e1
    rw [e1] at hr; simp only [Rep] at hr
    obtain ⟨ad, hr⟩ := hr
    exact run ad 0 0 _ hr rfl (hk _)
  · rename_i e1
    rw [e1] at hr; simp only [Rep] at hr
    obtain ⟨ad, cap, hr, _⟩ := hr
    exact run ad _ _ _ hr rfl (hk _)
  · rename_i e1
    rw [e1] at hr; simp only [Rep] at hr
    obtain ⟨ad, cap, hr, _, _, h4⟩ := hr
    rcases h4 with h4 | ⟨b, o', sz, h5, _⟩
    · cases h4
    · refine run ad _ _ false hr (by rw [h5]; rfl) ?_
      cases neg <;> exact hk
  · rename_i e1
    rw [e1] at hr; simp only [Rep] at hr
    obtain ⟨p, ad, cap, _, hr, h4, h5, _⟩ := hr
    refine run ad _ _ false hr (by rw [h4 (by omega)]; rfl) ?_
    cases neg <;> exact hk
  · rename_i e1
    rw [e1] at hr; simp only [Rep] at hr
    obtain ⟨p, ad, cap, _, hr, h4, h5, _⟩ := hr
    exact run ad _ _ _ hr rfl (hk _)
  · exact hk.elim
theorem s_un {t : TypeId} {op : UnOp} {x : Operand} {x' : SX} (ho : o.op = .unOp op t x) (hx : chkX a.tmps.size x x' = true) (he : REnv B I env a.tmps) (hs : Sim f B I w H)
    (hk : exOp P (.un op x') env H K) : Out f B I K ((execOp a.eval o).run P w) := by
  have hr := chkX_rep hx he
  simp only [exOp] at hk
  split at hk
  · rename_i e
    rw [e] at hr
    simp only [Rep] at hr
    refine Out.quiet ?_ hk hs (by simp only [Rep]; rfl)
    simp [execOp, ho, hr, Op.unary]
  · rename_i e
    rw [e] at hr
    simp only [Rep] at hr
    refine Out.quiet ?_ hk hs (by simp only [Rep]; rfl)
    simp [execOp, ho, hr, Op.unary, Op.intArith]
  · exact hk.elim
theorem s_conv {s d : TypeId} {k : IntKind} {x : Operand} {x' : SX} (ho : o.op = .convert s d x) (hsrc : (P.underlying s).isSome = true) (hd : isIntT P d = some k) (hx : chkX a.tmps.size x x' = true) (he : REnv B I env a.tmps) (hs : Sim f B I w H)
    (hk : exOp P (.conv k x') env H K) : Out f B I K ((execOp a.eval o).run P w) := by
  have hr := chkX_rep hx he
  simp only [exOp] at hk
  obtain ⟨ds, hds⟩ := Option.isSome_iff_exists.1 hsrc
  have hd' : P.underlying d = some (.int k) := by
    unfold isIntT at hd
    split at hd
    · rename_i e; rw [e]; cases hd; rfl
    · cases hd
  split at hk
  · rename_i e
    rw [e] at hr
    simp only [Rep] at hr
    refine Out.quiet ?_ hk hs (by simp only [Rep]; rfl)
    simp [execOp, ho, hr, convert, run_underlying hds, run_underlying hd', Conv.intToInt]
  · exact hk.elim
theorem s_convs {s d : TypeId} {x : Operand} {x' : SX} (ho : o.op = .convert s d x) (hsrc : (P.underlying s).isSome = true) (hd' : P.underlying d = some .string) (hx : chkX a.tmps.size x x' = true) (he : REnv B I env a.tmps) (hs : Sim f B I w H)
    (hk : exOp P (.convs x') env H K) : Out f B I K ((execOp a.eval o).run P w) := by
  have hr := chkX_rep hx he
  simp only [exOp] at hk
  obtain ⟨ds, hds⟩ := Option.isSome_iff_exists.1 hsrc
  split at hk
  · rename_i e
    rw [e] at hr
    refine Out.quiet ?_ hk hs hr
    simp only [Rep] at hr
    cases ds <;> simp [execOp, ho, hr.1, convert, run_underlying hds, run_underlying hd']
  · exact hk.elim
theorem s_mkfn {g : FuncId} {fs cs : Array Operand} {fs' cs' : List SX} (ho : o.op = .makeFunc (.func g) fs cs) (h1 : chkXs a.tmps.size fs.toList fs' = true) (h2 : chkXs a.tmps.size cs.toList cs' = true) (he : REnv B I env a.tmps) (hs : Sim f B I w H)
    (hk : exOp P (.mkfn g fs' cs') env H K) : Out f B I K ((execOp a.eval o).run P w) := by
  simp only [exOp] at hk
  refine Out.quiet (v := .func (.func g) (fs.map a.eval) (cs.map a.eval)) ?_ hk hs ?_
  · simp [execOp, ho, Instr.makeFunc]
  · simp only [Rep]
    exact ⟨_, _, rfl, by simpa using chkXs_rep he h1, by simpa using chkXs_rep he h2⟩
theorem s_faddr {t : TypeId} {i off : Nat} {x : Operand} {x' : SX} (ho : o.op = .fieldAddr t x i) (hc : chkOp P a.tmps.size (.fieldAddr t x i) o.type (.faddr off x') = true) (he : REnv B I env a.tmps) (hs : Sim f B I w H)
    (hk : exOp P (.faddr off x') env H K) : Out f B I K ((execOp a.eval o).run P w) := by
  simp only [chkOp] at hc
  split at hc
  · rename_i fs ht
    split at hc
    · rename_i fd hfd
      simp only [Bool.and_eq_true, beq_iff_eq] at hc
      obtain ⟨⟨rfl, hsz⟩, hx⟩ := hc
      obtain ⟨s, hs0, hs1⟩ : ∃ s, (sizeOf fd.type).run P w = .ok s w ∧ s ≠ 0 := by
        split at hsz
        · rename_i s hq
          unfold szOf at hq
          cases hi : P.info? fd.type with
          | none => rw [hi] at hq; cases hq
          | some ii => rw [hi] at hq; exact ⟨s, by simp [sizeOf, typeInfo, hi]; simpa using hq, by simpa using hsz⟩
        · cases hsz
      have hfp : ∀ ad : Addr, (fieldPlace ad fd).run P w = .ok (ad.add fd.offset) w := fun ad => by simp [fieldPlace, hs0, hs1]
      have hr := chkX_rep hx he
      simp only [exOp] at hk
      split at hk
      · rename_i id j c e
        rw [e] at hr
        simp only [Rep] at hr
        obtain ⟨p, hp, hv⟩ := hr
        refine Out.quiet (v := .pointer (some ⟨p.blk, p.base + j * p.esz + (c + fd.offset), none⟩)) ?_ hk hs ?_
        · simp [execOp, ho, Instr.fieldAt, run_underlying ht, hfd, hv, Instr.sureAddr, hfp, addr_add]; omega
        · simp only [Rep]; exact ⟨p, hp, rfl⟩
      · rename_i cells e
        rw [e] at hr
        simp only [Rep] at hr
        obtain ⟨b, o', hv, hcell⟩ := hr
        refine Out.quiet (v := .pointer (some ⟨b, o' + fd.offset, none⟩)) ?_ hk hs ?_
        · simp [execOp, ho, Instr.fieldAt, run_underlying ht, hfd, hv, Instr.sureAddr, hfp, addr_add]
        · simp only [Rep]
          refine ⟨b, _, rfl, ?_⟩
          rw [cellsG_iff] at hcell ⊢
          intro j c hj
          rw [List.getElem?_drop] at hj
          obtain ⟨v, h1, h2⟩ := hcell _ c hj
          exact ⟨v, by rw [← h1]; congr 1; omega, h2⟩
      · exact hk.elim
    · cases hc
  · cases hc
theorem run_part {t : TypeId} {g : Bool} {m : Nat} (hg : aggOf P t = some g) (hm : szOf P t = some m) (h1 : g = true ∨ m = 1) (l : List Value) (off : Nat) (hl : off + m ≤ l.length) :
    (part t l.toArray off).run P w = .ok (if g then .agg ((l.drop off).take m).toArray else ((l.drop off).take m).headD undef) w := by
  have hsz : (sizeOf t).run P w = .ok m w := by
    unfold szOf at hm
    cases hi : P.info? t with
    | none => rw [hi] at hm; cases hm
    | some i => rw [hi] at hm; simp [sizeOf, typeInfo, hi]; simpa using hm
  have hag : (isAgg t).run P w = .ok g w := by
    unfold aggOf at hg
    cases hu : P.underlying t with
    | none => rw [hu] at hg; cases hg
    | some d =>
      rw [hu] at hg
      simp only [isAgg, Sem.run_bind, run_underlying hu, Result.andThen_ok]
      cases d <;> simp_all
  cases g with
  | true =>
    simp [part, hag, hsz]
  | false =>
    have hm1 : m = 1 := by simpa using h1
    subst hm1
    have hlt : off < l.length := by omega
    simp [part, hag, List.getElem?_eq_getElem hlt]
    rw [List.drop_eq_getElem_cons hlt]; rfl
end
section
variable {P : Program} {f : Fr} {B : List Pl} {I : IM} {w : World} {H : List Blk} {K : V → List Blk → Prop} {a : Act} {env : Nat → V} {o : Oper}
theorem s_field {t : TypeId} {i off m : Nat} {g : Bool} {x : Operand} {x' : SX} (ho : o.op = .field t x i) (hc : chkOp P a.tmps.size (.field t x i) o.type (.field g off m x') = true) (he : REnv B I env a.tmps) (hs : Sim f B I w H)
    (hk : exOp P (.field g off m x') env H K) : Out f B I K ((execOp a.eval o).run P w) := by
  simp only [chkOp] at hc
  split at hc
  · rename_i fs ht
    split at hc
    · rename_i fd hfd
      simp only [Bool.and_eq_true, beq_iff_eq, Bool.or_eq_true] at hc
      obtain ⟨⟨⟨⟨rfl, hm⟩, hg⟩, h1⟩, hx⟩ := hc
      have hr := chkX_rep hx he
      simp only [exOp] at hk
      split at hk
      · rename_i cs e
        rw [e] at hr
        simp only [Rep] at hr
        obtain ⟨vs, hv, hl⟩ := hr
        obtain ⟨hn, hk⟩ := hk
        have hll := hl.length
        have hrun := run_part (P := P) (w := w) hg hm h1 vs.toList fd.offset (by omega)
        refine Out.quiet ?_ hk hs (rd_rep (hl.drop fd.offset) (by rw [List.length_drop]; omega) h1)
        simp only [Array.toArray_toList] at hrun
        simp only [execOp, ho, Instr.field, Sem.run_bind, run_underlying ht, Result.andThen_ok, hfd, hv, asAgg, Sem.run_pure, hrun]
      · exact hk.elim
    · cases hc
  · cases hc
theorem s_extract {i : Nat} {x : Operand} {x' : SX} (ho : o.op = .extract x i) (hx : chkX a.tmps.size x x' = true) (he : REnv B I env a.tmps) (hs : Sim f B I w H)
    (hk : exOp P (.extract x' i) env H K) : Out f B I K ((execOp a.eval o).run P w) := by
  have hr := chkX_rep hx he
  simp only [exOp] at hk
  split at hk
  · rename_i vs e
    rw [e] at hr
    simp only [Rep] at hr
    obtain ⟨cs, hv, hl⟩ := hr
    obtain ⟨hi, hk⟩ := hk
    obtain ⟨v, h1, h2⟩ := hl.get (i := i) (c := vs.getD i .any) (by simp [hi])
    have h1' : cs[i]? = some v := by simpa using h1
    refine Out.quiet (v := v) ?_ hk hs h2
    simp [execOp, ho, Instr.extract, hv, h1']
  · exact hk.elim
theorem elT_eq {t e : TypeId} (h : elT P t = some e) : P.underlying t = some (.slice e) := by
  unfold elT at h
  split at h
  · rename_i q; rw [q]; cases h; rfl
  · cases h
theorem run_szOf {e : TypeId} {m : Nat} (hm : szOf P e = some m) : (sizeOf e).run P w = .ok m w := by
  unfold szOf at hm
  cases hi : P.info? e with
  | none => rw [hi] at hm; cases hm
  | some i => rw [hi] at hm; simp [sizeOf, typeInfo, hi]; simpa using hm
theorem s_iaddr {t : TypeId} {esz : Nat} {x i : Operand} {x' i' : SX} (ho : o.op = .indexAddr t x i) (hc : chkOp P a.tmps.size (.indexAddr t x i) o.type (.iaddr esz x' i') = true) (he : REnv B I env a.tmps) (hs : Sim f B I w H)
    (hk : exOp P (.iaddr esz x' i') env H K) : Out f B I K ((execOp a.eval o).run P w) := by
  simp only [chkOp] at hc
  split at hc
  · rename_i el hel
    simp only [Bool.and_eq_true, beq_iff_eq] at hc
    obtain ⟨⟨hsz, hx⟩, hi⟩ := hc
    have ht := elT_eq hel
    have hse := fun w => run_szOf (P := P) (w := w) hsz
    have hr := chkX_rep hx he
    have hri := chkX_rep hi he
    simp only [exOp] at hk
    split at hk
    · rename_i k n ei
      rw [ei] at hri
      simp only [Rep] at hri
      split at hk
      · rename_i es e
        rw [e] at hr
        simp only [Rep] at hr
        obtain ⟨ad, cap, hv, hl, hcap, hh⟩ := hr
        obtain ⟨⟨⟨h0, h1⟩, hcs⟩, hk⟩ := hk
        rcases hh with rfl | ⟨b, o', sz, rfl, hel'⟩
        · simp at h1
        · rw [elemsG_iff] at hel'
          obtain ⟨hq, hcell⟩ := hel' n.toNat (es.getD n.toNat .any) (by simp [h1])
          have hsz' : sz = esz := by omega
          subst hsz'
          refine Out.quiet (v := .pointer (some ⟨b, o' + n.toNat * sz, none⟩)) ?_ hk hs ?_
          · have : 0 ≤ n ∧ n < (es.length : Int) := by omega
            simp [execOp, ho, Instr.indexAt, run_underlying ht, hri, hv, asIntOf, hse, this, addr_add]
          · simp only [Rep]
            exact ⟨b, _, rfl, by rw [cellsG_iff]; exact hcell⟩
      · rename_i id off len e
        rw [e] at hr
        simp only [Rep] at hr
        obtain ⟨p, ad, cap, hp, hv, hadr, hl, hcap, hroom⟩ := hr
        split at hk
        · rename_i es hH
          obtain ⟨⟨⟨h0, h1⟩, hol, hcs⟩, hk⟩ := hk
          obtain ⟨carr, tt, hh, hsz1, _, hpe, hcell⟩ := row_at (c := 0) (n := 0) hs hp hH (i := off + n.toNat) (by omega) (by omega)
          have hpe' : p.esz = esz := by omega
          have had := hadr (by omega)
          subst had
          refine Out.quiet (v := .pointer (some ⟨p.blk, p.base + (off + n.toNat) * p.esz + 0, none⟩)) ?_ hk hs ?_
          · have : 0 ≤ n ∧ n < (len : Int) := by omega
            simp [execOp, ho, Instr.indexAt, run_underlying ht, hri, hv, asIntOf, hse, this, addr_add, hpe', Nat.add_mul]; omega
          · simp only [Rep]
            exact ⟨p, hp, rfl⟩
        · exact hk.elim
      · exact hk.elim
    · exact hk.elim
  · cases hc
theorem s_sidx {t : TypeId} {x i : Operand} {x' i' : SX} (ho : o.op = .index t x i) (ht : P.underlying t = some .string) (hx : chkX a.tmps.size x x' = true) (hi : chkX a.tmps.size i i' = true) (he : REnv B I env a.tmps) (hs : Sim f B I w H)
    (hk : exOp P (.sidx x' i') env H K) : Out f B I K ((execOp a.eval o).run P w) := by
  have hr := chkX_rep hx he
  have hri := chkX_rep hi he
  simp only [exOp] at hk
  split at hk
  · rename_i s k n e ei
    rw [e] at hr
    rw [ei] at hri
    simp only [Rep] at hr hri
    obtain ⟨⟨h0, h1⟩, hk⟩ := hk
    refine Out.quiet (v := .int .u8 (bt s n.toNat)) ?_ hk hs (by simp only [Rep])
    have hget : s[n.toNat]? = some (s[n.toNat]'h1) := by simp [getElem?_pos, h1]
    simp [execOp, ho, Instr.index, run_underlying ht, hri, hr.1, asIntOf, h0, hget, bt]
    have h1' : n.toNat < s.data.size := h1
    rw [Array.getElem?_eq_getElem h1']
    rfl
  · exact hk.elim
theorem s_len {c : Call} {str : Bool} {x' : SX} (ho : o.op = .call c) (hc : chkOp P a.tmps.size (.call c) o.type (.len str x') = true) (he : REnv B I env a.tmps) (hs : Sim f B I w H)
    (hk : exOp P (.len str x') env H K) : Out f B I K ((execOp a.eval o).run P w) := by
  simp only [chkOp] at hc
  split at hc
  · rename_i y t hcal hargs htys
    simp only [Bool.and_eq_true] at hc
    obtain ⟨hx, hty⟩ := hc
    have hr := chkX_rep hx he
    have ha : c.args = #[y] := by apply Array.toList_inj.1; simpa using hargs
    have hT : c.argTypes = #[t] := by apply Array.toList_inj.1; simpa using htys
    simp only [exOp] at hk
    split at hty
    · rename_i hu
      split at hk <;> try exact hk.elim
      all_goals rename_i e
      all_goals first | (cases ‹true = false›) | skip
      rw [e] at hr
      simp only [Rep] at hr
      obtain ⟨hv, hm⟩ := hr
      refine Out.quiet ?_ (hk hm) hs (by simp only [Rep]; first | rfl | trivial)
      simp [execOp, ho, resolve, hcal, ha, hT, invoke, builtin, Builtin.len_, run_underlying hu, hv, goInt]
    · rename_i el hu
      split at hk <;> first | exact hk.elim | (cases ‹false = true›) | skip
      · rename_i e
        rw [e] at hr
        simp only [Rep] at hr
        obtain ⟨ad, cap, hv, hl, hcap, hh⟩ := hr
        refine Out.quiet ?_ (hk (by simp [maxLen] at hcap; omega)) hs (by simp only [Rep]; first | rfl | trivial)
        simp [execOp, ho, resolve, hcal, ha, hT, invoke, builtin, Builtin.len_, run_underlying hu, hv, goInt]
      · rename_i e
        rw [e] at hr
        simp only [Rep] at hr
        refine Out.quiet ?_ hk hs (by simp only [Rep]; first | rfl | trivial)
        simp [execOp, ho, resolve, hcal, ha, hT, invoke, builtin, Builtin.len_, run_underlying hu, hr, goInt]
      · rename_i e
        rw [e] at hr
        simp only [Rep] at hr
        obtain ⟨ad, hr⟩ := hr
        refine Out.quiet ?_ hk hs (by simp only [Rep]; first | rfl | trivial)
        simp [execOp, ho, resolve, hcal, ha, hT, invoke, builtin, Builtin.len_, run_underlying hu, hr, goInt]
      · rename_i e
        rw [e] at hr
        simp only [Rep] at hr
        obtain ⟨p, ad, cap, hp, hv, hadr, hl, hcap, hroom⟩ := hr
        refine Out.quiet ?_ (hk (by simp [maxLen] at hcap; omega)) hs (by simp only [Rep]; first | rfl | trivial)
        simp [execOp, ho, resolve, hcal, ha, hT, invoke, builtin, Builtin.len_, run_underlying hu, hv, goInt]
    · cases hty
  · cases hc
end
section
variable {P : Program} {f : Fr} {B : List Pl} {I : IM} {w : World} {H : List Blk} {K : V → List Blk → Prop} {a : Act} {env : Nat → V} {o : Oper}
theorem opt_bound {lo : Option Operand} {lo' : Option SX} {d l : Int} (hc : chkO a.tmps.size lo lo' = true) (he : REnv B I env a.tmps)
    (h : ixO env d lo' = some l) : (lo.map a.eval = none ∧ l = d) ∨ ∃ k, lo.map a.eval = some (.int k l) := by
  cases lo with
  | none =>
    cases lo' with
    | none => left; simp [ixO] at h; simp [h]
    | some y => simp [chkO] at hc
  | some x =>
    cases lo' with
    | none => simp [chkO] at hc
    | some y =>
      right
      simp only [chkO] at hc
      have hr := chkX_rep hc he
      simp only [ixO] at h
      split at h
      · rename_i k i e
        rw [e] at hr
        simp only [Rep] at hr
        cases h
        exact ⟨k, by simp [hr]⟩
      · cases h
theorem run_slice_gen {t e : TypeId} {sz len cap : Nat} {ad : Option Addr} {l h : Int} {lo hi : Option Value} (ht : P.underlying t = some (.slice e)) (hsz : szOf P e = some sz)
    (hlo : (lo = none ∧ l = 0) ∨ ∃ k, lo = some (.int k l)) (hhi : (hi = none ∧ h = len) ∨ ∃ k, hi = some (.int k h)) (h0 : 0 ≤ l) (h1 : l ≤ h) (h2 : h ≤ cap) (hlc : len ≤ cap) :
    (Instr.sliceAt t (.slice ad len cap) lo hi none).run P w = .ok (.slice (if cap = l.toNat then ad else ad.map (·.add (l.toNat * sz))) (h.toNat - l.toNat) (cap - l.toNat)) w := by
  have hse := fun w => run_szOf (P := P) (w := w) hsz
  have hb : ∀ (k : IntKind) (i : Int) (y : Nat) (c : BoundsCode), 0 ≤ i → i ≤ y → (Instr.sliceBound (.int k i) y c).run P w = .ok i.toNat w := by
    intro k i y c h0 h1
    simp [Instr.sliceBound, asIntOf, h0, h1]
  rcases hlo with ⟨rfl, rfl⟩ | ⟨k, rfl⟩ <;> rcases hhi with ⟨rfl, rfl⟩ | ⟨k', rfl⟩
  · simp [Instr.sliceAt, run_underlying ht, Instr.slice, Instr.sliceBounds, hse]
  · simp [Instr.sliceAt, run_underlying ht, Instr.slice, Instr.sliceBounds, hse, hb _ _ _ _ (by omega : 0 ≤ h) h2]
  · simp [Instr.sliceAt, run_underlying ht, Instr.slice, Instr.sliceBounds, hse, hb _ _ _ _ h0 h1]
  · simp [Instr.sliceAt, run_underlying ht, Instr.slice, Instr.sliceBounds, hse, hb _ _ _ _ (by omega : 0 ≤ h) h2, hb _ l h.toNat _ h0 (by omega)]
theorem s_slice {t : TypeId} {esz : Nat} {x : Operand} {lo hi : Option Operand} {x' : SX} {lo' hi' : Option SX} (ho : o.op = .slice t x lo hi none) (hc : chkOp P a.tmps.size (.slice t x lo hi none) o.type (.slice esz x' lo' hi') = true) (he : REnv B I env a.tmps) (hs : Sim f B I w H)
    (hk : exOp P (.slice esz x' lo' hi') env H K) : Out f B I K ((execOp a.eval o).run P w) := by
  simp only [chkOp] at hc
  split at hc
  · rename_i el hel
    simp only [Bool.and_eq_true, beq_iff_eq] at hc
    obtain ⟨⟨⟨hsz, hx⟩, hl⟩, hh⟩ := hc
    have ht := elT_eq hel
    have hr := chkX_rep hx he
    have hrun : ∀ r, (Instr.sliceAt t (a.eval x) (lo.map a.eval) (hi.map a.eval) none).run P w = .ok r w → (execOp a.eval o).run P w = .ok (.value r) w := by
      intro r h
      simp [execOp, ho, h]
    simp only [exOp] at hk
    split at hk
    · exact hk.elim
    · rename_i l hle
      have hlo := opt_bound (d := 0) hl he hle
      split at hk
      · rename_i es e
        rw [e] at hr
        simp only [Rep] at hr
        obtain ⟨ad, cap, hv, hlc, hcap, hh'⟩ := hr
        split at hk
        · exact hk.elim
        · rename_i h hhe
          have hhi := opt_bound (d := (es.length : Int)) hh he hhe
          obtain ⟨⟨h0, h1, h2, hhead⟩, hk⟩ := hk
          have hg := run_slice_gen (P := P) (w := w) (ad := ad) (len := es.length) (cap := cap) (l := l) (h := h) ht hsz hlo hhi h0 h1 (by omega) hlc
          rw [← hv] at hg
          refine Out.quiet (hrun _ hg) hk hs ?_
          simp only [Rep]
          have hlen : ((es.take h.toNat).drop l.toNat).length = h.toNat - l.toNat := by rw [List.length_drop, List.length_take]; omega
          refine ⟨_, _, by rw [hlen], by rw [hlen]; omega, by omega, ?_⟩
          rcases hh' with rfl | ⟨b, o', sz, rfl, hel'⟩
          · left; simp
          · by_cases hz : (es.take h.toNat).drop l.toNat = []
            · exact .inl hz
            · right
              have hpos : 0 < ((es.take h.toNat).drop l.toNat).length := List.length_pos_iff.2 hz
              have hne : ¬ cap = l.toNat := by omega
              rw [elemsG_iff] at hel'
              have hsz' : sz = esz := by
                cases es with
                | nil => simp at hpos
                | cons x xs =>
                  have := (hel' 0 x (by simp)).1
                  have := hhead x rfl
                  omega
              subst hsz'
              refine ⟨b, o' + l.toNat * sz, sz, ?_, ?_⟩
              · rw [if_neg hne]
                simp only [Option.map_some, addr_add]
              · rw [elemsG_iff]
                intro i x hi
                rw [List.getElem?_drop, List.getElem?_take] at hi
                split at hi
                · obtain ⟨h5, h6⟩ := hel' _ x hi
                  refine ⟨h5, fun j c hj => ?_⟩
                  obtain ⟨v, h7, h8⟩ := h6 j c hj
                  exact ⟨v, by rw [← h7]; congr 1; rw [Nat.add_mul]; omega, h8⟩
                · cases hi
      · rename_i id off len e
        rw [e] at hr
        simp only [Rep] at hr
        obtain ⟨p, ad, cap, hp, hv, hadr, hlc, hcap, hroom⟩ := hr
        split at hk
        · exact hk.elim
        · rename_i h hhe
          have hhi := opt_bound (d := (len : Int)) hh he hhe
          split at hk
          · rename_i es hH
            obtain ⟨⟨h0, h1, h2, hol, hhead⟩, hk⟩ := hk
            have hg := run_slice_gen (P := P) (w := w) (ad := ad) (len := len) (cap := cap) (l := l) (h := h) ht hsz hlo hhi h0 h1 (by omega) hlc
            rw [← hv] at hg
            refine Out.quiet (hrun _ hg) hk hs ?_
            simp only [Rep]
            have hszz : l.toNat = 0 ∨ p.esz = esz := by
              by_cases hl0 : l.toNat = 0
              · exact .inl hl0
              · right
                cases es with
                | nil => simp at hol; omega
                | cons x xs =>
                  obtain ⟨_, _, _, _, _, hpe, _⟩ := row_at (c := 0) (n := 0) hs hp hH (i := 0) (by simp) (by simp)
                  have := hhead x rfl
                  simp at hpe
                  omega
            refine ⟨p, _, cap - l.toNat, hp, rfl, ?_, by omega, by omega, ?_⟩
            · intro hc0
              have := hadr (by omega)
              subst this
              rw [if_neg (by omega)]
              simp only [Option.map_some, addr_add]
              rcases hszz with h3 | h3
              · rw [h3]; simp
              · rw [h3, Nat.add_mul, Nat.add_assoc]
            · have : off + l.toNat + (cap - l.toNat) = off + cap := by omega
              rw [this]; exact hroom
          · exact hk.elim
      · rename_i e
        rw [e] at hr
        simp only [Rep] at hr
        split at hk
        · exact hk.elim
        · rename_i h hhe
          have hhi := opt_bound (d := 0) hh he hhe
          obtain ⟨⟨rfl, rfl⟩, hk⟩ := hk
          have hg := run_slice_gen (P := P) (w := w) (ad := none) (len := 0) (cap := 0) (l := 0) (h := 0) ht hsz hlo hhi (by omega) (by omega) (by omega) (by omega)
          rw [← hr] at hg
          refine Out.quiet (hrun _ hg) hk hs ?_
          simp [Rep]
      · exact hk.elim
  · cases hc
end
end Go.Proofs.YtdgoeblpcnjlbaaGreatDoor.Av
