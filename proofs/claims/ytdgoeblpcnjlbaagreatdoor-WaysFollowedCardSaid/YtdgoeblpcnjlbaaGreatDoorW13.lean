/- Proved: for every list of numbers the law WaysFollowed answers true and leaves its argument as it was (the tied card); no condition beyond the row's own. Text 13 of 15. -/
import Derived.Test.YtdgoeblpcnjlbaaGreatDoorW12
set_option linter.unusedVariables false
set_option linter.unusedSimpArgs false
set_option linter.unusedSectionVars false
set_option linter.all false
namespace Go.Proofs.YtdgoeblpcnjlbaaGreatDoor.Av
open Go.RowKit
mutual
def keS (ec : ByteArray → Bool) : St → St
 | .mk k r t v l e a b p ps => .mk k r t v l e (keL ec a) (keL ec b) p ps
def keL (ec : ByteArray → Bool) : List St → List St
 | [] => []
 | s :: l => keS ec s :: if thS ec s then keL ec l else []
end
mutual
theorem thS_keS (ec : ByteArray → Bool) : ∀ s, thS ec (keS ec s) = thS ec s
 | .mk k r t v l e a b p ps => by simp only [keS, thS, thL_keL ec a, thL_keL ec b]
theorem thL_keL (ec : ByteArray → Bool) : ∀ l, thL ec (keL ec l) = thL ec l
 | [] => rfl
 | s :: l => by
  simp only [keL, thL, thS_keS ec s]
  cases h : thS ec s
  ·simp
  ·simp [thL_keL ec l]
end
def cbs (X : List Pr) (so : List Int × List Int) (ks : List ByteArray) : List Int × List Int := ks.foldl (fun so p => cb1 so (procI X p)) so
theorem cbs_app (X : List Pr) (so : List Int × List Int) (a b : List ByteArray) : cbs X so (a ++ b) = cbs X (cbs X so a) b := by simp [cbs]
structure SOk (n : Nat) (so : List Int × List Int) : Prop where
 set : SetP n so.1
 le : so.2.length ≤ so.1.length
theorem SetP.len {n : Nat} : ∀ {S : List Int}, SetP n S → S.length ≤ n := by
 have key : ∀ {S : List Int}, SetP n S → S.length + fls (toE n S) = n := by
  intro S
  induction S with
  | nil =>
   intro _
   rw [toE_nil]
   have : ∀ m, fls (List.replicate m false) = m := fun m => by simp [fls]
   simp [this]
  | cons i S ih =>
   intro h
   have hn := List.nodup_cons.1 h.nodup
   have hS : SetP n S := ⟨fun x hx => h.lo x (by simp [hx]), fun x hx => h.hi x (by simp [hx]), hn.2⟩
   have := ih hS
   have h0 := h.lo i (by simp)
   have h1 := h.hi i (by simp)
   obtain ⟨k, rfl⟩ : ∃ k : Nat, i = k := ⟨i.toNat, by omega⟩
   have hk : k < n := by omega
   have hset : toE n ((k : Int) :: S) = (toE n S).set k true := by
    rw [← toE_add]
    simp only [toE]
    apply List.map_congr_left
    intro j _
    simp [mem_addN, or_comm]
   have hg := toE_get n S k hk
   have := fls_set (E := toE n S) (i := k) (by rw [hg]; simp [hn.1])
   rw [hset, List.length_cons]; omega
 intro S h
 have := key h; omega
theorem SOk.cb1 {n : Nat} {so : List Int × List Int} (h : SOk n so) {i : Nat} (hi : i < n) : SOk n (cb1 so i) := by
 unfold Av.cb1
 split
 ·exact h
 ·rename_i hm
  have := h.set.add hi
  rw [addN, if_neg (by simpa using hm)] at this
  exact ⟨this, by have := h.le; simp; omega⟩
theorem cbs_ok {X : List Pr} : ∀ {ks : List ByteArray} {so : List Int × List Int}, (∀ p ∈ ks, 0 ≤ procI X p) → SOk X.length so → SOk X.length (cbs X so ks)
 | [], so, _, h => h
 | p :: ks, so, hk, h => by
  have hp := hk p (by simp)
  have hlt := procI_lt hp
  have hI : procI X p = (((procI X p).toNat : Nat) : Int) := by omega
  have := cbs_ok (ks := ks) (so := Av.cb1 so (procI X p)) (fun q hq => hk q (by simp [hq])) (by rw [hI]; exact h.cb1 hlt)
  simpa [cbs] using this
theorem cbs_or (X : List Pr) : ∀ (ks : List ByteArray) (so : List Int × List Int), so.1.length ≤ (cbs X so ks).1.length ∧ (cbs X so ks = so ∨ so.1.length < (cbs X so ks).1.length) ∧ ((cbs X so ks).2 ≠ [] ∨ cbs X so ks = so)
 | [], so => ⟨Nat.le_refl _, .inl rfl, .inr rfl⟩
 | p :: ks, so => by
  obtain ⟨h0, h1, h2⟩ := cbs_or X ks (cb1 so (procI X p))
  have hc : cbs X so (p :: ks) = cbs X (cb1 so (procI X p)) ks := rfl
  obtain ⟨g1, g2⟩ := cb1uor so (procI X p)
  rw [hc]
  generalize cbs X (cb1 so (procI X p)) ks = s2 at *
  generalize cb1 so (procI X p) = s1 at *
  rcases g1 with rfl | g1
  ·exact ⟨h0, h1, h2⟩
  ·refine ⟨by omega, .inr (by omega), ?_⟩
   rcases h2 with h2 | rfl
   ·exact .inl h2
   ·rcases g2 with g2 | rfl
    ·exact .inl g2
    ·omega
theorem caL_pos {X : List Pr} {ec : ByteArray → Bool} : ∀ (l : List St), okL X l = true → ∀ p ∈ caL ec l, 0 ≤ procI X p := by
 have key : ∀ (m : Nat) (l : List St), SizeOf.sizeOf l < m → okL X l = true → ∀ p ∈ caL ec l, 0 ≤ procI X p := by
  intro m
  induction m with
  | zero => intro l h; omega
  | succ m ih =>
   intro l hm hok p hp
   cases l with
   | nil => simp [caL] at hp
   | cons s l =>
    rcases s with ⟨k, r, t, v, lb, e, a, b, q, ps⟩
    simp only [okL, okS, Bool.and_eq_true, Bool.or_eq_true, bne_iff_ne, ne_eq, decide_eq_true_eq] at hok
    obtain ⟨⟨hk, ha, hb⟩, hl⟩ := hok
    simp only [List.cons.sizeOf_spec, St.mk.sizeOf_spec] at hm
    simp only [caL, caS, List.mem_append] at hp
    rcases hp with (hp | hp | hp) | hp
    ·split at hp
     ·rename_i h5; simp at hp; subst hp; exact hk.resolve_left (fun h => h h5)
     ·simp at hp
    ·exact ih a (by omega) ha p hp
    ·exact ih b (by omega) hb p hp
    ·split at hp
     ·exact ih l (by omega) hl p hp
     ·simp at hp
 intro l
 exact key _ l (Nat.lt_succ_self _)
theorem KR.get {H H1 : List Blk} {kv kv1 : V} {so so1 : List Int × List Int} (h : KR H kv so H1 kv1 so1) {j : Nat} (hj : j < H.length) (h2 : j ≠ 2) (h4 : j ≠ 4) (hk : kvne kv j) : H1[j]? = H[j]? ∧ kvne kv1 j := by
 rcases h.how with ⟨_, rfl, h3⟩ | ⟨_, id, rfl, hid, _, h5⟩
 ·exact ⟨h3 j hj, hk⟩
 ·exact ⟨(h5 j hj h2 h4).trans (killV_get hk), fun a b e => by injection e; omega⟩
theorem KR.kill {H H1 : List Blk} {kv kv1 : V} {so so1 : List Int × List Int} (h : KR H kv so H1 kv1 so1) (hN : 4 < H.length) {id : Nat} (hid : H.length ≤ id) (hk : kvne kv1 id) : KR H kv so (H1.set id .dead) kv1 so1 := by
 have hl := h.len
 have hne : ∀ j, j ≠ id → (H1.set id .dead)[j]? = H1[j]? := fun j hj => by rw [List.getElem?_set_ne (fun e => hj e.symm)]
 refine ⟨by simpa using hl, ⟨by rw [hne 2 (by omega)]; exact h.inv.seen, by rw [hne 3 (by omega)]; exact h.inv.cell, by rw [hne 4 (by omega)]; exact h.inv.open_, ?_, h.inv.n2, h.inv.n3, h.inv.n4⟩, ?_⟩
 ·rcases h.inv.ov with h' | ⟨id', off, es, h1, h2, h3⟩
  ·exact .inl h'
  ·exact .inr ⟨id', off, es, h1, by rw [hne id' (fun e => hk off so1.2.length (by rw [h1, e]))]; exact h2, h3⟩
 ·rcases h.how with ⟨h1, h2, h3⟩ | ⟨h1, id', h2, h3, h4, h5⟩
  ·exact .inl ⟨h1, h2, fun j hj => by rw [hne j (by omega)]; exact h3 j hj⟩
  ·exact .inr ⟨h1, id', h2, h3, by rw [hne id' (fun e => hk 0 so1.2.length (by rw [h2, e]))]; exact h4, fun j hj a b => by rw [hne j (by omega)]; exact h5 j hj a b⟩
theorem KR.setN {H H1 : List Blk} {kv kv1 : V} {so so1 : List Int × List Int} (h : KR H kv so H1 kv1 so1) (hN : 4 < H.length) {id : Nat} (hid : H.length ≤ id) (hk : kvne kv1 id) (b : Blk) : KR H kv so (H1.set id b) kv1 so1 := by
 have hl := h.len
 have hne : ∀ j, j ≠ id → (H1.set id b)[j]? = H1[j]? := fun j hj => by rw [List.getElem?_set_ne (fun e => hj e.symm)]
 refine ⟨by simpa using hl, ⟨by rw [hne 2 (by omega)]; exact h.inv.seen, by rw [hne 3 (by omega)]; exact h.inv.cell, by rw [hne 4 (by omega)]; exact h.inv.open_, ?_, h.inv.n2, h.inv.n3, h.inv.n4⟩, ?_⟩
 ·rcases h.inv.ov with h' | ⟨id', off, es, h1, h2, h3⟩
  ·exact .inl h'
  ·exact .inr ⟨id', off, es, h1, by rw [hne id' (fun e => hk off so1.2.length (by rw [h1, e]))]; exact h2, h3⟩
 ·rcases h.how with ⟨h1, h2, h3⟩ | ⟨h1, id', h2, h3, h4, h5⟩
  ·exact .inl ⟨h1, h2, fun j hj => by rw [hne j (by omega)]; exact h3 j hj⟩
  ·exact .inr ⟨h1, id', h2, h3, by rw [hne id' (fun e => hk 0 so1.2.length (by rw [h2, e]))]; exact h4, fun j hj a b => by rw [hne j (by omega)]; exact h5 j hj a b⟩
def KO (M : Nat) (H : List Blk) (kv kvo : V) (acc : List V) : Prop := OV H kvo acc ∧ ∀ id o l, kvo = .ms id o l → M ≤ id ∧ kvne kv id
theorem KO.kr {M : Nat} {H H1 : List Blk} {kv kv1 kvo : V} {acc : List V} {so so1 : List Int × List Int} (h : KO M H kv kvo acc) (hM : 4 < M) (g : KR H kv so H1 kv1 so1) : KO M H1 kv1 kvo acc := by
 rcases h with ⟨⟨h1, h2⟩ | ⟨h1, id, h2, h3⟩, h4⟩
 ·exact ⟨.inl ⟨h1, h2⟩, fun id o l e => by rw [h2] at e; cases e⟩
 ·obtain ⟨h5, h6⟩ := h4 id 0 _ h2
  obtain ⟨g1, g2⟩ := g.get (List.getElem?_eq_some_iff.1 h3).1 (by omega) (by omega) h6
  exact ⟨.inr ⟨h1, id, h2, by rw [g1]; exact h3⟩, fun id' o l e => by rw [h2] at e; injection e with e _ _; subst e; exact ⟨h5, g2⟩⟩
theorem OV.ne_of {H : List Blk} {kv : V} {acc : List V} (h : OV H kv acc) {j : Nat} (hj : H.length ≤ j) : kvne kv j := by
 rcases h with ⟨_, rfl⟩ | ⟨_, id, rfl, h2⟩
 ·intro a b e; cases e
 ·intro a b e; injection e with e _ _; have := (List.getElem?_eq_some_iff.1 h2).1; omega
theorem OVd.ne_of {H : List Blk} {kv : V} {O : List Int} (h : OVd H kv O) {j : Nat} (hj : H.length ≤ j) : kvne kv j := by
 rcases h with ⟨_, rfl⟩ | ⟨id, off, es, rfl, h2, _⟩
 ·intro a b e; cases e
 ·intro a b e; injection e with e _ _; have := (List.getElem?_eq_some_iff.1 h2).1; omega
theorem KR.frame {H H1 H2 : List Blk} {kv kv1 kvo : V} {so so1 : List Int × List Int} (h : KR H kv so H1 kv1 so1) (hN : 4 < H.length) (hl2 : H1.length ≤ H2.length) (hko : ∀ id o l, kvo = .ms id o l → H.length ≤ id ∧ kvne kv1 id)
  (hf : ∀ j, j < H1.length → kvne kvo j → H2[j]? = H1[j]?) : KR H kv so H2 kv1 so1 := by
 have hl := h.len
 have hne : ∀ j, j < H.length → kvne kvo j := fun j hj a b e => by have := (hko j a b e).1; omega
 have hg : ∀ j, j < H.length → H2[j]? = H1[j]? := fun j hj => hf j (by omega) (hne j hj)
 refine ⟨by omega, ⟨by rw [hg 2 (by omega)]; exact h.inv.seen, by rw [hg 3 (by omega)]; exact h.inv.cell, by rw [hg 4 (by omega)]; exact h.inv.open_, ?_, h.inv.n2, h.inv.n3, h.inv.n4⟩, ?_⟩
 ·rcases h.inv.ov with h' | ⟨id', off, es, h1, h2, h3⟩
  ·exact .inl h'
  ·refine .inr ⟨id', off, es, h1, ?_, h3⟩
   rw [hf id' (List.getElem?_eq_some_iff.1 h2).1 (fun a b e => (hko id' a b e).2 off so1.2.length h1)]; exact h2
 ·rcases h.how with ⟨h1, h2, h3⟩ | ⟨h1, id', h2, h3, h4, h5⟩
  ·exact .inl ⟨h1, h2, fun j hj => by rw [hg j hj]; exact h3 j hj⟩
  ·refine .inr ⟨h1, id', h2, h3, ?_, fun j hj a b => by rw [hg j hj]; exact h5 j hj a b⟩
   rw [hf id' (List.getElem?_eq_some_iff.1 h4).1 (fun a b e => (hko id' a b e).2 0 so1.2.length h2)]; exact h4
theorem KO.next {M : Nat} {H5 H' : List Blk} {kv kvo kv' : V} {O : List Int} {acc acc' : List V} (h : KO M H5 kv kvo acc) (hM : M ≤ H5.length) (hd : OVd H5 kv O) (hov' : OV H' kv' acc')
  (hfr : ∀ j, j < H5.length → kvne kvo j → H'[j]? = H5[j]? ∧ kvne kv' j) : KO M H' kv kv' acc' := by
 refine ⟨hov', fun id o l e => ?_⟩
 have h1 : ∀ j, j < M → kvne kvo j := fun j hj a b e => by have := (h.2 j a b e).1; omega
 refine ⟨?_, fun a b e2 => ?_⟩
 ·refine Classical.byContradiction fun hlt => ?_
  exact (hfr id (by omega) (h1 id (by omega))).2 o l e
 ·have hid : id < H5.length := by
   refine Classical.byContradiction fun hge => ?_
   exact hd.ne_of (by omega) a b e2
  exact (hfr id hid (fun x y e3 => (h.2 id x y e3).2 a b e2)).2 o l e
set_option maxRecDepth 20000 in
set_option maxHeartbeats 4000000 in
theorem t287s (P : Pla) (hpn : P.procs.length ≤ 1000000) (S0 : List Int) (xs : List St) (hok : okL P.procs xs = true) (hcx : xs.length ≤ 1000000)
  (ih : ∀ k r t v l e a b p ps, St.mk k r t v l e a b p ps ∈ xs → ∀ (H : List Blk) (kv : V) (so : List Int × List Int), KInv H kv so → SOk P.procs.length so →
   ACall Tryz.prog 135 [encPl P, .fs (a.map encS), .fmap (S0.map (.int .i64)) (trues S0), .clos 134 [] [.ptr 3 0 0, .ptr 4 0 0]] H (ret1 (.fs ((keL (ecS P.procs S0) a).map encS)) (KH H kv so (cbs P.procs so (caL (ecS P.procs S0) a)))) ∧
   ACall Tryz.prog 135 [encPl P, .fs (b.map encS), .fmap (S0.map (.int .i64)) (trues S0), .clos 134 [] [.ptr 3 0 0, .ptr 4 0 0]] H (ret1 (.fs ((keL (ecS P.procs S0) b).map encS)) (KH H kv so (cbs P.procs so (caL (ecS P.procs S0) b)))))
  (H : List Blk) (kv : V) (so : List Int × List Int) (hi : KInv H kv so) (hso : SOk P.procs.length so) :
  ACall Tryz.prog 135 [encPl P, .fs (xs.map encS), .fmap (S0.map (.int .i64)) (trues S0), .clos 134 [] [.ptr 3 0 0, .ptr 4 0 0]] H (ret1 (.fs ((keL (ecS P.procs S0) xs).map encS)) (KH H kv so (cbs P.procs so (caL (ecS P.procs S0) xs)))) := by
 have h4N := (List.getElem?_eq_some_iff.1 hi.open_).1
 refine KR.fin (kv := kv) (so := so) (by simp [noref, norefL_encS]) hi ?_
 refine ACall.fz ?_
 generalize hec : ecS P.procs S0 = ec at *
 generalize hN : H.length = N at *
 generalize hb1 : Blk.row [.agg [.fs (P.procs.map encP), .fs (P.main.map encS)]] = b1 at *
 generalize hb2 : Blk.row [V.fmap (S0.map (.int .i64)) (trues S0)] = b2 at *
 have hg1 : (H ++ [b1, b2])[N]? = some b1 := by rw [← hN, List.getElem?_append_right (Nat.le_refl _)]; simp
 have hg2 : (H ++ [b1, b2])[N + 1]? = some b2 := by rw [← hN, List.getElem?_append_right (by omega)]; simp
 have hbl : (H ++ [b1, b2]).length = N + 2 := by simp [hN]
 have fin : ∀ H1 kv1 kvo, KR (H ++ [b1, b2]) kv so H1 kv1 (cbs P.procs so (caL ec xs)) → KO (N + 2) H1 kv1 kvo ((keL ec xs).map encS) →
   ∃ D v', fz (keepL D H1) 20 kvo = some v' ∧ v' = .fs ((keL ec xs).map encS) ∧ ∃ kv2, KR H kv so (killL D H1) kv2 (cbs P.procs so (caL ec xs)) := by
  intro H1 kv1 kvo hkr hko
  have h0 : KR H kv so H1 kv1 (cbs P.procs so (caL ec xs)) := (KR.refl hi (by simp) (fun j hj => by rw [List.getElem?_append_left hj])).trans hkr
  rcases hko with ⟨⟨h1, h2⟩ | ⟨h1, id, h2, h3⟩, h4⟩
  ·refine ⟨[], _, ?_, rfl, kv1, h0⟩
   rw [h2, h1, fz_nils]
  ·obtain ⟨h5, h6⟩ := h4 id 0 _ h2
   refine ⟨[id], _, ?_, rfl, kv1, h0.kill (by omega) (by omega) h6⟩
   refine fz_OV (f := encS) (n := 18) (fun H x => fz_encS H 17 x) (.inr ⟨h1, id, h2, ?_⟩)
   rw [keepL_get, h3]; simp
 have hkN : ∀ j, N ≤ j → kvne kv j := fun j hj => hi.ov.ne_of (by omega)
 have hi1 : KInv (H ++ [b1, b2]) kv so := hi.grow (fun j hj => by rw [List.getElem?_append_left hj])
 have hPl : encPl P = .agg [.fs (P.procs.map encP), .fs (P.main.map encS)] := rfl
 refine ACall.intro c287 600 (by simp) ?_
 simp only [hPl] at ih ⊢
 simp -implicitDefEqProofs only [s287, hN, ne_eq, not_false_eq_true, hls, hln, Nat.reduceMul, go_sem]
 intro hlen
 refine F_loop (fun m e H1 => ∃ pre post acc kvo kv1 so1, xs = pre ++ post ∧ m = post.length ∧ e 3 = .clos 134 [] [.ptr 3 0 0, .ptr 4 0 0] ∧ e 4 = .ptr N 0 0 ∧ e 6 = .ptr (N + 1) 0 0 ∧ e 9 = kvo ∧ e 12 = .fs (xs.map encS) ∧ e 13 = .int .i64 xs.length ∧ e 14 = .int .i64 pre.length ∧
  keL ec xs = acc ++ keL ec post ∧ cbs P.procs so (caL ec xs) = cbs P.procs so1 (caL ec post) ∧ SOk P.procs.length so1 ∧ KR (H ++ [b1, b2]) kv so H1 kv1 so1 ∧ KO (N + 2) H1 kv1 kvo (acc.map encS) ∧ acc.length ≤ pre.length) xs.length
  ⟨[], xs, [], .nils, kv, so, rfl, rfl, by simp [upd, env0], by simp [upd, env0], by simp [upd, env0], by simp [upd, env0], by simp [upd, env0], by simp [upd, env0], by simp [upd, env0], rfl, rfl, hso, by rw [← hb1, ← hb2]; rw [← hb1, ← hb2] at hi1; exact KR.refl hi1 (by simp) (fun j hj => rfl), ⟨.inl ⟨rfl, rfl⟩, fun id o l e => by cases e⟩, Nat.le_refl _⟩ ?_
 rintro m e H1 ⟨pre, post, acc, kvo, kv1, so1, hxs, rfl, h3, h4, h6, h9, h12, h13, h14, hke, hcb, hsok, hkr, hko, hal⟩
 cases post with
 | nil =>
  simp -implicitDefEqProofs only [h3, h4, h6, h9, h12, h13, h14, mid_not hxs, ne_eq, not_false_eq_true, hls, hln, Nat.reduceMul, go_sem]
  simp -implicitDefEqProofs only [r287, ne_eq, not_false_eq_true, hls, hln, Nat.reduceMul, push_cast, go_sem_proc]
  simp only [keL, caL, List.append_nil] at hke hcb
  have hcb' : cbs P.procs so (caL ec xs) = so1 := hcb
  rw [← hke] at hko
  rw [← hcb'] at hkr
  exact fin H1 kv1 kvo hkr hko
 | cons s rest =>
  have hmem : s ∈ xs := by rw [hxs]; simp
  have hos := okL_mem hok s hmem
  have hg := mid_get encS hxs
  have hpl : pre.length < xs.length := by rw [hxs]; simp
  rcases s with ⟨k, r, t, v, lb, ⟨ek, en, es, eas⟩, a, b, p, ps⟩
  simp only [okS, Bool.and_eq_true, Bool.or_eq_true, bne_iff_ne, ne_eq, decide_eq_true_eq] at hos
  obtain ⟨hpk, hoa, hob⟩ := hos
  have hih := ih k r t v lb (.mk ek en es eas) a b p ps hmem
  have hpass := passes P S0 184 (t320 P S0) [keS ec (.mk k r t v lb (.mk ek en es eas) a b p ps)]
  rw [hec] at hpass
  simp only [thL, thS_keS, Bool.and_true] at hpass
  have hkeS : keS ec (.mk k r t v lb (.mk ek en es eas) a b p ps) = .mk k r t v lb (.mk ek en es eas) (keL ec a) (keL ec b) p ps := rfl
  rw [hkeS] at hpass
  simp only [hPl, capS, List.map_cons, List.map_nil, encS_mk] at hpass
  have h30 := t30 P p
  simp only [hPl] at h30
  rw [encS_mk] at hg
  generalize hsb : Blk.row [V.agg [.int .i64 k, .str r, .str t, .str v, .str lb, .int .i64 ek, .int .i64 en, .str es, .fs (eas.map encE), .fs (a.map encS), .fs (b.map encS), .str p, .fs (ps.map .str)]] = sb at *
  have hl1 := hkr.len
  rw [hbl] at hl1
  have hA : ∃ H2 kv2 so2, (k = 5 → ACall Tryz.prog 134 [.int .i64 (procI P.procs p), .ptr 3 0 0, .ptr 4 0 0] (H1 ++ [sb]) (ret1 (.tup []) H2)) ∧ (k ≠ 5 → H2 = H1 ++ [sb]) ∧ KR (H1 ++ [sb]) kv1 so1 H2 kv2 so2 ∧ SOk P.procs.length so2 ∧ so2 = cbs P.procs so1 (if k = 5 then [p] else []) := by
   have hi0 : KInv (H1 ++ [sb]) kv1 so1 := hkr.inv.grow (fun j hj => by rw [List.getElem?_append_left hj])
   by_cases h5 : k = 5
   ·have hp : 0 ≤ procI P.procs p := hpk.resolve_left (fun h => h h5)
    have hlt := procI_lt hp
    have hI : procI P.procs p = (((procI P.procs p).toNat : Nat) : Int) := by omega
    have hle : so1.2.length ≤ 1000000 := by have := hsok.le; have := hsok.set.len; omega
    refine ⟨_, _, _, fun _ => t286 _ kv1 so1 _ hi0 hle, fun h => absurd h5 h, KH.kr hi0 (cb1uor so1 _).1 (cb1uor so1 _).2, ?_, ?_⟩
    ·rw [hI]; exact hsok.cb1 hlt
    ·rw [if_pos h5]; rfl
   ·exact ⟨_, _, _, fun h => absurd h h5, fun _ => rfl, KR.refl hi0 (Nat.le_refl _) (fun _ _ => rfl), hsok, by rw [if_neg h5]; rfl⟩
  obtain ⟨H2, kv2, so2, hA1, hA2, hk2, hsok2, hso2⟩ := hA
  have hkL : kvne kv1 H1.length := hkr.inv.ov.ne_of (Nat.le_refl _)
  have hk1N := hkr.get (j := N) (by omega) (by omega) (by omega) (hkN N (Nat.le_refl _))
  have hk1N1 := hkr.get (j := N + 1) (by omega) (by omega) (by omega) (hkN (N + 1) (by omega))
  rw [hg1] at hk1N; rw [hg2] at hk1N1
  have fA1 : ∀ l : List Blk, (H1 ++ l)[N]? = some b1 := fun l => by rw [List.getElem?_append_left (by omega)]; exact hk1N.1
  have fA2 : ∀ l : List Blk, (H1 ++ l)[N + 1]? = some b2 := fun l => by rw [List.getElem?_append_left (by omega)]; exact hk1N1.1
  have fA3 : (H1 ++ [sb])[H1.length]? = some sb := by simp
  have hl2 := hk2.len
  have hl1' : (H1 ++ [sb]).length = H1.length + 1 := by simp
  rw [hl1'] at hl2
  obtain ⟨f21, k21⟩ := hk2.get (j := N) (by omega) (by omega) (by omega) hk1N.2
  obtain ⟨f22, k22⟩ := hk2.get (j := N + 1) (by omega) (by omega) (by omega) hk1N1.2
  obtain ⟨f23, k23⟩ := hk2.get (j := H1.length) (by omega) (by omega) (by omega) hkL
  rw [fA1] at f21; rw [fA2] at f22; rw [fA3] at f23
  have ha := (hih H2 kv2 so2 hk2.inv hsok2).1
  have hor3 := cbs_or P.procs (caL ec a) so2
  have hk3 := KH.kr hk2.inv hor3.2.1 hor3.2.2
  have hsok3 : SOk P.procs.length (cbs P.procs so2 (caL ec a)) := cbs_ok (caL_pos a hoa) hsok2
  generalize hso3 : cbs P.procs so2 (caL ec a) = so3 at *
  generalize KH H2 kv2 so2 so3 = H3 at *
  generalize KVl H2 kv2 so2 so3 = kv3 at *
  have hl3 := hk3.len
  obtain ⟨f31, k31⟩ := hk3.get (j := N) (by omega) (by omega) (by omega) k21
  obtain ⟨f32, k32⟩ := hk3.get (j := N + 1) (by omega) (by omega) (by omega) k22
  obtain ⟨f33, k33⟩ := hk3.get (j := H1.length) (by omega) (by omega) (by omega) k23
  rw [f21] at f31; rw [f22] at f32; rw [f23] at f33
  have hb := (hih H3 kv3 so3 hk3.inv hsok3).2
  have hor4 := cbs_or P.procs (caL ec b) so3
  have hk4 := KH.kr hk3.inv hor4.2.1 hor4.2.2
  have hsok4 : SOk P.procs.length (cbs P.procs so3 (caL ec b)) := cbs_ok (caL_pos b hob) hsok3
  generalize hso4 : cbs P.procs so3 (caL ec b) = so4 at *
  generalize KH H3 kv3 so3 so4 = H4 at *
  generalize KVl H3 kv3 so3 so4 = kv4 at *
  have hl4 := hk4.len
  obtain ⟨f41, k41⟩ := hk4.get (j := N) (by omega) (by omega) (by omega) k31
  obtain ⟨f42, k42⟩ := hk4.get (j := N + 1) (by omega) (by omega) (by omega) k32
  obtain ⟨f43, k43⟩ := hk4.get (j := H1.length) (by omega) (by omega) (by omega) k33
  rw [f31] at f41; rw [f32] at f42; rw [f33] at f43
  have hkr0 : KR (H ++ [b1, b2]) kv so (H1 ++ [sb]) kv1 so1 := hkr.app [sb]
  have hkr4 := ((hkr0.trans hk2).trans hk3).trans hk4
  have hko0 : KO (N + 2) (H1 ++ [sb]) kv1 kvo (acc.map encS) := ⟨hko.1.app _, hko.2⟩
  have hko4 := ((hko0.kr (by omega) hk2).kr (by omega) hk3).kr (by omega) hk4
  have hkoL : kvne kvo H1.length := hko.1.ne_of (Nat.le_refl _)
  subst hsb hb1 hb2
  by_cases h5 : k = 5
  ·have hA1 := hA1 h5
   subst h5
   have hL5 : ∀ X, (H4.set H1.length X)[H1.length]? = some X := fun X => by rw [List.getElem?_set]; simp; omega
   simp -implicitDefEqProofs only [h3, h4, h6, h9, h12, h13, h14, mid_lt hxs, mid_wrap hxs hlen, hg, fA1, fA2, fA3, f21, f22, f23, f31, f32, f33, f41, f42, f43, hL5, ne_eq, not_false_eq_true, hls, hln, Nat.reduceMul, go_sem]
   repeat' (first | ((first | (with_reducible first | refine cgA hA1 ?_ | refine cgA ha ?_ | refine cgA hb ?_) | ((with_reducible refine cgR h30 ?_ ?_); (·simp [norefL, noref, nrb, norefL_encP, norefL_encS])) | ((with_reducible apply cgF); (·simp -implicitDefEqProofs only [List.map_cons, List.map_nil, norefL_encP, norefL_encS, ne_eq, not_false_eq_true, hls, hln, Nat.reduceMul, push_cast, go_sem_proc] <;> rfl); (with_reducible exact h30); (·rfl)) | (with_reducible refine F_q2 ?_)); simp -implicitDefEqProofs only [h3, h4, h6, h9, h12, h13, h14, mid_lt hxs, mid_wrap hxs hlen, hg, fA1, fA2, fA3, f21, f22, f23, f31, f32, f33, f41, f42, f43, hL5, ne_eq, not_false_eq_true, hls, hln, Nat.reduceMul, go_sem]) | (with_reducible refine Fork.mk ?_ ?_) | (with_reducible refine And.intro ?_ ?_) | ((with_reducible refine rpI ?_); simp -implicitDefEqProofs only [r287, ne_eq, not_false_eq_true, hls, hln, Nat.reduceMul, push_cast, go_sem_proc]) | intro _)
   have hH5l : (H4.set H1.length (Blk.row [.agg [.int .i64 5, .str r, .str t, .str v, .str lb, .int .i64 ek, .int .i64 en, .str es, .fs (eas.map encE), .fs ((keL ec a).map encS), .fs ((keL ec b).map encS), .str p, .fs (ps.map .str)]])).length = H4.length := by simp
   have h5L := hL5 (Blk.row [.agg [.int .i64 5, .str r, .str t, .str v, .str lb, .int .i64 ek, .int .i64 en, .str es, .fs (eas.map encE), .fs ((keL ec a).map encS), .fs ((keL ec b).map encS), .str p, .fs (ps.map .str)]])
   have hkr5 := hkr4.setN (by omega) (id := H1.length) (by omega) k43 (Blk.row [.agg [.int .i64 5, .str r, .str t, .str v, .str lb, .int .i64 ek, .int .i64 en, .str es, .fs (eas.map encE), .fs ((keL ec a).map encS), .fs ((keL ec b).map encS), .str p, .fs (ps.map .str)]])
   have hko5 : KO (N + 2) (H4.set H1.length (Blk.row [.agg [.int .i64 5, .str r, .str t, .str v, .str lb, .int .i64 ek, .int .i64 en, .str es, .fs (eas.map encE), .fs ((keL ec a).map encS), .fs ((keL ec b).map encS), .str p, .fs (ps.map .str)]])) kv4 kvo (acc.map encS) := ⟨hko4.1.set hkoL, hko4.2⟩
   have h5N : (H4.set H1.length (Blk.row [.agg [.int .i64 5, .str r, .str t, .str v, .str lb, .int .i64 ek, .int .i64 en, .str es, .fs (eas.map encE), .fs ((keL ec a).map encS), .fs ((keL ec b).map encS), .str p, .fs (ps.map .str)]]))[N]? = some (Blk.row [.agg [.fs (P.procs.map encP), .fs (P.main.map encS)]]) := by rw [List.getElem?_set_ne (by omega)]; exact f41
   have h5N1 : (H4.set H1.length (Blk.row [.agg [.int .i64 5, .str r, .str t, .str v, .str lb, .int .i64 ek, .int .i64 en, .str es, .fs (eas.map encE), .fs ((keL ec a).map encS), .fs ((keL ec b).map encS), .str p, .fs (ps.map .str)]]))[N + 1]? = some (Blk.row [V.fmap (S0.map (.int .i64)) (trues S0)]) := by rw [List.getElem?_set_ne (by omega)]; exact f42
   generalize H4.set H1.length (Blk.row [.agg [.int .i64 5, .str r, .str t, .str v, .str lb, .int .i64 ek, .int .i64 en, .str es, .fs (eas.map encE), .fs ((keL ec a).map encS), .fs ((keL ec b).map encS), .str p, .fs (ps.map .str)]]) = H5 at *
   refine app_OV hko5.1 (fun i o l h => by cases h) (headOk_S acc) (by simp; omega) ?_
   rintro kv' H' hov' hle hfr
   have hkoN : ∀ j, j < N + 2 → kvne kvo j := fun j hj a b e => by have := (hko.2 j a b e).1; omega
   obtain ⟨g1, _⟩ := hfr N (by omega) (hkoN N (by omega))
   obtain ⟨g2, _⟩ := hfr (N + 1) (by omega) (hkoN (N + 1) (by omega))
   obtain ⟨g3, _⟩ := hfr H1.length (by omega) hkoL
   rw [h5N] at g1; rw [h5N1] at g2; rw [h5L] at g3
   have hkr6 := hkr5.frame (by omega) hle (fun id o l e => ⟨by have := (hko5.2 id o l e).1; omega, (hko5.2 id o l e).2⟩) (fun j hj hk => (hfr j hj hk).1)
   have hov6 : OV H' kv' ((acc ++ [keS ec (.mk 5 r t v lb (.mk ek en es eas) a b p ps)]).map encS) := by
    rw [List.map_append, hkeS, List.map_cons, List.map_nil, encS_mk]; exact hov'
   have hko6 := hko5.next (by omega) hkr5.inv.ov hov6 hfr
   generalize hth : thS ec (.mk 5 r t v lb (.mk ek en es eas) a b p ps) = th at *
   simp -implicitDefEqProofs only [h3, h4, h6, h9, h12, h13, h14, mid_lt hxs, mid_wrap hxs hlen, g1, g2, g3, ne_eq, not_false_eq_true, hls, hln, Nat.reduceMul, go_sem]
   repeat' (first | ((first | ((with_reducible refine cgR hpass ?_ ?_); (·simp [norefL, noref, nrb, g1, g2, norefL_encP, norefL_encS, norefL_str, norefL_encE, norefL_int, norefL_trues])) | ((with_reducible apply cgF); (·simp -implicitDefEqProofs only [List.map_cons, List.map_nil, g1, g2, norefL_encP, norefL_encS, norefL_str, norefL_encE, norefL_int, norefL_trues, ne_eq, not_false_eq_true, hls, hln, Nat.reduceMul, push_cast, go_sem_proc] <;> rfl); (with_reducible exact hpass); (·rfl)) | (with_reducible refine F_q2 ?_)); simp -implicitDefEqProofs only [h3, h4, h6, h9, h12, h13, h14, mid_lt hxs, mid_wrap hxs hlen, g1, g2, g3, ne_eq, not_false_eq_true, hls, hln, Nat.reduceMul, go_sem]) | (with_reducible refine Fork.mk ?_ ?_) | (with_reducible refine And.intro ?_ ?_) | ((with_reducible refine rpI ?_); simp -implicitDefEqProofs only [r287, ne_eq, not_false_eq_true, hls, hln, Nat.reduceMul, push_cast, go_sem_proc]) | intro _)
   ·rename_i hp
    have hp : th = false := by simpa using hp
    subst hp
    simp only [keL, hth, Bool.false_eq_true, if_false] at hke
    simp only [caL, hth, Bool.false_eq_true, if_false, List.append_nil] at hcb
    rw [← hke] at hko6
    have hcb' : cbs P.procs so (caL ec xs) = so4 := by rw [hcb, caS, cbs_app, cbs_app, ← hso4, ← hso3, hso2]
    rw [← hcb'] at hkr6
    exact fin H' kv4 kv' hkr6 hko6
   ·rename_i hp
    have hp : th = true := by simpa using hp
    subst hp
    simp only [keL, hth, if_true] at hke
    simp only [caL, hth, if_true] at hcb
    refine ⟨_, Nat.lt_succ_self _, pre ++ [.mk 5 r t v lb (.mk ek en es eas) a b p ps], rest, acc ++ [keS ec (.mk 5 r t v lb (.mk ek en es eas) a b p ps)], kv', kv4, so4, by simp [hxs], rfl, rfl, by simp, by rw [hke]; simp, ?_, hsok4, hkr6, hko6, by simp; omega⟩
    rw [hcb, cbs_app, caS, cbs_app, cbs_app, ← hso4, ← hso3, hso2]
  ·have hA2 := hA2 h5
   subst hA2
   have hL5 : ∀ X, (H4.set H1.length X)[H1.length]? = some X := fun X => by rw [List.getElem?_set]; simp; omega
   simp -implicitDefEqProofs only [h3, h4, h6, h9, h12, h13, h14, mid_lt hxs, mid_wrap hxs hlen, hg, fA1, fA2, fA3, h5, f21, f22, f23, f31, f32, f33, f41, f42, f43, hL5, ne_eq, not_false_eq_true, hls, hln, Nat.reduceMul, go_sem]
   repeat' (first | ((first | (with_reducible first | refine cgA ha ?_ | refine cgA hb ?_) | ((with_reducible refine cgR h30 ?_ ?_); (·simp [norefL, noref, nrb, norefL_encP, norefL_encS])) | ((with_reducible apply cgF); (·simp -implicitDefEqProofs only [List.map_cons, List.map_nil, norefL_encP, norefL_encS, ne_eq, not_false_eq_true, hls, hln, Nat.reduceMul, push_cast, go_sem_proc] <;> rfl); (with_reducible exact h30); (·rfl)) | (with_reducible refine F_q2 ?_)); simp -implicitDefEqProofs only [h3, h4, h6, h9, h12, h13, h14, mid_lt hxs, mid_wrap hxs hlen, hg, fA1, fA2, fA3, h5, f21, f22, f23, f31, f32, f33, f41, f42, f43, hL5, ne_eq, not_false_eq_true, hls, hln, Nat.reduceMul, go_sem]) | (with_reducible refine Fork.mk ?_ ?_) | (with_reducible refine And.intro ?_ ?_) | ((with_reducible refine rpI ?_); simp -implicitDefEqProofs only [r287, ne_eq, not_false_eq_true, hls, hln, Nat.reduceMul, push_cast, go_sem_proc]) | intro _)
   have hH5l : (H4.set H1.length (Blk.row [.agg [.int .i64 k, .str r, .str t, .str v, .str lb, .int .i64 ek, .int .i64 en, .str es, .fs (eas.map encE), .fs ((keL ec a).map encS), .fs ((keL ec b).map encS), .str p, .fs (ps.map .str)]])).length = H4.length := by simp
   have h5L := hL5 (Blk.row [.agg [.int .i64 k, .str r, .str t, .str v, .str lb, .int .i64 ek, .int .i64 en, .str es, .fs (eas.map encE), .fs ((keL ec a).map encS), .fs ((keL ec b).map encS), .str p, .fs (ps.map .str)]])
   have hkr5 := hkr4.setN (by omega) (id := H1.length) (by omega) k43 (Blk.row [.agg [.int .i64 k, .str r, .str t, .str v, .str lb, .int .i64 ek, .int .i64 en, .str es, .fs (eas.map encE), .fs ((keL ec a).map encS), .fs ((keL ec b).map encS), .str p, .fs (ps.map .str)]])
   have hko5 : KO (N + 2) (H4.set H1.length (Blk.row [.agg [.int .i64 k, .str r, .str t, .str v, .str lb, .int .i64 ek, .int .i64 en, .str es, .fs (eas.map encE), .fs ((keL ec a).map encS), .fs ((keL ec b).map encS), .str p, .fs (ps.map .str)]])) kv4 kvo (acc.map encS) := ⟨hko4.1.set hkoL, hko4.2⟩
   have h5N : (H4.set H1.length (Blk.row [.agg [.int .i64 k, .str r, .str t, .str v, .str lb, .int .i64 ek, .int .i64 en, .str es, .fs (eas.map encE), .fs ((keL ec a).map encS), .fs ((keL ec b).map encS), .str p, .fs (ps.map .str)]]))[N]? = some (Blk.row [.agg [.fs (P.procs.map encP), .fs (P.main.map encS)]]) := by rw [List.getElem?_set_ne (by omega)]; exact f41
   have h5N1 : (H4.set H1.length (Blk.row [.agg [.int .i64 k, .str r, .str t, .str v, .str lb, .int .i64 ek, .int .i64 en, .str es, .fs (eas.map encE), .fs ((keL ec a).map encS), .fs ((keL ec b).map encS), .str p, .fs (ps.map .str)]]))[N + 1]? = some (Blk.row [V.fmap (S0.map (.int .i64)) (trues S0)]) := by rw [List.getElem?_set_ne (by omega)]; exact f42
   generalize H4.set H1.length (Blk.row [.agg [.int .i64 k, .str r, .str t, .str v, .str lb, .int .i64 ek, .int .i64 en, .str es, .fs (eas.map encE), .fs ((keL ec a).map encS), .fs ((keL ec b).map encS), .str p, .fs (ps.map .str)]]) = H5 at *
   refine app_OV hko5.1 (fun i o l h => by cases h) (headOk_S acc) (by simp; omega) ?_
   rintro kv' H' hov' hle hfr
   have hkoN : ∀ j, j < N + 2 → kvne kvo j := fun j hj a b e => by have := (hko.2 j a b e).1; omega
   obtain ⟨g1, _⟩ := hfr N (by omega) (hkoN N (by omega))
   obtain ⟨g2, _⟩ := hfr (N + 1) (by omega) (hkoN (N + 1) (by omega))
   obtain ⟨g3, _⟩ := hfr H1.length (by omega) hkoL
   rw [h5N] at g1; rw [h5N1] at g2; rw [h5L] at g3
   have hkr6 := hkr5.frame (by omega) hle (fun id o l e => ⟨by have := (hko5.2 id o l e).1; omega, (hko5.2 id o l e).2⟩) (fun j hj hk => (hfr j hj hk).1)
   have hov6 : OV H' kv' ((acc ++ [keS ec (.mk k r t v lb (.mk ek en es eas) a b p ps)]).map encS) := by
    rw [List.map_append, hkeS, List.map_cons, List.map_nil, encS_mk]; exact hov'
   have hko6 := hko5.next (by omega) hkr5.inv.ov hov6 hfr
   generalize hth : thS ec (.mk k r t v lb (.mk ek en es eas) a b p ps) = th at *
   simp -implicitDefEqProofs only [h3, h4, h6, h9, h12, h13, h14, mid_lt hxs, mid_wrap hxs hlen, g1, g2, g3, ne_eq, not_false_eq_true, hls, hln, Nat.reduceMul, go_sem]
   repeat' (first | ((first | ((with_reducible refine cgR hpass ?_ ?_); (·simp [norefL, noref, nrb, g1, g2, norefL_encP, norefL_encS, norefL_str, norefL_encE, norefL_int, norefL_trues])) | ((with_reducible apply cgF); (·simp -implicitDefEqProofs only [List.map_cons, List.map_nil, g1, g2, norefL_encP, norefL_encS, norefL_str, norefL_encE, norefL_int, norefL_trues, ne_eq, not_false_eq_true, hls, hln, Nat.reduceMul, push_cast, go_sem_proc] <;> rfl); (with_reducible exact hpass); (·rfl)) | (with_reducible refine F_q2 ?_)); simp -implicitDefEqProofs only [h3, h4, h6, h9, h12, h13, h14, mid_lt hxs, mid_wrap hxs hlen, g1, g2, g3, ne_eq, not_false_eq_true, hls, hln, Nat.reduceMul, go_sem]) | (with_reducible refine Fork.mk ?_ ?_) | (with_reducible refine And.intro ?_ ?_) | ((with_reducible refine rpI ?_); simp -implicitDefEqProofs only [r287, ne_eq, not_false_eq_true, hls, hln, Nat.reduceMul, push_cast, go_sem_proc]) | intro _)
   ·rename_i hp
    have hp : th = false := by simpa using hp
    subst hp
    simp only [keL, hth, Bool.false_eq_true, if_false] at hke
    simp only [caL, hth, Bool.false_eq_true, if_false, List.append_nil] at hcb
    rw [← hke] at hko6
    have hcb' : cbs P.procs so (caL ec xs) = so4 := by rw [hcb, caS, cbs_app, cbs_app, ← hso4, ← hso3, hso2]
    rw [← hcb'] at hkr6
    exact fin H' kv4 kv' hkr6 hko6
   ·rename_i hp
    have hp : th = true := by simpa using hp
    subst hp
    simp only [keL, hth, if_true] at hke
    simp only [caL, hth, if_true] at hcb
    refine ⟨_, Nat.lt_succ_self _, pre ++ [.mk k r t v lb (.mk ek en es eas) a b p ps], rest, acc ++ [keS ec (.mk k r t v lb (.mk ek en es eas) a b p ps)], kv', kv4, so4, by simp [hxs], rfl, rfl, by simp, by rw [hke]; simp, ?_, hsok4, hkr6, hko6, by simp; omega⟩
    rw [hcb, cbs_app, caS, cbs_app, cbs_app, ← hso4, ← hso3, hso2]
theorem cnts_mem {s : St} : ∀ {l : List St}, s ∈ l → cnt s ≤ cnts l
 | [], h => by simp at h
 | x :: l, h => by
  simp only [cnts]
  rcases List.mem_cons.1 h with rfl | h
  ·omega
  ·have := cnts_mem h; omega
theorem t287 (P : Pla) (hpn : P.procs.length ≤ 1000000) (S0 : List Int) : ∀ (m : Nat) (l : List St), SizeOf.sizeOf l < m → okL P.procs l = true → cnts l ≤ 1000000 → ∀ (H : List Blk) (kv : V) (so : List Int × List Int), KInv H kv so → SOk P.procs.length so →
  ACall Tryz.prog 135 [encPl P, .fs (l.map encS), .fmap (S0.map (.int .i64)) (trues S0), .clos 134 [] [.ptr 3 0 0, .ptr 4 0 0]] H (ret1 (.fs ((keL (ecS P.procs S0) l).map encS)) (KH H kv so (cbs P.procs so (caL (ecS P.procs S0) l))))
 | 0, l, h => absurd h (Nat.not_lt_zero _)
 | m + 1, l, hm => fun hok hc H kv so hi hso => t287s P hpn S0 l hok (by have := len_cnts l; omega) (fun k r t v lb e a b p ps hmem H kv so hi hso => by
  have hs := List.sizeOf_lt_of_mem hmem
  simp only [St.mk.sizeOf_spec] at hs
  have hos := okL_mem hok _ hmem
  simp only [okS, Bool.and_eq_true] at hos
  have hcm := cnts_mem hmem
  simp only [cnt] at hcm
  exact ⟨t287 P hpn S0 m a (by omega) hos.2.1 (by omega) H kv so hi hso, t287 P hpn S0 m b (by omega) hos.2.2 (by omega) H kv so hi hso⟩) H kv so hi hso
theorem cbs_seen (X : List Pr) : ∀ (ks : List ByteArray) (so : List Int × List Int), (∀ x ∈ so.1, x ∈ (cbs X so ks).1) ∧ (∀ p ∈ ks, procI X p ∈ (cbs X so ks).1) ∧ (∀ x ∈ (cbs X so ks).1, x ∈ so.1 ∨ ∃ p ∈ ks, x = procI X p)
 | [], so => ⟨fun x h => h, fun p h => by simp at h, fun x h => .inl h⟩
 | p :: ks, so => by
  obtain ⟨h1, h2, h3⟩ := cbs_seen X ks (cb1 so (procI X p))
  have hc : cbs X so (p :: ks) = cbs X (cb1 so (procI X p)) ks := rfl
  have hin : procI X p ∈ (cb1 so (procI X p)).1 := by
   unfold cb1; split
   ·assumption
   ·simp
  have hmono : ∀ x ∈ so.1, x ∈ (cb1 so (procI X p)).1 := fun x hx => by
   unfold cb1; split
   ·exact hx
   ·simp [hx]
  have hback : ∀ x ∈ (cb1 so (procI X p)).1, x ∈ so.1 ∨ x = procI X p := fun x hx => by
   unfold cb1 at hx; split at hx
   ·exact .inl hx
   ·simpa using hx
  rw [hc]
  refine ⟨fun x hx => h1 x (hmono x hx), fun q hq => ?_, fun x hx => ?_⟩
  ·rcases List.mem_cons.1 hq with rfl | hq
   ·exact h1 _ hin
   ·exact h2 q hq
  ·rcases h3 x hx with h | ⟨q, hq, rfl⟩
   ·rcases hback x h with h | rfl
    ·exact .inl h
    ·exact .inr ⟨p, by simp, rfl⟩
   ·exact .inr ⟨q, by simp [hq], rfl⟩
theorem cbs_split (X : List Pr) (D : List Int) : ∀ (ks : List ByteArray) (so : List Int × List Int), so.1 = D ++ so.2 → (cbs X so ks).1 = D ++ (cbs X so ks).2
 | [], so, h => h
 | p :: ks, so, h => by
  have hc : cbs X so (p :: ks) = cbs X (cb1 so (procI X p)) ks := rfl
  rw [hc]
  refine cbs_split X D ks _ ?_
  unfold cb1; split
  ·exact h
  ·simp [h]
theorem callsIn_toE {X : List Pr} {n : Nat} {ks : List ByteArray} {S : List Int} (h : ∀ p ∈ ks, procI X p ∈ S) (hn : n = X.length) : callsIn X ks (toE n S) := by
 intro p hp i hi hl
 rw [toE_get _ _ _ (by omega)]
 have := h p hp
 rw [hi] at this
 simp [this]
structure QI (P : Pla) (ec : ByteArray → Bool) (D : List Int) (so : List Int × List Int) : Prop where
 ok : SOk P.procs.length so
 split : so.1 = D ++ so.2
 main : ∀ p ∈ caL ec P.main, procI P.procs p ∈ so.1
 done : ∀ i ∈ D, ∀ p ∈ caL ec (bodyAt P.procs i.toNat), procI P.procs p ∈ so.1
 low : ∀ C, ClR P ec C → ∀ x ∈ so.1, C[x.toNat]? = some true
theorem low_of {P : Pla} {ec : ByteArray → Bool} {C : List Bool} {ks : List ByteArray} (hC : ClR P ec C) (hks : callsIn P.procs ks C) (hp : ∀ p ∈ ks, 0 ≤ procI P.procs p) : ∀ p ∈ ks, C[(procI P.procs p).toNat]? = some true := by
 intro p h
 have h0 := hp p h
 exact hks p h _ (by omega) (procI_lt h0)
theorem QI.start {P : Pla} {ec : ByteArray → Bool} (hok : okP P) : QI P ec [] (cbs P.procs ([], []) (caL ec P.main)) := by
 have hpos := caL_pos (ec := ec) P.main hok.1
 obtain ⟨_, h2, h3⟩ := cbs_seen P.procs (caL ec P.main) ([], [])
 refine ⟨cbs_ok hpos ⟨SetP.nil _, Nat.le_refl _⟩, cbs_split P.procs [] _ ([], []) rfl, h2, fun i h => by simp at h, fun C hC x hx => ?_⟩
 rcases h3 x hx with h | ⟨p, hp, rfl⟩
 ·simp at h
 ·exact low_of hC hC.2.1 hpos p hp
theorem QI.pop {P : Pla} {ec : ByteArray → Bool} {D : List Int} {S O : List Int} {k : Int} (hok : okP P) (h : QI P ec D (S, k :: O)) :
  QI P ec (D ++ [k]) (cbs P.procs (S, O) (caL ec (bodyAt P.procs k.toNat))) := by
 have hpos := caL_pos (ec := ec) (bodyAt P.procs k.toNat) (okP_body hok _)
 have hs := h.split
 simp only at hs
 have hs' : S = (D ++ [k]) ++ O := by rw [hs]; simp
 obtain ⟨h1, h2, h3⟩ := cbs_seen P.procs (caL ec (bodyAt P.procs k.toNat)) (S, O)
 have hkS : k ∈ S := by rw [hs]; simp
 refine ⟨cbs_ok hpos ⟨h.ok.set, by have := h.ok.le; simp at this ⊢; omega⟩, cbs_split P.procs _ _ (S, O) hs', fun p hp => h1 _ (h.main p hp), fun i hi p hp => ?_, fun C hC x hx => ?_⟩
 ·rcases List.mem_append.1 hi with hi | hi
  ·exact h1 _ (h.done i hi p hp)
  ·simp at hi; subst hi; exact h2 p hp
 ·rcases h3 x hx with hx | ⟨p, hp, rfl⟩
  ·exact h.low C hC x hx
  ·exact low_of hC (hC.2.2 k.toNat (h.low C hC k hkS)) hpos p hp
theorem QI.fin {P : Pla} {ec : ByteArray → Bool} {D S : List Int} (h : QI P ec D (S, [])) : S = D ∧ ClR P ec (toE P.procs.length D) ∧ LoR P ec (toE P.procs.length D) := by
 have hs : S = D := by have := h.split; simpa using this
 subst hs
 refine ⟨rfl, ⟨toE_len _ _, callsIn_toE h.main rfl, fun i hi => ?_⟩, ⟨toE_len _ _, fun C hC i hi => ?_⟩⟩
 ·have hl := (List.getElem?_eq_some_iff.1 hi).1
  rw [toE_len] at hl
  rw [toE_get _ _ _ hl] at hi
  have hm : (i : Int) ∈ S := by simpa using hi
  exact callsIn_toE (fun p hp => h.done i hm p (by simpa using hp)) rfl
 ·have hl := (List.getElem?_eq_some_iff.1 hi).1
  rw [toE_len] at hl
  rw [toE_get _ _ _ hl] at hi
  have hm : (i : Int) ∈ S := by simpa using hi
  simpa using h.low C hC i hm
theorem reW_cl (P : Pla) (hok : okP P) : ClR P (ecE P.procs (endsOf P.procs)) (reW P).procs ∧ LoR P (ecE P.procs (endsOf P.procs)) (reW P).procs := by
 have hp := wk_post P (ecE P.procs (endsOf P.procs)) (mu P (re0 P) P.main + 1) P.main 0 (re0 P) (Nat.lt_succ_self _) (by simp [re0])
 have hrw : wk P (ecE P.procs (endsOf P.procs)) (mu P (re0 P) P.main + 1) P.main 0 (re0 P) = reW P := rfl
 rw [hrw] at hp
 have h0 : ∀ i : Nat, (re0 P).procs[i]? ≠ some true := fun i h => by
  simp only [re0] at h
  rw [List.getElem?_replicate] at h; split at h <;> cases h
 refine ⟨⟨reW_len P, hp.calls, fun i hi => (hp.new i hi).resolve_left (h0 i)⟩, ⟨reW_len P, fun C hC i hi => hp.low C (fun i h => hC.2.2 i h) hC.2.1 (fun i h => absurd h (h0 i)) i hi⟩⟩
theorem QI.reach {P : Pla} {D S : List Int} (hok : okP P) (h : QI P (ecE P.procs (endsOf P.procs)) D (S, [])) : toE P.procs.length D = (reW P).procs :=
 reach_uniq h.fin.2.1 h.fin.2.2 (reW_cl P hok).1 (reW_cl P hok).2
theorem reW_steps (P : Pla) (x : Int) : x ∈ (reW P).steps ↔ x ∈ viL (ecE P.procs (endsOf P.procs)) P.main 0 ∨ ∃ i : Nat, (reW P).procs[i]? = some true ∧ x ∈ viL (ecE P.procs (endsOf P.procs)) (bodyAt P.procs i) (offAt P i) := by
 have hp := wk_post P (ecE P.procs (endsOf P.procs)) (mu P (re0 P) P.main + 1) P.main 0 (re0 P) (Nat.lt_succ_self _) (by simp [re0])
 have hrw : wk P (ecE P.procs (endsOf P.procs)) (mu P (re0 P) P.main + 1) P.main 0 (re0 P) = reW P := rfl
 rw [hrw] at hp
 have h0 : ∀ i : Nat, (re0 P).procs[i]? ≠ some true := fun i h => by
  simp only [re0] at h
  rw [List.getElem?_replicate] at h; split at h <;> cases h
 rw [hp.steps]
 simp only [re0, List.not_mem_nil, false_or]
 constructor
 ·rintro (h | ⟨i, a, _, c⟩)
  ·exact .inl h
  ·exact .inr ⟨i, a, c⟩
 ·rintro (h | ⟨i, a, c⟩)
  ·exact .inl h
  ·exact .inr ⟨i, a, h0 i, c⟩
theorem t289 (ks vs : List V) (hk : norefL ks = true) (hv : norefL vs = true) (hfk : ∀ H n, fzL (fz H (n + 1)) ks = some ks) (hfv : ∀ H n, fzL (fz H (n + 1)) vs = some vs) : PCall Tryz.prog 137 [.fmap ks vs] (·= .clos 186 [] [.rptr [.fmap ks vs]]) := by
 refine PCall.intro c289 100 (by simp) 20 ?_
 simp -implicitDefEqProofs only [s289, go_sem]
 simp -implicitDefEqProofs only [r289, hk, hv, Bool.and_true, Bool.and_self, if_true, push_cast, go_sem_proc]
def asc (n : Nat) (D : List Int) : List Int := ((List.range n).filter fun (i : Nat) => decide ((i : Int) ∈ D)).map fun (i : Nat) => (i : Int)
theorem kget (f : Int → V) (k : Int) : ∀ {D : List Int}, k ∈ D → mget (D.map (.int .i64)) (D.map f) (.int .i64 k) = some (f k)
 | [], h => by simp at h
 | x :: D, h => by
  simp only [List.map_cons, mget, keq, keq1, if_true, Option.some.injEq, decide_eq_true_eq]
  by_cases hk : k = x
  ·subst hk; simp
  ·rw [if_neg hk]
   exact kget f k ((List.mem_cons.1 h).resolve_left hk)
theorem kputK (k : Int) {D : List Int} (h : k ∉ D) : mputK (D.map (.int .i64)) (.int .i64 k) = (D ++ [k]).map (.int .i64) := by
 rw [mputK_trues, addN, if_neg (by simpa using h)]
theorem kputV (f : Int → V) (k : Int) (v : V) : ∀ {D : List Int}, k ∉ D → mputV (D.map (.int .i64)) (D.map f) (.int .i64 k) v = D.map f ++ [v]
 | [], h => by simp [mputV]
 | x :: D, h => by
  have hx : k ≠ x := fun e => h (by simp [e])
  have ih := kputV f k v (D := D) (fun e => h (by simp [e]))
  simp only [List.map_cons, mputV, keq, keq1, if_true, Option.some.injEq, decide_eq_true_eq, hx, if_false, ih, List.cons_append]
noncomputable def rePl (P : Pla) (D : List Int) : Pla := ⟨(asc P.procs.length D).map fun i => match P.procs[i.toNat]? with
 | some q => ⟨q.name, q.roles, keL (ecE P.procs (endsOf P.procs)) q.steps⟩
 | none => ⟨⟨#[]⟩, [], []⟩, keL (ecE P.procs (endsOf P.procs)) P.main⟩
theorem mres_some (z v : V) : mres false z (some v) = v := rfl
theorem asc_mem {n : Nat} {D : List Int} {k : Int} (h : k ∈ asc n D) : ∃ j : Nat, k = j ∧ j < n ∧ (j : Int) ∈ D := by
 simp only [asc, List.mem_map, List.mem_filter, List.mem_range, decide_eq_true_eq] at h
 obtain ⟨j, ⟨h1, h2⟩, rfl⟩ := h
 exact ⟨j, rfl, h1, h2⟩
theorem asc_len (n : Nat) (D : List Int) : (asc n D).length ≤ n := by
 have := List.length_filter_le (fun (i : Nat) => decide ((i : Int) ∈ D)) (List.range n)
 simp only [asc, List.length_map]
 simpa using this
def prK (P : Pla) (ec : ByteArray → Bool) (i : Int) : Pr := match P.procs[i.toNat]? with
 | some q => ⟨q.name, q.roles, keL ec q.steps⟩
 | none => ⟨⟨#[]⟩, [], []⟩
theorem KInv.set {H : List Blk} {kv : V} {so : List Int × List Int} (h : KInv H kv so) {i : Nat} {x : Blk} (hi : 4 < i) (hk : kvne kv i) : KInv (H.set i x) kv so := by
 have hg : ∀ j, j ≠ i → (H.set i x)[j]? = H[j]? := fun j hj => by rw [List.getElem?_set_ne (fun e => hj e.symm)]
 refine ⟨by rw [hg _ (by omega)]; exact h.seen, by rw [hg _ (by omega)]; exact h.cell, by rw [hg _ (by omega)]; exact h.open_, ?_, h.n2, h.n3, h.n4⟩
 rcases h.ov with h | ⟨id, off, es, h1, h2, h3⟩
 ·exact .inl h
 ·refine .inr ⟨id, off, es, h1, ?_, h3⟩
  rw [hg _ (fun e => hk off so.2.length (by rw [h1, e]))]; exact h2
set_option maxRecDepth 20000 in
set_option maxHeartbeats 4000000 in
theorem t237 (P : Pla) (hc : total P ≤ 1000000) (hpn : P.procs.length ≤ 1000000) (hok : okP P) (hro : ∀ q ∈ P.procs, q.roles.length ≤ 1000000)
  (h288 : ∀ (D : List Int) (f : Int → V), SetP P.procs.length D → norefL (D.map f) = true → PCall Tryz.prog 136 [.clos 186 [] [.rptr [.fmap (D.map (.int .i64)) (D.map f)]]] (·= .fs ((asc P.procs.length D).map (.int .i64)))) :
  PCall Tryz.prog 57 [encPl P] (fun r => ∃ D, SetP P.procs.length D ∧ toE P.procs.length D = (reW P).procs ∧ r = .tup [encPl (rePl P D), .fs ((asc P.procs.length D).map (.int .i64))]) := by
 have h233 := t233 P hpn
 have hPl : encPl P = .agg [.fs (P.procs.map encP), .fs (P.main.map encS)] := rfl
 have hT : total P = cnts P.main + cntP P.procs := rfl
 refine PCall.intro c237 800 (by simp) 20 ?_
 rw [hPl] at h233 ⊢
 simp -implicitDefEqProofs only [s237, go_sem]
 refine call_pureR (by simp [norefL, noref, norefL_encP, norefL_encS]) h233 ?_
 rintro _ ⟨S0, hS0, rfl⟩
 have hec : ∀ p, ecS P.procs S0 p = ecE P.procs (endsOf P.procs) p := hS0.ec
 have hecf : ecS P.procs S0 = ecE P.procs (endsOf P.procs) := funext hec
 have h287 := fun l hl hcl H kv so hi hso => t287 P hpn S0 _ l (Nat.lt_succ_self _) hl hcl H kv so hi hso
 rw [hecf, hPl] at h287
 have hm := h287 P.main hok.1 (by omega) [.row [.agg [.fs (P.procs.map encP), .fs (P.main.map encS)]], .row [.agg [.nils, .nils]], .mp [] [], .row [.map 2], .row [.nils]] .nils ([], [])
  ⟨rfl, rfl, rfl, .inl ⟨rfl, rfl⟩, (fun a b h => by cases h), (fun a b h => by cases h), (fun a b h => by cases h)⟩ ⟨SetP.nil _, Nat.le_refl _⟩
 have hq0 := QI.start (ec := ecE P.procs (endsOf P.procs)) hok
 have hor := cbs_or P.procs (caL (ecE P.procs (endsOf P.procs)) P.main) ([], [])
 have hk1 := KH.kr (H := [.row [.agg [.fs (P.procs.map encP), .fs (P.main.map encS)]], .row [.agg [.nils, .nils]], .mp [] [], .row [.map 2], .row [.nils]]) (kv := .nils) (so := ([], []))
  ⟨rfl, rfl, rfl, .inl ⟨rfl, rfl⟩, (fun a b h => by cases h), (fun a b h => by cases h), (fun a b h => by cases h)⟩ hor.2.1 hor.2.2
 generalize cbs P.procs ([], []) (caL (ecE P.procs (endsOf P.procs)) P.main) = so1 at *
 generalize KH [.row [.agg [.fs (P.procs.map encP), .fs (P.main.map encS)]], .row [.agg [.nils, .nils]], .mp [] [], .row [.map 2], .row [.nils]] .nils ([], []) so1 = H1 at *
 generalize KVl [.row [.agg [.fs (P.procs.map encP), .fs (P.main.map encS)]], .row [.agg [.nils, .nils]], .mp [] [], .row [.map 2], .row [.nils]] .nils ([], []) so1 = kv1 at *
 have hl1 := hk1.len
 obtain ⟨g0, k0⟩ := hk1.get (j := 0) (by simp) (by omega) (by omega) (fun a b h => by cases h)
 obtain ⟨g1, k1⟩ := hk1.get (j := 1) (by simp) (by omega) (by omega) (fun a b h => by cases h)
 simp only [List.getElem?_cons_zero, List.getElem?_cons_succ] at g0 g1
 simp only [List.length_cons, List.length_nil] at hl1
 generalize hec2 : ecE P.procs (endsOf P.procs) = ec at *
 have hgl : ∀ l : List Blk, (H1 ++ l)[0]? = some (Blk.row [.agg [.fs (P.procs.map encP), .fs (P.main.map encS)]]) := fun l => by rw [List.getElem?_append_left (by omega)]; exact g0
 simp -implicitDefEqProofs only [go_sem]
 repeat' (first | ((first | (with_reducible refine cgA hm ?_) | (with_reducible refine F_q2 ?_)); simp -implicitDefEqProofs only [hgl, go_sem]) | (with_reducible refine Fork.mk ?_ ?_) | (with_reducible refine And.intro ?_ ?_) | ((with_reducible refine rpI ?_); simp -implicitDefEqProofs only [r237, push_cast, go_sem_proc]) | intro _)
 have hn2 : KInv (H1 ++ [Blk.row [.agg [.nils, .fs ((keL ec P.main).map encS)]], Blk.mp [] []]) kv1 so1 := hk1.inv.grow (fun j hj => by rw [List.getElem?_append_left hj])
 refine F_loop (fun m e H => ∃ D so kv, D.length + m = P.procs.length ∧ QI P ec D so ∧ KInv H kv so ∧ H1.length + 2 ≤ H.length ∧ H[0]? = some (Blk.row [.agg [.fs (P.procs.map encP), .fs (P.main.map encS)]]) ∧ H[1]? = some (Blk.row [.agg [.nils, .nils]]) ∧
  H[H1.length]? = some (Blk.row [.agg [.nils, .fs ((keL ec P.main).map encS)]]) ∧ H[H1.length + 1]? = some (Blk.mp (D.map (.int .i64)) (D.map fun k => .fs ((keL ec (bodyAt P.procs k.toNat)).map encS))) ∧ kvne kv 0 ∧ kvne kv 1 ∧ kvne kv H1.length ∧ kvne kv (H1.length + 1) ∧
  e 1 = .ptr 0 0 0 ∧ e 2 = .ptr 1 0 0 ∧ e 4 = .fmap (S0.map (.int .i64)) (trues S0) ∧ e 6 = .ptr 4 0 0 ∧ e 7 = .clos 134 [] [.ptr 3 0 0, .ptr 4 0 0] ∧ e 8 = .ptr H1.length 0 0 ∧ e 9 = .map (H1.length + 1)) P.procs.length
  ⟨[], so1, kv1, by simp, hq0, hn2, by simp, by rw [List.getElem?_append_left (by omega)]; exact g0, by rw [List.getElem?_append_left (by omega)]; exact g1, by simp, by rw [List.getElem?_append_right (by omega)]; simp, k0, k1, hk1.inv.ov.ne_of (Nat.le_refl _), hk1.inv.ov.ne_of (by omega), by simp [upd, env0], by simp [upd, env0], by simp [upd, env0], by simp [upd, env0], by simp [upd, env0], by simp [upd, env0], by simp [upd, env0]⟩ ?_
 clear hn2 k0 k1 g0 g1 hgl hm hor hq0
 rintro m e H ⟨D, so, kv, hDm, hq, hi, hHl, g0, g1, gM, gM1, k0, k1, kM, kM1, h1, h2, h4, h6, h7, h8, h9⟩
 have h4g := hi.open_
 rcases hi.ov with ⟨hO, rfl⟩ | ⟨id, off, es, rfl, hid, hne, hoff, hdr⟩
 ·simp -implicitDefEqProofs only [h1, h2, h4, h6, h7, h8, h9, h4g, Int.lt_irrefl, decide_false, go_sem]
  obtain ⟨S, O⟩ := so
  simp only at hO
  subst hO
  have hfin := hq.fin
  obtain ⟨hSD, _, _⟩ := hfin
  have hR := QI.reach hok (by rw [hec2]; exact hq)
  have hset : SetP P.procs.length D := by rw [← hSD]; exact hq.ok.set
  have hnv : norefL (D.map fun k => .fs ((keL ec (bodyAt P.procs k.toNat)).map encS)) = true := norefL_mapf (fun x => by simp [noref, norefL_encS]) D
  have hfv : ∀ (H : List Blk) (n : Nat), fzL (fz H (n + 1)) (D.map fun k => .fs ((keL ec (bodyAt P.procs k.toNat)).map encS)) = some (D.map fun k => .fs ((keL ec (bodyAt P.procs k.toNat)).map encS)) := fun H n => fzL_map _ _ (fun x => by rw [fz_fs]; simp [norefL_encS]) D
  have h289 := t289 _ _ (norefL_int D) hnv (fun H n => fz_ints H n D) hfv
  have h288 := h288 D _ hset hnv
  refine ⟨[H1.length + 1], .fmap (D.map (.int .i64)) (D.map fun k => .fs ((keL ec (bodyAt P.procs k.toNat)).map encS)), ?_, ?_⟩
  ·rw [fz_map, keepL_get, gM1]
   simp [fzQ_mp, fz_ints, hfv]
  have hkl : killL [H1.length + 1] H = H.set (H1.length + 1) .dead := rfl
  rw [hkl]
  have d0 : (H.set (H1.length + 1) .dead)[0]? = some (Blk.row [.agg [.fs (P.procs.map encP), .fs (P.main.map encS)]]) := by rw [List.getElem?_set_ne (by omega)]; exact g0
  have d1 : (H.set (H1.length + 1) .dead)[1]? = some (Blk.row [.agg [.nils, .nils]]) := by rw [List.getElem?_set_ne (by omega)]; exact g1
  have dM : (H.set (H1.length + 1) .dead)[H1.length]? = some (Blk.row [.agg [.nils, .fs ((keL ec P.main).map encS)]]) := by rw [List.getElem?_set_ne (by omega)]; exact gM
  have dl : H1.length + 2 ≤ (H.set (H1.length + 1) .dead).length := by simpa using hHl
  generalize H.set (H1.length + 1) .dead = HD at *
  repeat' (first | ((first | ((with_reducible first | refine cgR h289 ?_ ?_ | refine cgR h288 ?_ ?_); (·simp [norefL, noref, nrb, hfv, norefL_int, hnv])) | ((with_reducible apply cgF); (·simp -implicitDefEqProofs only [List.map_cons, List.map_nil, hfv, norefL_int, hnv, push_cast, go_sem_proc] <;> rfl); (with_reducible first | exact h289 | exact h288); (·rfl)) | (with_reducible refine F_q2 ?_)); simp -implicitDefEqProofs only [h1, h2, h4, h6, h7, h8, h9, go_sem]) | (with_reducible refine Fork.mk ?_ ?_) | (with_reducible refine And.intro ?_ ?_) | ((with_reducible refine rpI ?_); simp -implicitDefEqProofs only [r237, push_cast, go_sem_proc]) | intro _)
  rename_i hlenK
  have hal := asc_len P.procs.length D
  refine F_loop (fun m e H => ∃ pre post kvp, asc P.procs.length D = pre ++ post ∧ m = post.length ∧ e 1 = .ptr 0 0 0 ∧ e 2 = .ptr 1 0 0 ∧ e 8 = .ptr H1.length 0 0 ∧ e 9 = .fmap (D.map (.int .i64)) (D.map fun k => .fs ((keL ec (bodyAt P.procs k.toNat)).map encS)) ∧ e 11 = .fs ((asc P.procs.length D).map (.int .i64)) ∧ e 50 = .fs ((asc P.procs.length D).map (.int .i64)) ∧ e 51 = .int .i64 (asc P.procs.length D).length ∧ e 52 = .int .i64 pre.length ∧
   H[0]? = some (Blk.row [.agg [.fs (P.procs.map encP), .fs (P.main.map encS)]]) ∧ H[1]? = some (Blk.row [.agg [.nils, .nils]]) ∧ H[H1.length]? = some (Blk.row [.agg [kvp, .fs ((keL ec P.main).map encS)]]) ∧ OV H kvp ((pre.map (prK P ec)).map encP) ∧ kvne kvp 0 ∧ kvne kvp 1 ∧ kvne kvp H1.length) (asc P.procs.length D).length
   ⟨[], _, .nils, rfl, rfl, by simp [upd, h1], by simp [upd, h2], by simp [upd, h8], by simp [upd], by simp [upd], by simp [upd], by simp [upd], by simp [upd], d0, d1, dM, .inl ⟨rfl, rfl⟩, (fun a b h => by cases h), (fun a b h => by cases h), (fun a b h => by cases h)⟩ ?_
  clear d0 d1 dM dl h1 h2 h4 h6 h7 h8 h9 g0 g1 gM gM1
  rintro m e H ⟨pre, post, kvp, hks, rfl, h1, h2, h8, h9, h11, h50, h51, h52, d0, d1, dM, hov, k0, k1, kM⟩
  have hc1 := hov.one
  have hone : V.one kvp = true := hov.vone
  simp only [V.one] at hone
  have hMl := (List.getElem?_eq_some_iff.1 dM).1
  cases post with
  | nil =>
   have hpx : pre = asc P.procs.length D := by rw [hks]; simp
   rw [hpx] at hov
   have hs1 : ∀ X, (H.set 1 X)[1]? = some X := fun X => by rw [List.getElem?_set]; simp; omega
   simp -implicitDefEqProofs only [h1, h2, h8, h9, h11, h50, h51, h52, mid_not hks, d0, d1, dM, hc1, hone, hs1, go_sem]
   have hz : ∀ X, fz (H.set 1 X) 18 kvp = some (.fs (((asc P.procs.length D).map (prK P ec)).map encP)) := fun X => fz_OV (f := encP) (n := 16) (fun H x => fz_encP H 15 x) (hov.set (x := X) k1)
   simp -implicitDefEqProofs only [r237, h2, h11, hs1, hc1, hz, norefL_int, push_cast, go_sem_proc]
   refine ⟨D, hset, hR, ?_⟩
   unfold rePl
   rw [hec2]
   rfl
  | cons k post =>
   have hkm : k ∈ asc P.procs.length D := by rw [hks]; simp
   obtain ⟨j, rfl, hjn, hjD⟩ := asc_mem hkm
   have hgk := mid_get (V.int .i64) hks
   have hgP : (P.procs.map encP).getD j .any = .agg [.str P.procs[j].name, .fs (P.procs[j].roles.map .str), .fs (P.procs[j].steps.map encS)] := by
    simp [List.getD, hjn, encP]
   have hix : ixP (j : Int) P.procs.length := ⟨by omega, by simp; omega⟩
   have hmg := kget (fun k => .fs ((keL ec (bodyAt P.procs k.toNat)).map encS)) (j : Int) hjD
   have hbq : bodyAt P.procs ((j : Int)).toNat = P.procs[j].steps := by simp [bodyAt, hjn]
   rw [hbq] at hmg
   have hpr : encP (prK P ec (j : Int)) = .agg [.str P.procs[j].name, .fs (P.procs[j].roles.map .str), .fs ((keL ec P.procs[j].steps).map encS)] := by
    simp [prK, hjn, encP]
   have h46 := t46 P.procs[j].roles (hro _ (List.getElem_mem hjn))
   have fM : ∀ l : List Blk, (H ++ l)[H1.length]? = some (Blk.row [.agg [kvp, .fs ((keL ec P.main).map encS)]]) := fun l => by rw [List.getElem?_append_left hMl]; exact dM
   generalize P.procs[j] = q at *
   have hw52 := mid_wrap hks hlenK
   have hpl : pre.length < (asc P.procs.length D).length := by rw [hks]; simp
   simp -implicitDefEqProofs only [h1, h2, h8, h9, h11, h50, h51, h52, mid_lt hks, hw52, d0, d1, dM, fM, hc1, hone, hgk, hgP, hix, hjn, kOk_int, hmg, mres_some, go_sem]
   repeat' (first | ((first | ((with_reducible refine cgR h46 ?_ ?_); (·simp [norefL, noref, nrb])) | ((with_reducible apply cgF); (·simp -implicitDefEqProofs only [List.map_cons, List.map_nil, push_cast, go_sem_proc] <;> rfl); (with_reducible exact h46); (·rfl)) | (with_reducible refine F_q2 ?_)); simp -implicitDefEqProofs only [h1, h2, h8, h9, h11, h50, h51, h52, mid_lt hks, hw52, d0, d1, dM, fM, hc1, hone, hgk, hgP, hix, hjn, kOk_int, hmg, mres_some, go_sem]) | (with_reducible refine Fork.mk ?_ ?_) | (with_reducible refine And.intro ?_ ?_) | ((with_reducible refine rpI ?_); simp -implicitDefEqProofs only [r237, push_cast, go_sem_proc]) | intro _)
   refine app_OV (hov.app _) (fun i o l h => by cases h) (headOk_P _) (by simp; omega) ?_
   rintro kv' H' hov' hl' hfr
   obtain ⟨a0, b0⟩ := hfr 0 (by simp) k0
   obtain ⟨a1, b1⟩ := hfr 1 (by simp; omega) k1
   obtain ⟨aM, bM⟩ := hfr H1.length (by simp; omega) kM
   rw [List.getElem?_append_left (by omega)] at a0 a1 aM
   rw [d0] at a0; rw [d1] at a1; rw [dM] at aM
   simp only [List.length_append, List.length_cons, List.length_nil] at hl'
   have hc2 := hov'.one
   have hone2 : V.one kv' = true := hov'.vone
   simp only [V.one] at hone2
   simp -implicitDefEqProofs only [h1, h2, h8, h9, h11, h50, h51, h52, hw52, aM, hc2, hone2, go_sem]
   have hMl' : H1.length < H'.length := by omega
   refine ⟨post.length, Nat.lt_succ_self _, pre ++ [(j : Int)], post, kv', by rw [hks]; simp, rfl, by simp, ?_, ?_, ?_, ?_, b0, b1, bM⟩
   ·rw [List.getElem?_set_ne (by omega)]; exact a0
   ·rw [List.getElem?_set_ne (by omega)]; exact a1
   ·rw [List.getElem?_set]; simp [hMl']
   ·rw [List.map_append, List.map_append, List.map_cons, List.map_nil, List.map_cons, List.map_nil, hpr]
    exact hov'.set bM
 ·obtain ⟨S, O⟩ := so
  cases O with
  | nil =>
   simp -implicitDefEqProofs only [h1, h2, h4, h6, h7, h8, h9, h4g, List.length_nil, Int.ofNat_zero, Int.lt_irrefl, decide_false, go_sem]
   intro _
   have hfin := hq.fin
   obtain ⟨hSD, _, _⟩ := hfin
   have hR := QI.reach hok (by rw [hec2]; exact hq)
   have hset : SetP P.procs.length D := by rw [← hSD]; exact hq.ok.set
   have hnv : norefL (D.map fun k => .fs ((keL ec (bodyAt P.procs k.toNat)).map encS)) = true := norefL_mapf (fun x => by simp [noref, norefL_encS]) D
   have hfv : ∀ (H : List Blk) (n : Nat), fzL (fz H (n + 1)) (D.map fun k => .fs ((keL ec (bodyAt P.procs k.toNat)).map encS)) = some (D.map fun k => .fs ((keL ec (bodyAt P.procs k.toNat)).map encS)) := fun H n => fzL_map _ _ (fun x => by rw [fz_fs]; simp [norefL_encS]) D
   have h289 := t289 _ _ (norefL_int D) hnv (fun H n => fz_ints H n D) hfv
   have h288 := h288 D _ hset hnv
   refine ⟨[H1.length + 1], .fmap (D.map (.int .i64)) (D.map fun k => .fs ((keL ec (bodyAt P.procs k.toNat)).map encS)), ?_, ?_⟩
   ·rw [fz_map, keepL_get, gM1]
    simp [fzQ_mp, fz_ints, hfv]
   have hkl : killL [H1.length + 1] H = H.set (H1.length + 1) .dead := rfl
   rw [hkl]
   have d0 : (H.set (H1.length + 1) .dead)[0]? = some (Blk.row [.agg [.fs (P.procs.map encP), .fs (P.main.map encS)]]) := by rw [List.getElem?_set_ne (by omega)]; exact g0
   have d1 : (H.set (H1.length + 1) .dead)[1]? = some (Blk.row [.agg [.nils, .nils]]) := by rw [List.getElem?_set_ne (by omega)]; exact g1
   have dM : (H.set (H1.length + 1) .dead)[H1.length]? = some (Blk.row [.agg [.nils, .fs ((keL ec P.main).map encS)]]) := by rw [List.getElem?_set_ne (by omega)]; exact gM
   have dl : H1.length + 2 ≤ (H.set (H1.length + 1) .dead).length := by simpa using hHl
   generalize H.set (H1.length + 1) .dead = HD at *
   repeat' (first | ((first | ((with_reducible first | refine cgR h289 ?_ ?_ | refine cgR h288 ?_ ?_); (·simp [norefL, noref, nrb, hfv, norefL_int, hnv])) | ((with_reducible apply cgF); (·simp -implicitDefEqProofs only [List.map_cons, List.map_nil, hfv, norefL_int, hnv, push_cast, go_sem_proc] <;> rfl); (with_reducible first | exact h289 | exact h288); (·rfl)) | (with_reducible refine F_q2 ?_)); simp -implicitDefEqProofs only [h1, h2, h4, h6, h7, h8, h9, go_sem]) | (with_reducible refine Fork.mk ?_ ?_) | (with_reducible refine And.intro ?_ ?_) | ((with_reducible refine rpI ?_); simp -implicitDefEqProofs only [r237, push_cast, go_sem_proc]) | intro _)
   rename_i hlenK
   have hal := asc_len P.procs.length D
   refine F_loop (fun m e H => ∃ pre post kvp, asc P.procs.length D = pre ++ post ∧ m = post.length ∧ e 1 = .ptr 0 0 0 ∧ e 2 = .ptr 1 0 0 ∧ e 8 = .ptr H1.length 0 0 ∧ e 9 = .fmap (D.map (.int .i64)) (D.map fun k => .fs ((keL ec (bodyAt P.procs k.toNat)).map encS)) ∧ e 11 = .fs ((asc P.procs.length D).map (.int .i64)) ∧ e 50 = .fs ((asc P.procs.length D).map (.int .i64)) ∧ e 51 = .int .i64 (asc P.procs.length D).length ∧ e 52 = .int .i64 pre.length ∧
    H[0]? = some (Blk.row [.agg [.fs (P.procs.map encP), .fs (P.main.map encS)]]) ∧ H[1]? = some (Blk.row [.agg [.nils, .nils]]) ∧ H[H1.length]? = some (Blk.row [.agg [kvp, .fs ((keL ec P.main).map encS)]]) ∧ OV H kvp ((pre.map (prK P ec)).map encP) ∧ kvne kvp 0 ∧ kvne kvp 1 ∧ kvne kvp H1.length) (asc P.procs.length D).length
    ⟨[], _, .nils, rfl, rfl, by simp [upd, h1], by simp [upd, h2], by simp [upd, h8], by simp [upd], by simp [upd], by simp [upd], by simp [upd], by simp [upd], d0, d1, dM, .inl ⟨rfl, rfl⟩, (fun a b h => by cases h), (fun a b h => by cases h), (fun a b h => by cases h)⟩ ?_
   clear d0 d1 dM dl h1 h2 h4 h6 h7 h8 h9 g0 g1 gM gM1
   rintro m e H ⟨pre, post, kvp, hks, rfl, h1, h2, h8, h9, h11, h50, h51, h52, d0, d1, dM, hov, k0, k1, kM⟩
   have hc1 := hov.one
   have hone : V.one kvp = true := hov.vone
   simp only [V.one] at hone
   have hMl := (List.getElem?_eq_some_iff.1 dM).1
   cases post with
   | nil =>
    have hpx : pre = asc P.procs.length D := by rw [hks]; simp
    rw [hpx] at hov
    have hs1 : ∀ X, (H.set 1 X)[1]? = some X := fun X => by rw [List.getElem?_set]; simp; omega
    simp -implicitDefEqProofs only [h1, h2, h8, h9, h11, h50, h51, h52, mid_not hks, d0, d1, dM, hc1, hone, hs1, go_sem]
    have hz : ∀ X, fz (H.set 1 X) 18 kvp = some (.fs (((asc P.procs.length D).map (prK P ec)).map encP)) := fun X => fz_OV (f := encP) (n := 16) (fun H x => fz_encP H 15 x) (hov.set (x := X) k1)
    simp -implicitDefEqProofs only [r237, h2, h11, hs1, hc1, hz, norefL_int, push_cast, go_sem_proc]
    refine ⟨D, hset, hR, ?_⟩
    unfold rePl
    rw [hec2]
    rfl
   | cons k post =>
    have hkm : k ∈ asc P.procs.length D := by rw [hks]; simp
    obtain ⟨j, rfl, hjn, hjD⟩ := asc_mem hkm
    have hgk := mid_get (V.int .i64) hks
    have hgP : (P.procs.map encP).getD j .any = .agg [.str P.procs[j].name, .fs (P.procs[j].roles.map .str), .fs (P.procs[j].steps.map encS)] := by
     simp [List.getD, hjn, encP]
    have hix : ixP (j : Int) P.procs.length := ⟨by omega, by simp; omega⟩
    have hmg := kget (fun k => .fs ((keL ec (bodyAt P.procs k.toNat)).map encS)) (j : Int) hjD
    have hbq : bodyAt P.procs ((j : Int)).toNat = P.procs[j].steps := by simp [bodyAt, hjn]
    rw [hbq] at hmg
    have hpr : encP (prK P ec (j : Int)) = .agg [.str P.procs[j].name, .fs (P.procs[j].roles.map .str), .fs ((keL ec P.procs[j].steps).map encS)] := by
     simp [prK, hjn, encP]
    have h46 := t46 P.procs[j].roles (hro _ (List.getElem_mem hjn))
    have fM : ∀ l : List Blk, (H ++ l)[H1.length]? = some (Blk.row [.agg [kvp, .fs ((keL ec P.main).map encS)]]) := fun l => by rw [List.getElem?_append_left hMl]; exact dM
    generalize P.procs[j] = q at *
    have hw52 := mid_wrap hks hlenK
    have hpl : pre.length < (asc P.procs.length D).length := by rw [hks]; simp
    simp -implicitDefEqProofs only [h1, h2, h8, h9, h11, h50, h51, h52, mid_lt hks, hw52, d0, d1, dM, fM, hc1, hone, hgk, hgP, hix, hjn, kOk_int, hmg, mres_some, go_sem]
    repeat' (first | ((first | ((with_reducible refine cgR h46 ?_ ?_); (·simp [norefL, noref, nrb])) | ((with_reducible apply cgF); (·simp -implicitDefEqProofs only [List.map_cons, List.map_nil, push_cast, go_sem_proc] <;> rfl); (with_reducible exact h46); (·rfl)) | (with_reducible refine F_q2 ?_)); simp -implicitDefEqProofs only [h1, h2, h8, h9, h11, h50, h51, h52, mid_lt hks, hw52, d0, d1, dM, fM, hc1, hone, hgk, hgP, hix, hjn, kOk_int, hmg, mres_some, go_sem]) | (with_reducible refine Fork.mk ?_ ?_) | (with_reducible refine And.intro ?_ ?_) | ((with_reducible refine rpI ?_); simp -implicitDefEqProofs only [r237, push_cast, go_sem_proc]) | intro _)
    refine app_OV (hov.app _) (fun i o l h => by cases h) (headOk_P _) (by simp; omega) ?_
    rintro kv' H' hov' hl' hfr
    obtain ⟨a0, b0⟩ := hfr 0 (by simp) k0
    obtain ⟨a1, b1⟩ := hfr 1 (by simp; omega) k1
    obtain ⟨aM, bM⟩ := hfr H1.length (by simp; omega) kM
    rw [List.getElem?_append_left (by omega)] at a0 a1 aM
    rw [d0] at a0; rw [d1] at a1; rw [dM] at aM
    simp only [List.length_append, List.length_cons, List.length_nil] at hl'
    have hc2 := hov'.one
    have hone2 : V.one kv' = true := hov'.vone
    simp only [V.one] at hone2
    simp -implicitDefEqProofs only [h1, h2, h8, h9, h11, h50, h51, h52, hw52, aM, hc2, hone2, go_sem]
    have hMl' : H1.length < H'.length := by omega
    refine ⟨post.length, Nat.lt_succ_self _, pre ++ [(j : Int)], post, kv', by rw [hks]; simp, rfl, by simp, ?_, ?_, ?_, ?_, b0, b1, bM⟩
    ·rw [List.getElem?_set_ne (by omega)]; exact a0
    ·rw [List.getElem?_set_ne (by omega)]; exact a1
    ·rw [List.getElem?_set]; simp [hMl']
    ·rw [List.map_append, List.map_append, List.map_cons, List.map_nil, List.map_cons, List.map_nil, hpr]
     exact hov'.set bM
  | cons k O =>
   have hs := hq.split
   simp only at hs
   have hkS : k ∈ S := by rw [hs]; simp
   have hk0 := hq.ok.set.lo k hkS
   have hkn := hq.ok.set.hi k hkS
   have hkD : k ∉ D := by
    have hnd := hq.ok.set.nodup
    simp only [hs] at hnd
    rw [List.nodup_append] at hnd
    intro hm; exact hnd.2.2 k hm k (by simp) rfl
   obtain ⟨j, rfl⟩ : ∃ j : Nat, k = j := ⟨k.toNat, by omega⟩
   have hjn : j < P.procs.length := by omega
   obtain ⟨pre, q, post, hxs, hpl⟩ : ∃ pre q post, P.procs = pre ++ q :: post ∧ pre.length = j := ⟨P.procs.take j, P.procs[j], P.procs.drop (j + 1), by rw [← List.drop_eq_getElem_cons hjn, List.take_append_drop], by simp; omega⟩
   have hgP := mid_get encP hxs
   rw [hpl] at hgP
   simp only [encP] at hgP
   have hbq : bodyAt P.procs j = q.steps := by unfold bodyAt; rw [hxs, ← hpl]; simp
   have hix : ixP (j : Int) P.procs.length := ⟨by omega, by simp; omega⟩
   have hlO : ((0 : Int) < ((O.length + 1 : Nat) : Int)) = True := eq_true (by omega)
   simp only [List.length_cons] at hoff hid hi h4g k0 k1 kM kM1 ⊢
   have hes : es[off]? = some (j : Int) := by
    have : (es.drop off)[0]? = some (j : Int) := by rw [hdr]; rfl
    simpa using this
   have hge : (es.map (V.int .i64)).getD off .any = .int .i64 j := by
    rw [List.getD_eq_getElem?_getD, List.getElem?_map, hes]; rfl
   have hlen2 : off < es.length := (List.getElem?_eq_some_iff.1 hes).1
   simp -implicitDefEqProofs only [h1, h2, h4, h6, h7, h8, h9, h4g, hlO, hid, hge, hlen2, Nat.add_zero, decide_true, if_true, hgP, hix, g0, go_sem]
   intro _
   refine ⟨⟨by omega, by omega⟩, ⟨by omega, by omega, by omega, by omega, headOk_I es⟩, ?_⟩
   have hO1 : O.length + 1 - 1 = O.length := rfl
   rw [hO1]
   have hl4 := (List.getElem?_eq_some_iff.1 h4g).1
   have hgs : ∀ (X : Blk) (j : Nat), j ≠ 4 → (H.set 4 X)[j]? = H[j]? := fun X j hj => by rw [List.getElem?_set_ne (fun e => hj e.symm)]
   have hi2 : KInv (H.set 4 (.row [.ms id (off + 1) O.length])) (.ms id (off + 1) O.length) (S, O) := by
    refine ⟨by rw [hgs _ _ (by omega)]; exact hi.seen, by rw [hgs _ _ (by omega)]; exact hi.cell, by rw [List.getElem?_set]; simp; omega, .inr ⟨id, off + 1, es, rfl, ?_, hne, by simp only; omega, ?_⟩, ?_, ?_, ?_⟩
    ·rw [hgs _ _ (fun e => hi.n4 off _ (by rw [e]))]; exact hid
    ·have := congrArg (List.drop 1) hdr
     rw [List.drop_drop] at this
     simpa using this
    ·intro a b h; injection h with h; exact hi.n2 off _ (by rw [h])
    ·intro a b h; injection h with h; exact hi.n3 off _ (by rw [h])
    ·intro a b h; injection h with h; exact hi.n4 off _ (by rw [h])
   have hso2 : SOk P.procs.length (S, O) := ⟨hq.ok.set, by have := hq.ok.le; simp only [List.length_cons] at this ⊢; omega⟩
   have hokb := okP_body hok j
   have hcb := cntP_body hjn
   rw [hbq] at hokb hcb
   have hor := cbs_or P.procs (caL ec q.steps) (S, O)
   have hkr := KH.kr (so1 := cbs P.procs (S, O) (caL ec q.steps)) hi2 hor.2.1 hor.2.2
   have hcall := h287 q.steps hokb (by omega) _ _ _ hi2 hso2
   have hqp := QI.pop hok hq
   simp only [Int.toNat_natCast, hbq] at hqp
   have hnk : ∀ i, kvne (V.ms id off (O.length + 1)) i → kvne (V.ms id (off + 1) O.length) i := fun i h a b e => by injection e with e; exact h off _ (by rw [e])
   obtain ⟨a0, b0⟩ := hkr.get (j := 0) (by simp; omega) (by omega) (by omega) (hnk _ k0)
   obtain ⟨a1, b1⟩ := hkr.get (j := 1) (by simp; omega) (by omega) (by omega) (hnk _ k1)
   obtain ⟨aM, bM⟩ := hkr.get (j := H1.length) (by simp; omega) (by omega) (by omega) (hnk _ kM)
   obtain ⟨aM1, bM1⟩ := hkr.get (j := H1.length + 1) (by simp; omega) (by omega) (by omega) (hnk _ kM1)
   rw [hgs _ _ (by omega)] at a0 a1 aM aM1
   rw [g0] at a0; rw [g1] at a1; rw [gM] at aM; rw [gM1] at aM1
   have hll := hkr.len
   have hin := hkr.inv
   have hs0 : (H.set 4 (.row [.ms id (off + 1) O.length]))[0]? = some (Blk.row [.agg [.fs (P.procs.map encP), .fs (P.main.map encS)]]) := by rw [hgs _ _ (by omega)]; exact g0
   simp only [List.length_set] at hll
   have hDl := hqp.ok.set.len
   have hDs := hqp.split
   rw [hDs] at hDl
   simp only [List.length_append, List.length_cons, List.length_nil] at hDl
   generalize KH (H.set 4 (.row [.ms id (off + 1) O.length])) (.ms id (off + 1) O.length) (S, O) (cbs P.procs (S, O) (caL ec q.steps)) = H2 at *
   generalize KVl (H.set 4 (.row [.ms id (off + 1) O.length])) (.ms id (off + 1) O.length) (S, O) (cbs P.procs (S, O) (caL ec q.steps)) = kv2 at *
   generalize cbs P.procs (S, O) (caL ec q.steps) = so2 at *
   have hmk : mputK (D.map (.int .i64)) (.int .i64 (j : Int)) = (D ++ [(j : Int)]).map (.int .i64) := kputK _ hkD
   have hmv := kputV (fun k => .fs ((keL ec (bodyAt P.procs k.toNat)).map encS)) (j : Int) (.fs ((keL ec q.steps).map encS)) hkD
   have hsz : off + (O.length + 1) - 1 = off + O.length := by omega
   repeat' (first | ((first | (with_reducible refine cgA hcall ?_) | (with_reducible refine F_q2 ?_)); simp -implicitDefEqProofs only [h1, h2, h4, h6, h7, h8, h9, hs0, hgP, hix, aM1, kOk_int, hmk, hmv, go_sem]) | (with_reducible refine Fork.mk ?_ ?_) | (with_reducible refine And.intro ?_ ?_) | ((with_reducible refine rpI ?_); simp -implicitDefEqProofs only [r237, push_cast, go_sem_proc]) | intro _)
   have hlM : H1.length + 1 < H2.length := by omega
   refine ⟨m - 1, by omega, D ++ [(j : Int)], so2, kv2, by simp; omega, hqp, hin.set (by omega) bM1, by simp; omega, ?_, ?_, ?_, ?_, b0, b1, bM, bM1⟩
   ·rw [List.getElem?_set_ne (by omega)]; exact a0
   ·rw [List.getElem?_set_ne (by omega)]; exact a1
   ·rw [List.getElem?_set_ne (by omega)]; exact aM
   ·rw [List.getElem?_set]; simp [hlM, hbq]
def C237 (P : Pla) : Prop := PCall Tryz.prog 57 [encPl P] (fun r => ∃ D, SetP P.procs.length D ∧ toE P.procs.length D = (reW P).procs ∧ r = .tup [encPl (rePl P D), .fs ((asc P.procs.length D).map (.int .i64))])
def nmK (P : Pla) (i : Int) : ByteArray := match P.procs[i.toNat]? with
 | some q => q.name
 | none => ⟨#[]⟩
theorem sel_asc (P : Pla) (D : List Int) : ∀ n, n ≤ P.procs.length → selN (P.procs.take n) (toE n D) true = (asc n D).map (nmK P)
 | 0, _ => by simp [asc, selN]
 | n + 1, hn => by
  have ih := sel_asc P D n (by omega)
  have ht : P.procs.take (n + 1) = P.procs.take n ++ [P.procs[n]] := by rw [List.take_succ_eq_append_getElem (by omega)]
  have hE : toE (n + 1) D = toE n D ++ [decide ((n : Int) ∈ D)] := by simp [toE, List.range_succ]
  have hA : asc (n + 1) D = asc n D ++ if (n : Int) ∈ D then [(n : Int)] else [] := by
   simp only [asc, List.range_succ, List.filter_append, List.map_append]
   congr 1
   by_cases h : (n : Int) ∈ D <;> simp [h]
  have hl : (P.procs.take n).length = n := by simp; omega
  have hs := selN_snoc true (P.procs.take n) (toE (n + 1) D) P.procs[n] (by rw [hl, toE_len]; omega)
  rw [hl] at hs
  have hf : (toE (n + 1) D).take (n + 1) = toE (n + 1) D := List.take_of_length_le (by rw [toE_len]; omega)
  have hg : (toE (n + 1) D).take n = toE n D := by
   rw [hE, List.take_append_of_le_length (by rw [toE_len]; omega), List.take_of_length_le (by rw [toE_len]; omega)]
  have hd : (toE (n + 1) D).getD n false = decide ((n : Int) ∈ D) := by
   rw [List.getD_eq_getElem?_getD, toE_get _ _ _ (by omega)]; rfl
  rw [hf, hg, hd, ih] at hs
  rw [ht, hs, hA, List.map_append]
  congr 1
  by_cases h : (n : Int) ∈ D
  ·simp [h, nmK, List.getElem?_eq_getElem (show n < P.procs.length by omega)]
  ·simp [h]
set_option maxRecDepth 20000 in
theorem t209 (P : Pla) (hpn : P.procs.length ≤ 1000000) (h237 : C237 P) : PCall Tryz.prog 14 [encPl P] (·= .fs ((selN P.procs (reW P).procs true).map .str)) := by
 unfold C237 at h237
 simp only [encPl] at h237 ⊢
 refine PCall.intro c209 300 (by simp) 20 ?_
 simp -implicitDefEqProofs only [s209, go_sem]
 refine call_pureR (by simp [norefL, noref, norefL_encP, norefL_encS]) h237 ?_
 rintro _ ⟨D, hD, hDE, rfl⟩
 have hsel := sel_asc P D P.procs.length (Nat.le_refl _)
 rw [List.take_length, hDE] at hsel
 rw [hsel]
 have hal := asc_len P.procs.length D
 simp -implicitDefEqProofs only [go_sem]
 intro hlen
 refine F_loop (fun m e H => ∃ pre post kv J, asc P.procs.length D = pre ++ post ∧ m = post.length ∧ e 1 = .ptr 0 0 0 ∧ e 5 = kv ∧ e 13 = .fs ((asc P.procs.length D).map (.int .i64)) ∧ e 14 = .int .i64 (asc P.procs.length D).length ∧ e 15 = .int .i64 pre.length ∧
  H = Blk.row [.agg [.fs (P.procs.map encP), .fs (P.main.map encS)]] :: J ∧ OV H kv ((pre.map (nmK P)).map .str) ∧ kvne kv 0) (asc P.procs.length D).length
  ⟨[], _, .nils, _, rfl, rfl, by simp [upd, env0], by simp [upd], by simp [upd], by simp [upd], by simp [upd], rfl, .inl ⟨rfl, rfl⟩, (fun a b h => by cases h)⟩ ?_
 rintro m e H ⟨pre, post, kv, J, hxs, rfl, h1, h5, h13, h14, h15, rfl, hov, hk0⟩
 cases post with
 | nil =>
  have hpx : pre = asc P.procs.length D := by rw [hxs]; simp
  rw [hpx] at hov
  simp -implicitDefEqProofs only [h1, h5, h13, h14, h15, mid_not hxs, go_sem]
  simp -implicitDefEqProofs only [r209, h5, push_cast, go_sem_proc]
  have hz : fz _ 20 kv = _ := fz_OV (f := V.str) (n := 18) (fun H x => fz_str H _ x) hov
  exact ⟨_, hz, rfl⟩
 | cons k post =>
  have hkm : k ∈ asc P.procs.length D := by rw [hxs]; simp
  obtain ⟨j, rfl, hjn, hjD⟩ := asc_mem hkm
  have hgk := mid_get (V.int .i64) hxs
  have hgP : (P.procs.map encP).getD j .any = .agg [.str P.procs[j].name, .fs (P.procs[j].roles.map .str), .fs (P.procs[j].steps.map encS)] := by
   simp [List.getD, hjn, encP]
  have hix : ixP (j : Int) P.procs.length := ⟨by omega, by simp; omega⟩
  have hnm : nmK P (j : Int) = P.procs[j].name := by simp [nmK, hjn]
  have hpl : pre.length < (asc P.procs.length D).length := by rw [hxs]; simp
  simp -implicitDefEqProofs only [h1, h5, h13, h14, h15, mid_lt hxs, mid_wrap hxs hlen, hgk, hgP, hix, hjn, go_sem]
  refine app_OV hov (fun i o l h => by cases h) (headOk_str _) (by simp; omega) ?_
  rintro kv' H' hov' hle hfr
  obtain ⟨hf0, hn0⟩ := hfr 0 (by simp) hk0
  obtain ⟨J', rfl⟩ : ∃ J', H' = Blk.row [.agg [.fs (P.procs.map encP), .fs (P.main.map encS)]] :: J' := by
   cases H' with
   | nil => simp at hf0
   | cons b J' => simp at hf0; exact ⟨J', by rw [hf0]⟩
  simp -implicitDefEqProofs only [h1, h5, h13, h14, h15, mid_wrap hxs hlen, go_sem]
  refine ⟨_, Nat.lt_succ_self _, pre ++ [(j : Int)], post, kv', J', by rw [hxs]; simp, rfl, rfl, by simp, rfl, ?_, hn0⟩
  rw [List.map_append, List.map_append, List.map_cons, List.map_nil, List.map_cons, List.map_nil, hnm]
  exact hov'
def wkC : V := .clos 58 [] [.ptr 2 0 0, .ptr 3 0 0, .ptr 4 0 0]
structure WInv (H : List Blk) (kv : V) (acc : List Int) (n : Int) : Prop where
 out : H[2]? = some (.row [kv])
 cnt : H[3]? = some (.row [.int .i64 n])
 clo : H[4]? = some (.row [wkC])
 ov : OV H kv (acc.map (.int .i64))
 n2 : kvne kv 2
 n3 : kvne kv 3
 n4 : kvne kv 4
structure WR (H : List Blk) (kv : V) (acc : List Int) (H1 : List Blk) (kv1 : V) (acc1 : List Int) (n1 : Int) : Prop where
 len : H.length ≤ H1.length
 inv : WInv H1 kv1 acc1 n1
 how : (acc1 = acc ∧ kv1 = kv ∧ ∀ j, j < H.length → j ≠ 3 → H1[j]? = H[j]?) ∨
  (acc.length < acc1.length ∧ ∃ id, kv1 = .ms id 0 acc1.length ∧ H.length ≤ id ∧ H1[id]? = some (.row (acc1.map (.int .i64))) ∧ ∀ j, j < H.length → j ≠ 2 → j ≠ 3 → H1[j]? = (killV kv H)[j]?)
theorem OV.mono {H H1 : List Blk} {kv : V} {acc : List V} (h : OV H kv acc) (hj : ∀ j, j < H.length → kvne kv j ∨ H1[j]? = H[j]?) : OV H1 kv acc := by
 rcases h with h | ⟨h1, id, h2, h3⟩
 ·exact .inl h
 ·refine .inr ⟨h1, id, h2, ?_⟩
  rcases hj id (List.getElem?_eq_some_iff.1 h3).1 with h | h
  ·exact absurd h2 (h 0 _)
  ·rw [h]; exact h3
theorem WInv.grow {H H1 : List Blk} {kv : V} {acc : List Int} {n : Int} (h : WInv H kv acc n) (hj : ∀ j, j < H.length → H1[j]? = H[j]?) : WInv H1 kv acc n :=
 ⟨by rw [hj 2 (List.getElem?_eq_some_iff.1 h.out).1]; exact h.out, by rw [hj 3 (List.getElem?_eq_some_iff.1 h.cnt).1]; exact h.cnt, by rw [hj 4 (List.getElem?_eq_some_iff.1 h.clo).1]; exact h.clo, h.ov.mono (fun j h => .inr (hj j h)), h.n2, h.n3, h.n4⟩
theorem WR.refl {H H1 : List Blk} {kv : V} {acc : List Int} {n : Int} (h : WInv H kv acc n) (hl : H.length ≤ H1.length) (hj : ∀ j, j < H.length → H1[j]? = H[j]?) : WR H kv acc H1 kv acc n :=
 ⟨hl, h.grow hj, .inl ⟨rfl, rfl, fun j h _ => hj j h⟩⟩
theorem WR.trans {H H1 H2 : List Blk} {kv kv1 kv2 : V} {a a1 a2 : List Int} {n1 n2 : Int} (h : WR H kv a H1 kv1 a1 n1) (g : WR H1 kv1 a1 H2 kv2 a2 n2) : WR H kv a H2 kv2 a2 n2 := by
 have hl := h.len; have gl := g.len
 refine ⟨by omega, g.inv, ?_⟩
 rcases h.how with ⟨rfl, rfl, h3⟩ | ⟨h1, id, rfl, h3, h4, h5⟩
 ·rcases g.how with ⟨rfl, rfl, g3⟩ | ⟨g1, id, g2, g3, g4, g5⟩
  ·exact .inl ⟨rfl, rfl, fun j hj a => (g3 j (by omega) a).trans (h3 j hj a)⟩
  ·exact .inr ⟨g1, id, g2, by omega, g4, fun j hj a b => (g5 j (by omega) a b).trans (killV_congr hl hj (h3 j hj b))⟩
 ·rcases g.how with ⟨rfl, rfl, g3⟩ | ⟨g1, id', g2, g3, g4, g5⟩
  ·have hid := (List.getElem?_eq_some_iff.1 h4).1
   exact .inr ⟨h1, id, rfl, h3, by rw [g3 id hid (fun e => h.inv.n3 0 a2.length (by rw [e]))]; exact h4, fun j hj a b => (g3 j (by omega) b).trans (h5 j hj a b)⟩
  ·refine .inr ⟨by omega, id', g2, by omega, g4, fun j hj a b => ?_⟩
   rw [g5 j (by omega) a b, killV_get (fun x y h => by injection h; omega)]
   exact h5 j hj a b
theorem WR.get {H H1 : List Blk} {kv kv1 : V} {a a1 : List Int} {n1 : Int} (h : WR H kv a H1 kv1 a1 n1) {j : Nat} (hj : j < H.length) (h2 : j ≠ 2) (h3 : j ≠ 3) (hk : kvne kv j) : H1[j]? = H[j]? ∧ kvne kv1 j := by
 rcases h.how with ⟨_, rfl, h4⟩ | ⟨_, id, rfl, hid, _, h5⟩
 ·exact ⟨h4 j hj h3, hk⟩
 ·exact ⟨(h5 j hj h2 h3).trans (killV_get hk), fun a b e => by injection e; omega⟩
theorem WR.app {H H1 : List Blk} {kv kv1 : V} {a a1 : List Int} {n1 : Int} (h : WR H kv a H1 kv1 a1 n1) (J : List Blk) : WR H kv a (H1 ++ J) kv1 a1 n1 :=
 h.trans (WR.refl h.inv (by simp) (fun j hj => by rw [List.getElem?_append_left hj]))
def WH (H : List Blk) (kv : V) (a a1 : List Int) (n1 : Int) : List Blk :=
 if a1 = a then H.set 3 (.row [.int .i64 n1]) else (((killV kv H).set 3 (.row [.int .i64 n1])).set 2 (.row [.ms H.length 0 a1.length])) ++ [.row (a1.map (.int .i64))]
def WV (H : List Blk) (kv : V) (a a1 : List Int) : V := if a1 = a then kv else .ms H.length 0 a1.length
theorem WH.wr {H : List Blk} {kv : V} {a a1 : List Int} {n n1 : Int} (h : WInv H kv a n) (hs : a1 = a ∨ a.length < a1.length) : WR H kv a (WH H kv a a1 n1) (WV H kv a a1) a1 n1 := by
 have h2 := (List.getElem?_eq_some_iff.1 h.out).1
 have h3 := (List.getElem?_eq_some_iff.1 h.cnt).1
 have h4 := (List.getElem?_eq_some_iff.1 h.clo).1
 by_cases he : a1 = a
 ·subst he
  simp only [WH, WV, if_true]
  have hg : ∀ j, j ≠ 3 → (H.set 3 (.row [.int .i64 n1]))[j]? = H[j]? := fun j hj => by rw [List.getElem?_set_ne (fun e => hj e.symm)]
  refine ⟨by simp, ⟨by rw [hg 2 (by omega)]; exact h.out, by rw [List.getElem?_set]; simp [h3], by rw [hg 4 (by omega)]; exact h.clo, h.ov.set h.n3, h.n2, h.n3, h.n4⟩, .inl ⟨rfl, rfl, fun j hj h => hg j h⟩⟩
 ·have hs := hs.resolve_left he
  simp only [WH, WV, if_neg he]
  have hg : ∀ j, j < H.length → ((((killV kv H).set 3 (.row [.int .i64 n1])).set 2 (.row [.ms H.length 0 a1.length])) ++ [.row (a1.map (.int .i64))])[j]? =
    if 2 = j then some (.row [.ms H.length 0 a1.length]) else if 3 = j then some (.row [.int .i64 n1]) else (killV kv H)[j]? := by
   intro j hj
   rw [List.getElem?_append_left (by simp [killV_length]; exact hj), List.getElem?_set, List.getElem?_set]
   simp only [List.length_set, killV_length]
   split
   ·rename_i e; subst e; first | rfl | rw [if_pos hj]
   ·split
    ·rename_i e; subst e; first | rfl | rw [if_pos hj]
    ·rfl
  have hlast : ((((killV kv H).set 3 (.row [.int .i64 n1])).set 2 (.row [.ms H.length 0 a1.length])) ++ [Blk.row (a1.map (.int .i64))])[H.length]? = some (.row (a1.map (.int .i64))) := by
   rw [List.getElem?_append_right (by simp [killV_length])]
   simp [killV_length]
  refine ⟨by simp [killV_length], ⟨?_, ?_, ?_, ?_, ?_, ?_, ?_⟩, .inr ⟨hs, H.length, rfl, Nat.le_refl _, hlast, ?_⟩⟩
  ·rw [hg 2 h2]; simp
  ·rw [hg 3 h3]; simp
  ·rw [hg 4 h4]; simp; rw [killV_get h.n4]; exact h.clo
  ·refine .inr ⟨by intro e; rw [List.map_eq_nil_iff] at e; rw [e] at hs; simp at hs, H.length, by simp, hlast⟩
  ·intro x y hh; injection hh; omega
  ·intro x y hh; injection hh; omega
  ·intro x y hh; injection hh; omega
  ·intro j hj x y
   rw [hg j hj, if_neg (fun e => x e.symm), if_neg (fun e => y e.symm)]
theorem WR.fin {P : Program} {g : FuncId} {vs : List V} {H : List Blk} {kv : V} {a A : List Int} {n n1 : Int} {r : V} (hr : noref r = true) (hi : WInv H kv a n)
  (h : ACall P g vs H (fun r' H' => r' = r ∧ ∃ kv1, WR H kv a H' kv1 A n1)) : ACall P g vs H (ret1 r (WH H kv a A n1)) := by
 have h2l := (List.getElem?_eq_some_iff.1 hi.out).1
 have h3l := (List.getElem?_eq_some_iff.1 hi.cnt).1
 by_cases he : A = a
 ·subst he
  refine ACall.trim (h.mono ?_)
  rintro r' H' ⟨rfl, kv1, hk⟩
  rcases hk.how with ⟨_, _, h3⟩ | ⟨h1, _⟩
  ·refine ⟨H.set 3 (.row [.int .i64 n1]), H'.drop H.length, ?_, by simp, fun i b hb => ?_, hr, rfl, by rw [WH, if_pos rfl]⟩
   ·apply List.ext_getElem?
    intro j
    by_cases hj : j < H.length
    ·rw [List.getElem?_append_left (by simpa using hj)]
     by_cases h33 : j = 3
     ·subst h33; rw [hk.inv.cnt, List.getElem?_set]; simp [h3l]
     ·rw [h3 j hj h33, List.getElem?_set_ne (fun e => h33 e.symm)]
    ·rw [List.getElem?_append_right (by simp; omega), List.getElem?_drop]; congr 1; simp; omega
   ·rw [List.getElem?_set] at hb
    split at hb
    ·first | (cases hb; exact .inr rfl) | (split at hb <;> cases hb; exact .inr rfl)
    ·exact .inl hb
  ·omega
 ·refine ACall.trimC 2 (h.mono ?_)
  rintro r' H' ⟨rfl, kv1, hk⟩
  have hl := hk.len
  rcases hk.how with ⟨h1, _⟩ | ⟨h1, id, rfl, h3, h4, h5⟩
  ·exact absurd h1 he
  ·have hid := (List.getElem?_eq_some_iff.1 h4).1
   have htl : (H'.take H.length).length = H.length := by simp; omega
   have htg : ∀ j, j < H.length → (H'.take H.length)[j]? = H'[j]? := fun j hj => by rw [List.getElem?_take, if_pos hj]
   refine ⟨H'.take H.length, H'.drop H.length, id - H.length, A.map (.int .i64), (List.take_append_drop _ _).symm, htl, hr, ?_, ?_, norefL_int _, ?_, rfl, ?_⟩
   ·have hid2 : H.length + (id - H.length) = id := by omega
    rw [htg 2 h2l, hk.inv.out, htl, List.length_map, hid2]
   ·rw [List.getElem?_drop, ← h4]; congr 1; omega
   ·intro i b hi4 hb
    have hil : i < H.length := by have := (List.getElem?_eq_some_iff.1 hb).1; omega
    rw [htg i hil] at hb
    by_cases hi2 : i = 3
    ·subst hi2; rw [hk.inv.cnt] at hb; cases hb; right; rfl
    ·rw [h5 i hil hi4 hi2] at hb
     cases kv <;> try exact .inl hb
     rename_i id0 off0 len0
     simp only [killV] at hb
     rw [List.getElem?_set] at hb
     split at hb
     ·split at hb <;> cases hb; exact .inr rfl
     ·exact .inl hb
   ·rw [WH, if_neg he, htl, List.length_map]
    congr 1
    apply List.ext_getElem?
    intro j
    by_cases hj : j < H.length
    ·rw [List.getElem?_set, List.getElem?_set, List.getElem?_set]
     simp only [List.length_set, killV_length, htl]
     split
     ·rfl
     ·rename_i e4
      split
      ·rename_i e2; subst e2; rw [htg 3 hj, hk.inv.cnt]; try rw [if_pos hj]
      ·rename_i e2; rw [htg j hj, h5 j hj (fun e => e4 e.symm) (fun e => e2 e.symm)]
    ·rw [List.getElem?_eq_none (by simp; omega), List.getElem?_eq_none (by simp [killV_length]; omega)]
def thenO : Option St → List St
 | some (.mk _ _ _ _ _ _ a _ _ _) => a
 | none => []
def elseO : Option St → List St
 | some (.mk _ _ _ _ _ _ _ b _ _) => b
 | none => []
mutual
def uwS : St → Option St → Int → List Int
 | .mk _ _ _ _ _ _ a b _ _, o, n => (if o.isSome then [] else [n]) ++ (uwL a (thenO o) (n + 1) ++ uwL b (elseO o) (n + 1 + cnts a))
def uwL : List St → List St → Int → List Int
 | [], _, _ => []
 | s :: l, m, n => uwS s m.head? n ++ uwL l m.tail (n + cnt s)
end
mutual
theorem uwS_len : ∀ (s : St) (o : Option St) (n : Int), (uwS s o n).length ≤ cnt s
 | .mk k r t v l e a b p ps, o, n => by
  have h1 := uwL_len a (thenO o) (n + 1)
  have h2 := uwL_len b (elseO o) (n + 1 + cnts a)
  simp only [uwS, List.length_append, cnt]
  split <;> simp <;> omega
theorem uwL_len : ∀ (l m : List St) (n : Int), (uwL l m n).length ≤ cnts l
 | [], m, n => by simp [uwL]
 | s :: l, m, n => by
  have h1 := uwS_len s m.head? n
  have h2 := uwL_len l m.tail (n + cnt s)
  simp only [uwL, List.length_append, cnts]
  omega
end
theorem WH_how {a x : List Int} : a ++ x = a ∨ a.length < (a ++ x).length := by
 cases x with
 | nil => exact .inl (by simp)
 | cons y x => exact .inr (by simp)
set_option maxRecDepth 20000 in
set_option maxHeartbeats 4000000 in
theorem t238s (xs : List St) (hcx : cnts xs ≤ 1000000)
  (ih : ∀ k r t v l e a b p ps, St.mk k r t v l e a b p ps ∈ xs → ∀ (m : List St) (mv : V) (H : List Blk) (kv : V) (acc : List Int) (n : Int), (mv = .nils ∧ m = [] ∨ mv = .fs (m.map encS)) → WInv H kv acc n → (acc.length : Int) ≤ n →
   (n + cnts a ≤ 1000000 → ACall Tryz.prog 58 [.fs (a.map encS), mv, .ptr 2 0 0, .ptr 3 0 0, .ptr 4 0 0] H (ret1 (.tup []) (WH H kv acc (acc ++ uwL a m n) (n + cnts a)))) ∧
   (n + cnts b ≤ 1000000 → ACall Tryz.prog 58 [.fs (b.map encS), mv, .ptr 2 0 0, .ptr 3 0 0, .ptr 4 0 0] H (ret1 (.tup []) (WH H kv acc (acc ++ uwL b m n) (n + cnts b)))))
  (m : List St) (mv : V) (H : List Blk) (kv : V) (acc : List Int) (n : Int) (hm : mv = .nils ∧ m = [] ∨ mv = .fs (m.map encS)) (hi : WInv H kv acc n) (hacc : (acc.length : Int) ≤ n) (hn : n + cnts xs ≤ 1000000) :
  ACall Tryz.prog 58 [.fs (xs.map encS), mv, .ptr 2 0 0, .ptr 3 0 0, .ptr 4 0 0] H (ret1 (.tup []) (WH H kv acc (acc ++ uwL xs m n) (n + cnts xs))) := by
 refine WR.fin (kv := kv) rfl hi ?_
 refine ACall.intro c238 600 (by simp) ?_
 simp -implicitDefEqProofs only [s238, ne_eq, not_false_eq_true, hls, hln, Nat.reduceMul, go_sem]
 intro hlen
 refine F_loop (fun mm e H1 => ∃ pre post kv1 acc1 n1, xs = pre ++ post ∧ mm = post.length ∧ e 1 = mv ∧ e 2 = .ptr 2 0 0 ∧ e 3 = .ptr 3 0 0 ∧ e 4 = .ptr 4 0 0 ∧ e 12 = .fs (xs.map encS) ∧ e 13 = .int .i64 xs.length ∧ e 14 = .int .i64 pre.length ∧
  acc ++ uwL xs m n = acc1 ++ uwL post (m.drop pre.length) n1 ∧ n + cnts xs = n1 + cnts post ∧ (acc1.length : Int) ≤ n1 ∧ WR H kv acc H1 kv1 acc1 n1) xs.length
  ⟨[], xs, kv, acc, n, rfl, rfl, by simp [upd, env0], by simp [upd, env0], by simp [upd, env0], by simp [upd, env0], by simp [upd, env0], by simp [upd, env0], by simp [upd, env0], by simp, rfl, hacc, WR.refl hi (Nat.le_refl _) (fun _ _ => rfl)⟩ ?_
 rintro mm e H1 ⟨pre, post, kv1, acc1, n1, hxs, rfl, h1, h2, h3, h4, h12, h13, h14, hu, hc, ha1, hkr⟩
 cases post with
 | nil =>
  simp -implicitDefEqProofs only [h1, h2, h3, h4, h12, h13, h14, mid_not hxs, ne_eq, not_false_eq_true, hls, hln, Nat.reduceMul, go_sem]
  simp -implicitDefEqProofs only [r238, ne_eq, not_false_eq_true, hls, hln, Nat.reduceMul, push_cast, go_sem_proc]
  simp only [uwL, cnts, List.append_nil] at hu hc
  have hc0 : n1 + ((0 : Nat) : Int) = n1 := by omega
  rw [hu, hc, hc0]
  exact ⟨kv1, hkr⟩
 | cons s rest =>
  have hmem : s ∈ xs := by rw [hxs]; simp
  have hg := mid_get encS hxs
  have hpl : pre.length < xs.length := by rw [hxs]; simp
  rcases s with ⟨k, r, t, v, lb, ⟨ek, en, es, eas⟩, a, b, p, ps⟩
  have hih := ih k r t v lb (.mk ek en es eas) a b p ps hmem
  rw [encS_mk] at hg
  have hl1 := hkr.len
  have hinv := hkr.inv
  have hl4 := (List.getElem?_eq_some_iff.1 hinv.clo).1
  simp only [cnts, cnt] at hc
  simp only [uwL] at hu
  generalize hsb : Blk.row [V.agg [.int .i64 k, .str r, .str t, .str v, .str lb, .int .i64 ek, .int .i64 en, .str es, .fs (eas.map encE), .fs (a.map encS), .fs (b.map encS), .str p, .fs (ps.map .str)]] = sb at *
  have hinvA : WInv (H1 ++ [sb]) kv1 acc1 n1 := hinv.grow (fun j hj => by rw [List.getElem?_append_left hj])
  have hkL : kvne kv1 H1.length := hinv.ov.ne_of (Nat.le_refl _)
  have hcom : ∀ acc1', (acc1' = acc1 ∨ acc1' = acc1 ++ [n1]) → ∀ (ma mb : List St) (mva mvb : V), (mva = .nils ∧ ma = [] ∨ mva = .fs (ma.map encS)) → (mvb = .nils ∧ mb = [] ∨ mvb = .fs (mb.map encS)) →
    ∃ H3 H4 kv4, ACall Tryz.prog 58 [.fs (a.map encS), mva, .ptr 2 0 0, .ptr 3 0 0, .ptr 4 0 0] (WH (H1 ++ [sb]) kv1 acc1 acc1' (n1 + 1)) (ret1 (.tup []) H3) ∧
     ACall Tryz.prog 58 [.fs (b.map encS), mvb, .ptr 2 0 0, .ptr 3 0 0, .ptr 4 0 0] H3 (ret1 (.tup []) H4) ∧ (WH (H1 ++ [sb]) kv1 acc1 acc1' (n1 + 1))[4]? = some (.row [wkC]) ∧ (WH (H1 ++ [sb]) kv1 acc1 acc1' (n1 + 1))[H1.length]? = some sb ∧
     H3[4]? = some (.row [wkC]) ∧ H3[H1.length]? = some sb ∧ WR H kv acc H4 kv4 ((acc1' ++ uwL a ma (n1 + 1)) ++ uwL b mb (n1 + 1 + cnts a)) (n1 + 1 + cnts a + cnts b) ∧
     (((acc1' ++ uwL a ma (n1 + 1)) ++ uwL b mb (n1 + 1 + cnts a)).length : Int) ≤ n1 + 1 + cnts a + cnts b := by
   intro acc1' hac ma mb mva mvb hma hmb
   have hB := WH.wr (a1 := acc1') (n1 := n1 + 1) hinvA (by rcases hac with rfl | rfl; exact .inl rfl; exact WH_how)
   have hlB : (acc1'.length : Int) ≤ n1 + 1 := by rcases hac with rfl | rfl; omega; simp; omega
   have fB := hB.get (j := H1.length) (by simp) (by omega) (by omega) hkL
   have fsb : (H1 ++ [sb])[H1.length]? = some sb := by simp
   rw [fsb] at fB
   have hla := uwL_len a ma (n1 + 1)
   have hlb := uwL_len b mb (n1 + 1 + cnts a)
   have hgt : (H1 ++ [sb]).length = H1.length + 1 := by simp
   have hlB2 := hB.len
   rw [hgt] at hlB2
   generalize WH (H1 ++ [sb]) kv1 acc1 acc1' (n1 + 1) = HB at *
   generalize WV (H1 ++ [sb]) kv1 acc1 acc1' = kvB at *
   have ha := (hih ma mva HB kvB acc1' (n1 + 1) hma hB.inv hlB).1 (by omega)
   have h3 := WH.wr (a1 := acc1' ++ uwL a ma (n1 + 1)) (n1 := n1 + 1 + cnts a) hB.inv WH_how
   have f3 := h3.get (j := H1.length) (by omega) (by omega) (by omega) fB.2
   rw [fB.1] at f3
   generalize WH HB kvB acc1' (acc1' ++ uwL a ma (n1 + 1)) (n1 + 1 + cnts a) = H3 at *
   generalize WV HB kvB acc1' (acc1' ++ uwL a ma (n1 + 1)) = kv3 at *
   have hb := (hih mb mvb H3 kv3 (acc1' ++ uwL a ma (n1 + 1)) (n1 + 1 + cnts a) hmb h3.inv (by simp; omega)).2 (by omega)
   have h4 := WH.wr (a1 := (acc1' ++ uwL a ma (n1 + 1)) ++ uwL b mb (n1 + 1 + cnts a)) (n1 := n1 + 1 + cnts a + cnts b) h3.inv WH_how
   exact ⟨H3, _, _, ha, hb, hB.inv.clo, fB.1, h3.inv.clo, f3.1, ((((hkr.app [sb]).trans hB).trans h3).trans h4), by simp; omega⟩
  have hnum : n1 + ((cnt (St.mk k r t v lb (.mk ek en es eas) a b p ps) : Nat) : Int) = n1 + 1 + cnts a + cnts b := by simp only [cnt]; omega
  have hA2 : ∀ l : List Blk, (H1 ++ l)[2]? = some (.row [kv1]) := fun l => by rw [List.getElem?_append_left (by omega)]; exact hinv.out
  have hA3 : ∀ l : List Blk, (H1 ++ l)[3]? = some (.row [.int .i64 n1]) := fun l => by rw [List.getElem?_append_left (by omega)]; exact hinv.cnt
  have hwn : IntKind.i64.wrap (n1 + 1) = n1 + 1 := by
   have hw0 : n1 = ((n1.toNat : Nat) : Int) := by omega
   have := wrap_succ (k := n1.toNat) (by omega)
   rw [← hw0] at this
   rw [this]; omega
  by_cases hlt : pre.length < m.length
  ·obtain rfl : mv = .fs (m.map encS) := by
    rcases hm with ⟨_, rfl⟩ | h
    ·simp at hlt
    ·exact h
   obtain ⟨mpre, y, mpost, hms, hmpl⟩ : ∃ mpre y mpost, m = mpre ++ y :: mpost ∧ mpre.length = pre.length := ⟨m.take pre.length, m[pre.length], m.drop (pre.length + 1), by rw [← List.drop_eq_getElem_cons hlt, List.take_append_drop], by simp; omega⟩
   have hgm := mid_get encS hms
   rw [hmpl] at hgm
   have hdr : m.drop pre.length = y :: mpost := by rw [hms, ← hmpl, List.drop_left]
   have hdr1 : m.drop (pre.length + 1) = mpost := by rw [← List.drop_drop, hdr]; rfl
   rcases y with ⟨k', r', t', v', lb', ⟨ek', en', es', eas'⟩, a', b', p', ps'⟩
   rw [encS_mk] at hgm
   have hix : ixP (pre.length : Int) m.length := ⟨by omega, by simp; omega⟩
   have hlt' : ((pre.length : Int) < (m.length : Int)) = True := eq_true (by omega)
   subst hsb
   obtain ⟨H3, H4, kv4, ha, hb, g4, gs, g34, g3s, hwr, hlen4⟩ := hcom acc1 (.inl rfl) a' b' _ _ (.inr rfl) (.inr rfl)
   rw [WH, if_pos rfl] at ha g4 gs
   simp -implicitDefEqProofs only [h1, h2, h3, h4, h12, h13, h14, mid_lt hxs, mid_wrap hxs hlen, hg, hlt', decide_true, hA2, hA3, hwn, hgm, hix, hlt, ne_eq, not_false_eq_true, hls, hln, Nat.reduceMul, go_sem]
   intro _
   generalize (H1 ++ [Blk.row [V.agg [.int .i64 k, .str r, .str t, .str v, .str lb, .int .i64 ek, .int .i64 en, .str es, .fs (eas.map encE), .fs (a.map encS), .fs (b.map encS), .str p, .fs (ps.map .str)]]]).set 3 (.row [.int .i64 (n1 + 1)]) = HB at *
   unfold wkC at g4 g34
   repeat' (first | ((first | (with_reducible first | refine cgA ha ?_ | refine cgA hb ?_) | (with_reducible refine F_q2 ?_)); simp -implicitDefEqProofs only [h1, h2, h3, h4, h12, h13, h14, mid_lt hxs, mid_wrap hxs hlen, hg, hgm, hix, hlt, g4, gs, g34, g3s, ne_eq, not_false_eq_true, hls, hln, Nat.reduceMul, go_sem]) | (with_reducible refine Fork.mk ?_ ?_) | (with_reducible refine And.intro ?_ ?_) | ((with_reducible refine rpI ?_); simp -implicitDefEqProofs only [r238, ne_eq, not_false_eq_true, hls, hln, Nat.reduceMul, push_cast, go_sem_proc]) | intro _)
   refine ⟨rest.length, Nat.lt_succ_self _, pre ++ [_], rest, kv4, _, _, by rw [hxs]; simp; rfl, rfl, by simp, ?_, ?_, hlen4, hwr⟩
   ·have hdd : m.drop (pre ++ [St.mk k r t v lb (.mk ek en es eas) a b p ps]).length = mpost := by rw [← hdr1]; simp
    rw [hu, hdr, hdd]
    simp only [List.head?_cons, List.tail_cons, uwS, thenO, elseO, Option.isSome_some, if_true, List.nil_append, List.append_assoc, hnum]
   ·omega
  ·have hdr : m.drop pre.length = [] := List.drop_eq_nil_of_le (by omega)
   have hdd : m.drop (pre ++ [St.mk k r t v lb (.mk ek en es eas) a b p ps]).length = [] := List.drop_eq_nil_of_le (by simp; omega)
   have hlt' : ((pre.length : Int) < (m.length : Int)) = False := eq_false (by omega)
   have hlt0 : ((pre.length : Int) < (0 : Int)) = False := eq_false (by omega)
   obtain ⟨H3, H4, kv4, ha, hb, g4, gs, g34, g3s, hwr, hlen4⟩ := hcom (acc1 ++ [n1]) (.inr rfl) [] [] .nils .nils (.inl ⟨rfl, rfl⟩) (.inl ⟨rfl, rfl⟩)
   have hovA : OVd (H1 ++ [sb]) kv1 acc1 := by
    rcases hinvA.ov with ⟨e1, e2⟩ | ⟨e1, id, e2, e3⟩
    ·exact .inl ⟨by simpa using e1, e2⟩
    ·rw [List.length_map] at e2
     exact .inr ⟨id, 0, acc1, e2, e3, by simpa using e1, by simp, rfl⟩
   have hc1 : cellsV kv1 = [kv1] := hinv.ov.one
   have heq : WH (H1 ++ [sb]) kv1 acc1 (acc1 ++ [n1]) (n1 + 1) = ((killV kv1 (H1 ++ [sb]) ++ [Blk.row ((acc1 ++ [n1]).map (.int .i64))]).set 2 (.row [.ms (H1.length + 1) 0 (acc1.length + 1)])).set 3 (.row [.int .i64 (n1 + 1)]) := by
    have hlk : (killV kv1 (H1 ++ [sb])).length = H1.length + 1 := by simp [killV_length]
    rw [WH, if_neg (by simp), List.set_append_left _ _ (by omega), List.set_append_left _ _ (by simp; omega), List.set_comm _ _ (by omega)]
    simp
   rw [heq] at ha g4 gs
   have hk2 : (killV kv1 (H1 ++ [sb]) ++ [Blk.row ((acc1 ++ [n1]).map (.int .i64))])[2]? = some (.row [kv1]) := by rw [List.getElem?_append_left (by simp [killV_length]; omega), killV_get hinv.n2]; exact hA2 _
   have hk3 : ∀ Y : Blk, ((killV kv1 (H1 ++ [sb]) ++ [Blk.row ((acc1 ++ [n1]).map (.int .i64))]).set 2 Y)[3]? = some (.row [.int .i64 n1]) := fun Y => by rw [List.getElem?_set_ne (by omega), List.getElem?_append_left (by simp [killV_length]; omega), killV_get hinv.n3]; exact hA3 _
   have hk4 : (killV kv1 (H1 ++ [sb]) ++ [Blk.row ((acc1 ++ [n1]).map (.int .i64))])[4]? = some (.row [wkC]) := by rw [List.getElem?_append_left (by simp [killV_length]; omega), killV_get hinv.n4]; exact hinvA.clo
   have hle1 : (acc1.length + 1) * 8 ≤ 140737488355328 := by omega
   have hkf : kv1 = .nils ∨ ∃ id off len, kv1 = .ms id off len := by rcases hovA with ⟨_, h⟩ | ⟨id, off, es, h, _⟩; exact .inl h; exact .inr ⟨_, _, _, h⟩
   have hgl : (H1 ++ [sb]).length = H1.length + 1 := by simp
   unfold wkC at g4 g34 hk4
   subst hsb
   rcases hm with ⟨rfl, rfl⟩ | rfl
   ·simp -implicitDefEqProofs only [h1, h2, h3, h4, h12, h13, h14, mid_lt hxs, mid_wrap hxs hlen, hg, hlt0, decide_false, hA2, hA3, hwn, hc1, ne_eq, not_false_eq_true, hls, hln, Nat.reduceMul, go_sem]
    refine app_OVd hovA hle1 ?_
    rw [hgl]
    generalize killV kv1 _ ++ [Blk.row ((acc1 ++ [n1]).map (.int .i64))] = HA2 at *
    rcases hkf with rfl | ⟨id, off, len, rfl⟩
    ·simp -implicitDefEqProofs only [h1, h2, h3, h4, h12, h13, h14, mid_wrap hxs hlen, hk2, hk3, hk4, hwn, gs, ne_eq, not_false_eq_true, hls, hln, Nat.reduceMul, go_sem]
     repeat' (first | ((first | (with_reducible first | refine cgA ha ?_ | refine cgA hb ?_) | (with_reducible refine F_q2 ?_)); simp -implicitDefEqProofs only [h1, h2, h3, h4, h12, h13, h14, mid_wrap hxs hlen, g34, g3s, ne_eq, not_false_eq_true, hls, hln, Nat.reduceMul, go_sem]) | (with_reducible refine Fork.mk ?_ ?_) | (with_reducible refine And.intro ?_ ?_) | ((with_reducible refine rpI ?_); simp -implicitDefEqProofs only [r238, ne_eq, not_false_eq_true, hls, hln, Nat.reduceMul, push_cast, go_sem_proc]) | intro _)
     refine ⟨rest.length, Nat.lt_succ_self _, pre ++ [_], rest, kv4, _, _, by rw [hxs]; simp; rfl, rfl, by simp, ?_, ?_, hlen4, hwr⟩
     ·rw [hu, hdr, hdd]
      simp only [List.head?_nil, List.tail_nil, uwS, thenO, elseO, Option.isSome_none, Bool.false_eq_true, if_false, List.append_assoc, List.cons_append, List.nil_append, hnum]
     ·omega
    ·simp -implicitDefEqProofs only [h1, h2, h3, h4, h12, h13, h14, mid_wrap hxs hlen, hk2, hk3, hk4, hwn, gs, ne_eq, not_false_eq_true, hls, hln, Nat.reduceMul, go_sem]
     repeat' (first | ((first | (with_reducible first | refine cgA ha ?_ | refine cgA hb ?_) | (with_reducible refine F_q2 ?_)); simp -implicitDefEqProofs only [h1, h2, h3, h4, h12, h13, h14, mid_wrap hxs hlen, g34, g3s, ne_eq, not_false_eq_true, hls, hln, Nat.reduceMul, go_sem]) | (with_reducible refine Fork.mk ?_ ?_) | (with_reducible refine And.intro ?_ ?_) | ((with_reducible refine rpI ?_); simp -implicitDefEqProofs only [r238, ne_eq, not_false_eq_true, hls, hln, Nat.reduceMul, push_cast, go_sem_proc]) | intro _)
     refine ⟨rest.length, Nat.lt_succ_self _, pre ++ [_], rest, kv4, _, _, by rw [hxs]; simp; rfl, rfl, by simp, ?_, ?_, hlen4, hwr⟩
     ·rw [hu, hdr, hdd]
      simp only [List.head?_nil, List.tail_nil, uwS, thenO, elseO, Option.isSome_none, Bool.false_eq_true, if_false, List.append_assoc, List.cons_append, List.nil_append, hnum]
     ·omega
   ·simp -implicitDefEqProofs only [h1, h2, h3, h4, h12, h13, h14, mid_lt hxs, mid_wrap hxs hlen, hg, hlt', decide_false, hA2, hA3, hwn, hc1, ne_eq, not_false_eq_true, hls, hln, Nat.reduceMul, go_sem]
    intro _
    refine app_OVd hovA hle1 ?_
    rw [hgl]
    generalize killV kv1 _ ++ [Blk.row ((acc1 ++ [n1]).map (.int .i64))] = HA2 at *
    rcases hkf with rfl | ⟨id, off, len, rfl⟩
    ·simp -implicitDefEqProofs only [h1, h2, h3, h4, h12, h13, h14, mid_wrap hxs hlen, hk2, hk3, hk4, hwn, gs, ne_eq, not_false_eq_true, hls, hln, Nat.reduceMul, go_sem]
     repeat' (first | ((first | (with_reducible first | refine cgA ha ?_ | refine cgA hb ?_) | (with_reducible refine F_q2 ?_)); simp -implicitDefEqProofs only [h1, h2, h3, h4, h12, h13, h14, mid_wrap hxs hlen, g34, g3s, ne_eq, not_false_eq_true, hls, hln, Nat.reduceMul, go_sem]) | (with_reducible refine Fork.mk ?_ ?_) | (with_reducible refine And.intro ?_ ?_) | ((with_reducible refine rpI ?_); simp -implicitDefEqProofs only [r238, ne_eq, not_false_eq_true, hls, hln, Nat.reduceMul, push_cast, go_sem_proc]) | intro _)
     refine ⟨rest.length, Nat.lt_succ_self _, pre ++ [_], rest, kv4, _, _, by rw [hxs]; simp; rfl, rfl, by simp, ?_, ?_, hlen4, hwr⟩
     ·rw [hu, hdr, hdd]
      simp only [List.head?_nil, List.tail_nil, uwS, thenO, elseO, Option.isSome_none, Bool.false_eq_true, if_false, List.append_assoc, List.cons_append, List.nil_append, hnum]
     ·omega
    ·simp -implicitDefEqProofs only [h1, h2, h3, h4, h12, h13, h14, mid_wrap hxs hlen, hk2, hk3, hk4, hwn, gs, ne_eq, not_false_eq_true, hls, hln, Nat.reduceMul, go_sem]
     repeat' (first | ((first | (with_reducible first | refine cgA ha ?_ | refine cgA hb ?_) | (with_reducible refine F_q2 ?_)); simp -implicitDefEqProofs only [h1, h2, h3, h4, h12, h13, h14, mid_wrap hxs hlen, g34, g3s, ne_eq, not_false_eq_true, hls, hln, Nat.reduceMul, go_sem]) | (with_reducible refine Fork.mk ?_ ?_) | (with_reducible refine And.intro ?_ ?_) | ((with_reducible refine rpI ?_); simp -implicitDefEqProofs only [r238, ne_eq, not_false_eq_true, hls, hln, Nat.reduceMul, push_cast, go_sem_proc]) | intro _)
     refine ⟨rest.length, Nat.lt_succ_self _, pre ++ [_], rest, kv4, _, _, by rw [hxs]; simp; rfl, rfl, by simp, ?_, ?_, hlen4, hwr⟩
     ·rw [hu, hdr, hdd]
      simp only [List.head?_nil, List.tail_nil, uwS, thenO, elseO, Option.isSome_none, Bool.false_eq_true, if_false, List.append_assoc, List.cons_append, List.nil_append, hnum]
     ·omega
theorem t238 : ∀ (z : Nat) (l : List St), SizeOf.sizeOf l < z → cnts l ≤ 1000000 → ∀ (m : List St) (mv : V) (H : List Blk) (kv : V) (acc : List Int) (n : Int), (mv = .nils ∧ m = [] ∨ mv = .fs (m.map encS)) → WInv H kv acc n → (acc.length : Int) ≤ n → n + cnts l ≤ 1000000 →
  ACall Tryz.prog 58 [.fs (l.map encS), mv, .ptr 2 0 0, .ptr 3 0 0, .ptr 4 0 0] H (ret1 (.tup []) (WH H kv acc (acc ++ uwL l m n) (n + cnts l)))
 | 0, l, h => absurd h (Nat.not_lt_zero _)
 | z + 1, l, hz => fun hc m mv H kv acc n hm hi ha hn => t238s l hc (fun k r t v lb e a b p ps hmem m mv H kv acc n hm hi ha => by
  have hs := List.sizeOf_lt_of_mem hmem
  simp only [St.mk.sizeOf_spec] at hs
  have hcm := cnts_mem hmem
  simp only [cnt] at hcm
  exact ⟨fun hn => t238 z a (by omega) (by omega) m mv H kv acc n hm hi ha hn, fun hn => t238 z b (by omega) (by omega) m mv H kv acc n hm hi ha hn⟩) m mv H kv acc n hm hi ha hn
end Go.Proofs.YtdgoeblpcnjlbaaGreatDoor.Av
