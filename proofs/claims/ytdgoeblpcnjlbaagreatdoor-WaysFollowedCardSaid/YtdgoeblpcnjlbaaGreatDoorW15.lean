/- Proved: for every list of numbers the law WaysFollowed answers true and leaves its argument as it was (the tied card); no condition beyond the row's own. Text 15 of 15. -/
import Derived.Test.YtdgoeblpcnjlbaaGreatDoorCards
import Derived.Test.YtdgoeblpcnjlbaaGreatDoorTie
import Derived.WalkKit
import Derived.ProofKit
import Derived.OpenShut
import Derived.Carry
import Derived.Deep.DeepHandedRow
import Derived.Lib.LaidTab
import Derived.LaidMore
import Derived.Lay
import Derived.SevenTiedAt
import Derived.Stop.Joined
import Derived.Test.YtdgoeblpcnjlbaaGreatDoorW14
set_option linter.unusedVariables false
set_option linter.unusedSimpArgs false
set_option linter.unusedSectionVars false
set_option linter.all false
namespace Go.Proofs.YtdgoeblpcnjlbaaGreatDoor.Av
open Go.RowKit
set_option maxRecDepth 20000 in
set_option maxHeartbeats 2000000 in
theorem t206 (P : Pla) (hc : total P ≤ 1000000) (hpn : P.procs.length ≤ 1000000) : PCall Tryz.prog 10 [encPl P] (·= paV P) := by
 have h229 := t229 P hc hpn
 simp only [encPl] at h229 ⊢
 rw [opV] at h229
 rw [paV]
 by_cases h0 : ckF P = 0
 ·have hpl : plF P = 0 := by rw [← ck_pl]; exact h0
  have hpr := pl_proc hpl
  have hok2 := okP2uof hpl
  rw [if_pos h0] at h229 ⊢
  have hbn : norefL (bodL P.procs P.procs (cnts P.main)) = true := fsv_noref (bodL_fsv _ _ _)
  have hbL := bodL_length P.procs P.procs (cnts P.main)
  have hbG := bodL_at P
  simp only [bkP, bkC] at h229
  generalize hEE : endsOf P.procs = E at *
  refine PCall.intro c206 900 (by simp) 20 ?_
  simp -implicitDefEqProofs only [s206, go_sem]
  repeat' (first | ((first | ((with_reducible refine cgR h229 ?_ ?_); (·simp [norefL, noref, nrb, hbn, norefL_encP, norefL_encS, norefL_encN, norefL_bool])) | ((with_reducible apply cgF); (·simp -implicitDefEqProofs only [List.map_cons, List.map_nil, hbn, norefL_encP, norefL_encS, norefL_encN, norefL_bool, push_cast, go_sem_proc] <;> rfl); (with_reducible exact h229); (·rfl)) | (with_reducible refine F_q2 ?_)); simp -implicitDefEqProofs only [Int.reduceEq, go_sem]) | (with_reducible refine Fork.mk ?_ ?_) | (with_reducible refine And.intro ?_ ?_) | ((with_reducible refine rpI ?_); simp -implicitDefEqProofs only [r206, push_cast, go_sem_proc]) | intro _)
  rename_i hlen
  generalize hc0 : V.fs (P.procs.map encP) = c0 at *
  have hc0 := hc0.symm
  generalize V.fs (P.main.map encS) = c1 at *
  generalize V.fs ((num P.main 0).map (encN P.procs)) = c2 at *
  generalize hBL : bodL P.procs P.procs (cnts P.main) = BL at *
  refine F_loop (fun m e H => ∃ pre post kv js, P.procs = pre ++ post ∧ m = post.length ∧ e 1 = .ptr 0 0 0 ∧ e 4 = .rptr [c0, c1, c2, .fs BL, .fs (E.map .bool)] ∧ e 6 = kv ∧ e 28 = .fs (P.procs.map encP) ∧ e 29 = .int .i64 P.procs.length ∧ e 30 = .int .i64 pre.length ∧
   KQ P.procs (Blk.row [.agg [c0, c1]]) H js kv (K0 pre)) P.procs.length
   ⟨[], P.procs, .nils, [], rfl, rfl, by simp [upd, env0], by simp [upd, env0], by simp [upd, env0], by simp [upd, env0, hc0], by simp [upd, env0], by simp [upd, env0], KQ.init _ _⟩ ?_
  rintro m e H ⟨pre, post, kv, js, hxs, rfl, h1, h4, h6, h28, h29, h30, hkq⟩
  have hc1 := hkq.ov.one
  have hone := hkq.ov.vone
  simp only [V.one] at hone
  cases post with
  | nil =>
   have hpx : pre = P.procs := by rw [hxs]; simp
   rw [hpx] at hkq
   simp -implicitDefEqProofs only [h1, h4, h6, h28, h29, h30, mid_not hxs, go_sem]
   refine F_loop (fun m e H => ∃ K mo, m = 2 * flsK K + (if mo then 1 else 0) ∧ KS P.procs K ∧ PLo P.procs (MK K) ∧ (mo = false → PCl P.procs (MK K)) ∧ KQ P.procs (Blk.row [.agg [c0, c1]]) H js kv K ∧
    e 1 = .ptr 0 0 0 ∧ e 4 = .rptr [c0, c1, c2, .fs BL, .fs (E.map .bool)] ∧ e 6 = kv ∧ e 9 = .bool mo) (2 * flsK (K0 P.procs) + 1)
    ⟨K0 P.procs, true, rfl, K0uS _, (by rw [K0uM]; exact PLo.empty _), (fun h => by cases h), hkq, by simp [upd, h1], by simp [upd, h4], by simp [upd, h6], by simp [upd]⟩ ?_
   clear hkq h1 h4 h6 h28 h29 h30 e H
   rintro m e H ⟨K, mo, rfl, hS, hlo, hcl, hkq, h1, h4, h6, h9⟩
   have hH0 := hkq.h0
   cases mo with
   | false =>
    simp -implicitDefEqProofs only [h1, h4, h6, h9, hH0, hc0, go_sem]
    intro _
    refine ⟨by omega, ?_⟩
    obtain ⟨D, hz, hkeep, hk0⟩ := hkq.freeze [Blk.row (List.replicate P.procs.length V.nils)]
    refine ⟨D, _, hz, ?_⟩
    simp -implicitDefEqProofs only [h1, h4, h6, h9, List.length_map, go_sem]
    intro hlK
    have hKl := hS.1
    have hrow : (killL D (H ++ [Blk.row (List.replicate P.procs.length V.nils)]))[H.length]? = some (Blk.row (List.replicate P.procs.length V.nils)) := by rw [hkeep _ (Nat.le_refl _)]; simp
    have hpar : K.map selB = parR (parOf P.procs) P.procs 0 := by rw [selB_par hS, par_eq (hcl rfl) hlo]
    obtain ⟨o, hO⟩ : ∃ o, o = H.length := ⟨_, rfl⟩
    rw [← hO] at hrow ⊢
    refine F_loop (fun m e H => ∃ pre post vs, K = pre ++ post ∧ m = post.length ∧ e 14 = .ms o 0 P.procs.length ∧ e 91 = .fs (K.map encB) ∧ e 92 = .int .i64 K.length ∧ e 93 = .int .i64 pre.length ∧ GV H o vs (pre.map selB ++ List.replicate post.length [])) K.length
     ⟨[], K, _, rfl, rfl, by simp [upd], by simp [upd], by simp [upd], by simp [upd], by simpa [hKl] using GV.init hrow⟩ ?_
    clear hz hkeep hk0 hrow hkq h1 h4 h6 h9 hO e H hH0
    rintro m e H ⟨pre, post, vs, hxs, rfl, h14, h91, h92, h93, hgv⟩
    cases post with
    | nil =>
     have hpx : pre = K := by rw [hxs]; simp
     rw [hpx] at hgv
     have hz : fz H 19 _ = _ := hgv.fz 16
     simp only [List.length_nil, List.replicate_zero, List.append_nil, List.length_map, hKl] at hz
     rw [fz_ms, hpar] at hz
     simp -implicitDefEqProofs only [h14, h91, h92, h93, mid_not hxs, go_sem]
     simp -implicitDefEqProofs only [r206, h14, hz, push_cast, go_sem_proc]
    | cons l post =>
     have hg := mid_get encB hxs
     simp only [encB] at hg
     simp -implicitDefEqProofs only [h14, h91, h92, h93, mid_lt hxs, mid_wrap hxs hlK, hg, encB, go_sem]
     intro hll
     have hpl : pre.length < K.length := by rw [hxs]; simp
     have hset0 : (pre.map selB ++ List.replicate (l :: post).length []).set pre.length (selI (fun k => l.getD k false) 0) = pre.map selB ++ List.replicate (l :: post).length [] := by
      simp [List.set_append, selI, List.replicate_succ]
     have hset1 : ∀ x, (pre.map selB ++ List.replicate (l :: post).length []).set pre.length x = pre.map selB ++ x :: List.replicate post.length [] := fun x => by
      simp [List.set_append, List.replicate_succ]
     refine F_loop (fun m e H => ∃ rp rq vs, l = rp ++ rq ∧ m = rq.length ∧ e 14 = .ms o 0 P.procs.length ∧ e 91 = .fs (K.map encB) ∧ e 92 = .int .i64 K.length ∧ e 93 = .int .i64 pre.length ∧
      e 15 = .int .i64 pre.length ∧ e 98 = .fs (l.map .bool) ∧ e 99 = .int .i64 l.length ∧ e 100 = .int .i64 rp.length ∧ GV H o vs ((pre.map selB ++ List.replicate (l :: post).length []).set pre.length (selI (fun k => l.getD k false) rp.length))) l.length
      ⟨[], l, vs, rfl, rfl, by simp [upd, h14], by simp [upd, h91, encB], by simp [upd, h92], by simp [upd, h93], by simp [upd], by simp [upd], by simp [upd], by simp [upd], by rw [List.length_nil, hset0]; exact hgv⟩ ?_
     clear h14 h91 h92 h93 hgv e H vs
     rintro m e H ⟨rp, rq, vs, hrs, rfl, h14, h91, h92, h93, h15, h98, h99, h100, hgv⟩
     rw [hset1] at hgv
     cases rq with
     | nil =>
      have hrx : rp = l := by rw [hrs]; simp
      rw [hrx] at hgv
      simp -implicitDefEqProofs only [h14, h91, h92, h93, h15, h98, h99, h100, mid_not hrs, mid_wrap hxs hlK, go_sem]
      refine ⟨_, Nat.lt_succ_self _, pre ++ [l], post, vs, by simp [hxs], rfl, by simp, ?_⟩
      rw [List.map_append, List.append_assoc]
      exact hgv
     | cons b rq =>
      have hgb := mid_get V.bool hrs
      have hRi : (pre.map selB ++ selI (fun k => l.getD k false) rp.length :: List.replicate post.length [])[pre.length]? = some (selI (fun k => l.getD k false) rp.length) := by
       rw [List.getElem?_append_right (by simp)]; simp
      have hvl := hgv.len
      simp only [List.length_append, List.length_map, List.length_cons, List.length_replicate] at hvl
      have hpk : K.length = pre.length + (post.length + 1) := by rw [hxs]; simp
      obtain ⟨v, hv⟩ : ∃ v, vs[pre.length]? = some v := ⟨vs[pre.length]'(by omega), List.getElem?_eq_getElem _⟩
      have hov := hgv.ov _ _ _ hv hRi
      have hvg : vs.getD pre.length .any = v := by rw [List.getD_eq_getElem?_getD, hv]; rfl
      have hc1 := hov.one
      have hone := hov.vone
      simp only [V.one] at hone
      have hrow := hgv.row
      have hvlen : vs.length = P.procs.length := by omega
      have hix : ixP (pre.length : Int) P.procs.length := ⟨by omega, by simp; omega⟩
      have hpl2 : pre.length < P.procs.length := by omega
      have hsl := selI_len (fun k => l.getD k false) rp.length
      have hl12 : l.length ≤ 12 := by
       have hqm : P.procs[pre.length]? = some (P.procs[pre.length]'(by omega)) := List.getElem?_eq_getElem _
       have h1 := hS.2 _ _ hqm
       have h2 := (hpr _ (List.mem_of_getElem? hqm)).2.2.2
       have h3 : K.getD pre.length [] = l := by rw [hxs]; simp [List.getD]
       rw [h3] at h1; omega
      have hrl := mid_lt hrs
      have hlb : l.getD rp.length false = b := by rw [hrs]; simp [List.getD]
      have hss := selI_succ (fun k => l.getD k false) rp.length
      rw [hlb] at hss
      simp -implicitDefEqProofs only [h14, h91, h92, h93, h15, h98, h99, h100, mid_lt hrs, mid_wrap hrs hll, hgb, hrow, hvg, hc1, hone, hix, hvlen, hpl2, Nat.le_refl, go_sem]
      repeat' (first | ((with_reducible refine F_q2 ?_); simp -implicitDefEqProofs only [h14, h91, h92, h93, h15, h98, h99, h100, mid_lt hrs, mid_wrap hrs hll, hgb, hrow, hvg, hc1, hone, hix, hvlen, hpl2, Nat.le_refl, go_sem]) | (with_reducible refine Fork.mk ?_ ?_) | (with_reducible refine And.intro ?_ ?_) | ((with_reducible refine rpI ?_); simp -implicitDefEqProofs only [r206, push_cast, go_sem_proc]) | intro _)
      ·rename_i hb
       have hb : b = true := by simpa using hb
       subst hb
       refine app_OV hov (fun i o l h => by cases h) (headOk_map _ _ (fun x => by simp [cellsV]) _) (by simp only [List.length_map, List.length_cons, List.length_nil]; omega) ?_
       rintro kv' H' hov' hle hfr
       have hrow' : H'[o]? = some (.row vs) := by rw [(hfr o (List.getElem?_eq_some_iff.1 hrow).1 (hgv.ne _ _ hv)).1]; exact hrow
       have hc1' := hov'.one
       have hone' := hov'.vone
       simp only [V.one] at hone'
       have hvf : v = .nils ∨ ∃ id n, v = .ms id 0 n := by
        rcases hov with ⟨_, h⟩ | ⟨_, id, h, _⟩
        ·exact .inl h
        ·exact .inr ⟨_, _, h⟩
       have hput := hgv.put (l' := selI (fun k => l.getD k false) (rp.length + 1)) hv hRi (by rw [hss]; simpa using hov') hle hfr
       rw [List.set_append_right _ _ (by simp)] at hput
       simp only [List.length_map, Nat.sub_self, List.set_cons_zero] at hput
       rcases hvf with rfl | ⟨id, n, rfl⟩
       all_goals
        simp -implicitDefEqProofs only [h14, h91, h92, h93, h15, h98, h99, h100, mid_lt hrs, mid_wrap hrs hll, hgb, hrow', hvg, hc1', hone', hix, hvlen, hpl2, Nat.le_refl, go_sem]
        refine ⟨_, Nat.lt_succ_self _, rp ++ [true], rq, vs.set pre.length kv', by simp [hrs], rfl, by simp, ?_⟩
        rw [show List.replicate (post.length + 1) ([] : List Int) = List.replicate (l :: post).length [] from rfl, hset1, List.length_append, List.length_singleton]
        exact hput
      ·rename_i hb
       have hb : b = false := by simpa using hb
       subst hb
       refine ⟨_, Nat.lt_succ_self _, rp ++ [false], rq, vs, by simp [hrs], rfl, by simp, ?_⟩
       rw [show List.replicate (post.length + 1) ([] : List Int) = List.replicate (l :: post).length [] from rfl, hset1, List.length_append, List.length_singleton, hss]
       simpa using hgv
   | true =>
    simp -implicitDefEqProofs only [h1, h4, h6, h9, hH0, hc0, go_sem]
    intro _
    refine F_loop (fun m e H => ∃ pre post K' mo, P.procs = pre ++ post ∧ m = post.length ∧ KS P.procs K' ∧ PLo P.procs (MK K') ∧ (mo = true → flsK K' < flsK K) ∧
     (mo = false → K' = K ∧ ∀ (i : Nat) q (k : Nat) r, pre[i]? = some q → q.roles[k]? = some r → paL P.procs (MK K) r q.steps = true → MK K i k = true) ∧ KQ P.procs (Blk.row [.agg [c0, c1]]) H js kv K' ∧
     e 1 = .ptr 0 0 0 ∧ e 4 = .rptr [c0, c1, c2, .fs BL, .fs (E.map .bool)] ∧ e 6 = kv ∧ e 9 = .bool mo ∧ e 44 = .fs (P.procs.map encP) ∧ e 45 = .int .i64 P.procs.length ∧ e 46 = .int .i64 pre.length) P.procs.length
     ⟨[], P.procs, K, false, rfl, rfl, hS, hlo, (fun h => by cases h), (fun _ => ⟨rfl, fun i q k r h => by simp at h⟩), hkq, by simp [upd, h1], by simp [upd, h4], by simp [upd, h6], by simp [upd], by simp [upd], by simp [upd], by simp [upd]⟩ ?_
    clear hkq h1 h4 h6 h9 e H hH0
    rintro m e H ⟨pre, post, K', mo, hxs, rfl, hS', hlo', hmt, hmf, hkq, h1, h4, h6, h9, h44, h45, h46⟩
    cases post with
    | nil =>
     have hpx : pre = P.procs := by rw [hxs]; simp
     simp -implicitDefEqProofs only [h1, h4, h6, h9, h44, h45, h46, mid_not hxs, go_sem]
     refine ⟨2 * flsK K' + (if mo then 1 else 0), ?_, K', mo, rfl, hS', hlo', (fun h => ?_), (hc0 ▸ hkq), ?_⟩
     ·cases mo with
      | true => have := hmt rfl; simp; omega
      | false => have := (hmf rfl).1; subst this; simp
     ·obtain ⟨rfl, h'⟩ := hmf h
      exact fun i q k r hq hr hp => h' i q k r (by rw [hpx]; exact hq) hr hp
     ·exact ⟨by rw [hc0], rfl⟩
    | cons q post =>
     have hg := mid_get encP hxs
     simp only [encP] at hg
     simp -implicitDefEqProofs only [h1, h4, h6, h9, h44, h45, h46, mid_lt hxs, mid_wrap hxs hlen, hg, go_sem]
     intro hql
     have hpl : pre.length < P.procs.length := by rw [hxs]; simp
     have hqx : P.procs[pre.length]? = some q := by rw [hxs]; simp
     refine F_loop (fun m e H => ∃ rp rq K2 mo2, q.roles = rp ++ rq ∧ m = rq.length ∧ KS P.procs K2 ∧ PLo P.procs (MK K2) ∧ (mo2 = true → flsK K2 < flsK K) ∧
      (mo2 = false → K2 = K ∧ (∀ (i : Nat) q (k : Nat) r, pre[i]? = some q → q.roles[k]? = some r → paL P.procs (MK K) r q.steps = true → MK K i k = true) ∧ ∀ (k : Nat) r, rp[k]? = some r → paL P.procs (MK K) r q.steps = true → MK K pre.length k = true) ∧ KQ P.procs (Blk.row [.agg [c0, c1]]) H js kv K2 ∧
      e 1 = .ptr 0 0 0 ∧ e 4 = .rptr [c0, c1, c2, .fs BL, .fs (E.map .bool)] ∧ e 6 = kv ∧ e 9 = .bool mo2 ∧ e 44 = .fs (P.procs.map encP) ∧ e 45 = .int .i64 P.procs.length ∧ e 46 = .int .i64 pre.length ∧
      e 10 = .int .i64 pre.length ∧ e 52 = .fs (q.roles.map .str) ∧ e 53 = .int .i64 q.roles.length ∧ e 54 = .int .i64 rp.length) q.roles.length
      ⟨[], q.roles, K', mo, rfl, rfl, hS', hlo', hmt, (fun h => ⟨(hmf h).1, (hmf h).2, fun k r h => by simp at h⟩), hkq.app _, by simp [upd, h1], by simp [upd, h4], by simp [upd, h6], by simp [upd, h9], by simp [upd, h44], by simp [upd, h45], by simp [upd, h46], by simp [upd], by simp [upd], by simp [upd], by simp [upd]⟩ ?_
     clear hkq h1 h4 h6 h9 h44 h45 h46 e H hmt hmf hS' hlo' K' mo
     rintro m e H ⟨rp, rq, K', mo, hrs, rfl, hS', hlo', hmt, hmf, hkq, h1, h4, h6, h9, h44, h45, h46, h10, h52, h53, h54⟩
     cases rq with
     | nil =>
      have hrx : rp = q.roles := by rw [hrs]; simp
      simp -implicitDefEqProofs only [h1, h4, h6, h9, h44, h45, h46, h10, h52, h53, h54, mid_not hrs, mid_wrap hxs hlen, go_sem]
      refine ⟨_, Nat.lt_succ_self _, pre ++ [q], post, K', mo, by simp [hxs], rfl, hS', hlo', hmt, (fun h => ?_), hkq, rfl, by simp⟩
      obtain ⟨rfl, ha, hb⟩ := hmf h
      refine ⟨rfl, fun i q' k r hq' hr hp => ?_⟩
      by_cases hi : i < pre.length
      ·rw [List.getElem?_append_left hi] at hq'; exact ha i q' k r hq' hr hp
      ·rw [List.getElem?_append_right (by omega)] at hq'
       have : i - pre.length = 0 := by have := (List.getElem?_eq_some_iff.1 hq').1; simp at this; omega
       have : i = pre.length := by omega
       subst this
       simp at hq'; subst hq'
       exact hb k r (by rw [hrx]; exact hr) hp
     | cons r rq =>
      have hgr := mid_get V.str hrs
      have hKl := hS'.1
      obtain ⟨id, j, l, hkv, hid, hj, hl, hgl, hjr⟩ := hkq.get (i := pre.length) (by omega)
      have hll : l.length = q.roles.length := by
       have := hS'.2 _ _ hqx
       rw [List.getD_eq_getElem?_getD, hl] at this
       exact this
      have hz : fz H 20 _ = _ := hkq.fz 17
      have hrl := mid_lt hrs
      have hix1 : ixP (pre.length : Int) K'.length := ⟨by omega, by simp; omega⟩
      have hix2 : ixP (rp.length : Int) l.length := ⟨by omega, by simp; omega⟩
      have hkl := ksE_len hkq.len
      have hgb : (l.map V.bool).getD rp.length .any = .bool (l.getD rp.length false) := by
       simp [List.getD, List.getElem?_map, List.getElem?_eq_getElem (show rp.length < l.length by omega)]
      have hlb : l[rp.length]? = some (l.getD rp.length false) := by rw [List.getD_eq_getElem?_getD, List.getElem?_eq_getElem (by omega)]; rfl
      have hMK : MK K' pre.length rp.length = l.getD rp.length false := by simp [MK, List.getD_eq_getElem?_getD, hl]
      have hrr : q.roles[rp.length]? = some r := by rw [hrs]; simp
      generalize hbv : l.getD rp.length false = bv at *
      have hbt : bodyAt P.procs pre.length = q.steps := by simp [bodyAt, hqx]
      have hBG := hbG pre.length hpl
      rw [hbt] at hBG
      have h232 := t232 P.procs K' hS' r _ q.steps (Nat.lt_succ_self _) (hok2.2 q (by rw [hxs]; simp)) (offAt P pre.length)
      have hnq : norefL ((num q.steps (offAt P pre.length)).map (encN P.procs)) = true := norefL_encN _ _
      have hnK := norefL_encB K'
      have hKl2 : pre.length < K'.length := by omega
      have hrl2 : rp.length < l.length := by omega
      rw [hkv, fz_ms] at hz
      generalize hqt : (num q.steps (offAt P pre.length)).map (encN P.procs) = qt at *
      generalize hpa : paL P.procs (MK K') r q.steps = pa at *
      simp -implicitDefEqProofs only [h1, h4, h6, h9, h44, h45, h46, h10, h52, h53, h54, mid_lt hrs, mid_wrap hrs hql, hgr, hkv, hid, hgl, hjr, hix1, hix2, hkl, hgb, Nat.le_refl, hKl2, hrl2, hBG, hbL, hpl, go_sem]
      repeat' (first | ((first | ((with_reducible refine cgR h232 ?_ ?_); (·simp [norefL, noref, nrb, hz, hnq, hnK])) | ((with_reducible apply cgF); (·simp -implicitDefEqProofs only [List.map_cons, List.map_nil, hz, hnq, hnK, push_cast, go_sem_proc] <;> rfl); (with_reducible exact h232); (·rfl)) | (with_reducible refine F_q2 ?_)); simp -implicitDefEqProofs only [h1, h4, h6, h9, h44, h45, h46, h10, h52, h53, h54, mid_lt hrs, mid_wrap hrs hql, hgr, hkv, hid, hgl, hjr, hix1, hix2, hkl, hgb, Nat.le_refl, hKl2, hrl2, hBG, hbL, hpl, go_sem]) | (with_reducible refine Fork.mk ?_ ?_) | (with_reducible refine And.intro ?_ ?_) | ((with_reducible refine rpI ?_); simp -implicitDefEqProofs only [r206, push_cast, go_sem_proc]) | intro _)
      ·rename_i hb1 ht1
       have hb1 : bv = false := by simpa using hb1
       have ht1 : pa = true := by simpa using ht1
       subst hb1 ht1
       have hfl := flsK_set hl hlb
       refine ⟨_, Nat.lt_succ_self _, rp ++ [r], rq, K'.set pre.length (l.set rp.length true), true, by simp [hrs], rfl, hS'.set hl, hlo'.set hl hrl2 hqx hrr hpa, (fun _ => ?_), (fun h => by cases h), ?_, rfl, by simp⟩
       ·cases mo with
        | true => have := hmt rfl; omega
        | false => have := (hmf rfl).1; subst this; omega
       ·have := hkq.put (l' := l.set rp.length true) hj hl (by simp)
        rw [List.map_set, hkv] at this
        exact this
      ·rename_i hb1 ht1
       have hb1 : bv = false := by simpa using hb1
       have ht1 : pa = false := by simpa using ht1
       subst hb1 ht1
       refine ⟨_, Nat.lt_succ_self _, rp ++ [r], rq, K', mo, by simp [hrs], rfl, hS', hlo', hmt, (fun h => ?_), (by rw [← hkv]; exact hkq), rfl, by simp⟩
       obtain ⟨rfl, ha, hb⟩ := hmf h
       refine ⟨rfl, ha, fun k r' hr' hp => ?_⟩
       by_cases hk : k < rp.length
       ·rw [List.getElem?_append_left hk] at hr'; exact hb k r' hr' hp
       ·rw [List.getElem?_append_right (by omega)] at hr'
        have : k - rp.length = 0 := by have := (List.getElem?_eq_some_iff.1 hr').1; simp at this; omega
        rw [this] at hr'; simp at hr'; subst hr'
        rw [hpa] at hp; cases hp
      ·rename_i hb1
       have hb1 : bv = true := by simpa using hb1
       subst hb1
       refine ⟨_, Nat.lt_succ_self _, rp ++ [r], rq, K', mo, by simp [hrs], rfl, hS', hlo', hmt, (fun h => ?_), (by rw [← hkv]; exact hkq), rfl, by simp⟩
       obtain ⟨rfl, ha, hb⟩ := hmf h
       refine ⟨rfl, ha, fun k r' hr' hp => ?_⟩
       by_cases hk : k < rp.length
       ·rw [List.getElem?_append_left hk] at hr'; exact hb k r' hr' hp
       ·rw [List.getElem?_append_right (by omega)] at hr'
        have : k - rp.length = 0 := by have := (List.getElem?_eq_some_iff.1 hr').1; simp at this; omega
        have : k = rp.length := by omega
        subst this
        exact hMK
  | cons q post =>
   have hg := mid_get encP hxs
   simp only [encP] at hg
   have hq := hpr q (by rw [hxs]; simp)
   have hr0 : (0 : Int) ≤ (q.roles.length : Int) ∧ (q.roles.length : Int) ≤ 1000000000 := by omega
   have hkl : (ksE js (K0 pre)).length = pre.length := by rw [ksE_len hkq.len]; simp [K0]
   have hpl : pre.length < P.procs.length := by rw [hxs]; simp
   simp -implicitDefEqProofs only [h1, h4, h6, h28, h29, h30, mid_lt hxs, mid_wrap hxs hlen, hg, hr0, Int.toNat_natCast, go_sem]
   repeat' (first | ((with_reducible refine F_q2 ?_); simp -implicitDefEqProofs only [h1, h4, h6, h28, h29, h30, mid_lt hxs, mid_wrap hxs hlen, hg, hr0, Int.toNat_natCast, go_sem]) | (with_reducible refine Fork.mk ?_ ?_) | (with_reducible refine And.intro ?_ ?_) | ((with_reducible refine rpI ?_); simp -implicitDefEqProofs only [r206, push_cast, go_sem_proc]) | intro _)
   refine app_OV (hkq.app _).ov (fun i o l h => by cases h) (headOk_ksE _ _) (by simp [hkl]; omega) ?_
   rintro kv' H' hov' hle hfr
   simp -implicitDefEqProofs only [h1, h4, h6, h28, h29, h30, mid_lt hxs, mid_wrap hxs hlen, go_sem]
   refine ⟨_, Nat.lt_succ_self _, pre ++ [q], post, kv', js ++ [H.length + 1], by simp [hxs], rfl, rfl, by simp, ?_⟩
   have hK : K0 (pre ++ [q]) = K0 pre ++ [List.replicate q.roles.length false] := by simp [K0]
   rw [hK]
   exact hkq.grow _ (l := List.replicate q.roles.length false) (by omega) (by rw [List.getElem?_append_right (by omega)]; simp) (by simpa using hov') hfr
 ·rw [if_neg h0] at h229 ⊢
  refine PCall.intro c206 900 (by simp) 20 ?_
  simp -implicitDefEqProofs only [s206, go_sem]
  repeat' (first | ((first | ((with_reducible refine cgR h229 ?_ ?_); (·simp [norefL, noref, nrb])) | ((with_reducible apply cgF); (·simp -implicitDefEqProofs only [List.map_cons, List.map_nil, push_cast, go_sem_proc] <;> rfl); (with_reducible exact h229); (·rfl)) | (with_reducible refine F_q2 ?_)); simp -implicitDefEqProofs only [h0, go_sem]) | (with_reducible refine Fork.mk ?_ ?_) | (with_reducible refine And.intro ?_ ?_) | ((with_reducible refine rpI ?_); simp -implicitDefEqProofs only [r206, push_cast, go_sem_proc]) | intro _)
  all_goals (try simp_all)
structure KE {α : Type} [DecidableEq α] (sh : Bool × List Bool) (enc : α → V) : Prop where
 fit : ∀ x, kfit sh (enc x) = true
 eq : ∀ x y, keq (enc x) (enc y) = some (decide (x = y))
def addG {α : Type} [DecidableEq α] (l : List α) (x : α) : List α := if x ∈ l then l else l ++ [x]
def trG {α : Type} (l : List α) : List V := l.map fun _ => .bool true
theorem mem_addG {α : Type} [DecidableEq α] {l : List α} {x y : α} : y ∈ addG l x ↔ y ∈ l ∨ y = x := by
 unfold addG
 split
 ·rename_i h
  constructor
  ·exact .inl
  ·rintro (h' | rfl)
   ·exact h'
   ·exact h
 ·simp
section
variable {α : Type} [DecidableEq α] {sh : Bool × List Bool} {enc : α → V}
theorem KE.kOk (h : KE sh enc) (l : List α) (x : α) : kOk sh (l.map enc) (enc x) = true := by
 simp [Av.kOk, h.fit, h.eq]
theorem KE.mget (h : KE sh enc) (x : α) : ∀ l : List α, mget (l.map enc) (trG l) (enc x) = if x ∈ l then some (.bool true) else none
 | [] => by simp [Av.mget, trG]
 | y :: l => by
  have ih := KE.mget h x l
  simp only [trG] at ih
  simp only [List.map_cons, trG, Av.mget, ih, h.eq, Option.some.injEq, decide_eq_true_eq, List.mem_cons]
  by_cases hx : x = y <;> simp [hx]
theorem KE.mres (h : KE sh enc) (x : α) (l : List α) : mres false (.bool false) (Av.mget (l.map enc) (trG l) (enc x)) = .bool (decide (x ∈ l)) := by
 rw [h.mget, Av.mres]
 by_cases hx : x ∈ l <;> simp [hx]
theorem KE.any (h : KE sh enc) (x : α) : ∀ l : List α, (l.map enc).any (fun q => keq (enc x) q == some true) = decide (x ∈ l)
 | [] => rfl
 | y :: l => by
  rw [List.map_cons, List.any_cons, KE.any h x l, h.eq]
  by_cases hx : x = y <;> simp [hx]
theorem KE.mputK (h : KE sh enc) (x : α) (l : List α) : mputK (l.map enc) (enc x) = (addG l x).map enc := by
 rw [Av.mputK, h.any, addG]
 by_cases hx : x ∈ l <;> simp [hx]
theorem KE.mputV (h : KE sh enc) (x : α) : ∀ l : List α, mputV (l.map enc) (trG l) (enc x) (.bool true) = trG (addG l x)
 | [] => by simp [Av.mputV, trG, addG]
 | y :: l => by
  have ih := KE.mputV h x l
  simp only [trG, List.map_cons, Av.mputV, h.eq, Option.some.injEq, decide_eq_true_eq] at ih ⊢
  by_cases hx : x = y
  ·simp [hx, addG]
  ·rw [if_neg hx, ih]
   simp only [addG, List.mem_cons, hx, false_or]
   split <;> simp
end
theorem norefL_trG {α : Type} (l : List α) : norefL (trG l) = true := norefL_mapf (fun x => by simp [noref]) l
theorem fz_trG {α : Type} (H : List Blk) (n : Nat) (l : List α) : fzL (fz H (n + 1)) (trG l) = some (trG l) := fzL_map _ _ (fun x => fz_bool _ _ true) l
attribute [push_cast] norefL_trG fz_trG
attribute [simp] norefL_trG
def enc2 (x : Int × Int) : V := .agg [.int .i64 x.1, .int .i64 x.2]
theorem ke2 : KE (true, [false, false]) enc2 where
 fit x := by simp [enc2, kfit, kfitL, kfit1]
 eq x y := by
  obtain ⟨a, b⟩ := x
  obtain ⟨c, d⟩ := y
  simp only [enc2, keq, keqL, keq1, if_true, Option.some.injEq, Prod.mk.injEq]
  by_cases h : a = c <;> by_cases h' : b = d <;> simp [h, h']
theorem kOk2 (l : List (Int × Int)) (a b : Int) : kOk (true, [false, false]) (l.map enc2) (.agg [.int .i64 a, .int .i64 b]) = true := ke2.kOk l (a, b)
theorem mres2 (l : List (Int × Int)) (a b : Int) : mres false (.bool false) (mget (l.map enc2) (trG l) (.agg [.int .i64 a, .int .i64 b])) = .bool (decide ((a, b) ∈ l)) := (ke2.mres (a, b) l).trans (by congr)
theorem mputK2 (l : List (Int × Int)) (a b : Int) : mputK (l.map enc2) (.agg [.int .i64 a, .int .i64 b]) = (addG l (a, b)).map enc2 := ke2.mputK (a, b) l
theorem mputV2 (l : List (Int × Int)) (a b : Int) : mputV (l.map enc2) (trG l) (.agg [.int .i64 a, .int .i64 b]) (.bool true) = trG (addG l (a, b)) := ke2.mputV (a, b) l
theorem norefL_enc2 (l : List (Int × Int)) : norefL (l.map enc2) = true := norefL_mapf (fun x => by simp [noref, norefL, enc2]) l
theorem fz_enc2 (H : List Blk) (n : Nat) (l : List (Int × Int)) : fzL (fz H (n + 2)) (l.map enc2) = some (l.map enc2) := fzL_map _ _ (fun x => by simp [enc2, fz_agg, fzL_cons, fzL_nil, fz_int, fzC_some]) l
attribute [push_cast] norefL_enc2 fz_enc2
attribute [simp] norefL_enc2
def MS2 (S : List (Int × Int)) (i k : Nat) : Bool := decide (((i : Int), (k : Int)) ∈ S)
structure S2 (n : Nat) (S : List (Int × Int)) : Prop where
 nd : S.Nodup
 lo : ∀ x ∈ S, 0 ≤ x.1 ∧ 0 ≤ x.2
 hi : ∀ x ∈ S, x.1 < n ∧ x.2 < 12
theorem S2.len {n : Nat} {S : List (Int × Int)} (h : S2 n S) : S.length ≤ 12 * n := by
 have hp : SetP (12 * n) (S.map fun x => x.1 * 12 + x.2) := by
  refine ⟨fun y hy => ?_, fun y hy => ?_, ?_⟩
  ·obtain ⟨x, hx, rfl⟩ := List.mem_map.1 hy
   have := h.lo x hx; omega
  ·obtain ⟨x, hx, rfl⟩ := List.mem_map.1 hy
   have := h.lo x hx; have := h.hi x hx; omega
  ·refine List.pairwise_map.2 (h.nd.imp_of_mem fun {a b} ha hb hab e => hab ?_)
   have := h.lo a ha; have := h.hi a ha; have := h.lo b hb; have := h.hi b hb
   have h1 : a.1 = b.1 := by omega
   have h2 : a.2 = b.2 := by omega
   exact Prod.ext h1 h2
 have := hp.len
 simpa using this
theorem S2.add {n : Nat} {S : List (Int × Int)} (h : S2 n S) {i k : Nat} (hi : i < n) (hk : k < 12) : S2 n (addG S ((i : Int), (k : Int))) := by
 refine ⟨?_, fun x hx => ?_, fun x hx => ?_⟩
 ·unfold addG
  split
  ·exact h.nd
  ·rename_i hn
   rw [List.nodup_append]
   refine ⟨h.nd, by simp, fun a ha b hb => ?_⟩
   simp at hb; subst hb
   exact fun e => hn (e ▸ ha)
 ·rcases mem_addG.1 hx with hx | rfl
  ·exact h.lo x hx
  ·simp
 ·rcases mem_addG.1 hx with hx | rfl
  ·exact h.hi x hx
  ·simp; omega
theorem PLo.add2 {X : List Pr} {S : List (Int × Int)} (h : PLo X (MS2 S)) {i k : Nat} (hc : ∀ C, PCl X C → C i k = true) : PLo X (MS2 (addG S ((i : Int), (k : Int)))) := fun C hC a b hab => by
 simp only [MS2, decide_eq_true_eq] at hab
 rcases mem_addG.1 hab with hab | hab
 ·exact h C hC a b (by simpa [MS2] using hab)
 ·injection hab with h1 h2
  have h1 : a = i := by omega
  have h2 : b = k := by omega
  subst h1 h2; exact hc C hC
def Sat (P : Pla) (S : List (Int × Int)) (y : Spo) (rs : List ByteArray) : Prop := ∀ (i : Nat) q, y.2.1 = i → P.procs[i]? = some q →
 match y.1 with | .mk k _ _ _ _ _ _ _ p _ => ∀ (j : Nat) r, rs[j]? = some r → (k = 5 → MS2 S (procI P.procs p).toNat j = true) → MS2 S i (ixF (fun z => decide (r = z)) q.roles 0).toNat = true
def rolesY (y : Spo) : List ByteArray := match y.1 with | .mk k r t _ _ _ _ _ _ ps => rolesS k r t ps
theorem PCl.of_sat {P : Pla} (h : plF P = 0) {S : List (Int × Int)} (hS : ∀ y ∈ spots P, Sat P S y (rolesY y)) : PCl P.procs (MS2 S) := by
 refine PCl.of_spots h (fun y hy i q hi hq => ?_)
 have := hS y hy i q hi hq
 obtain ⟨⟨k, r, t, v, l, e, a, b, p, ps⟩, pr, la⟩ := y
 exact this
theorem Sat.snoc {P : Pla} {S : List (Int × Int)} {k : Int} {r t v l : ByteArray} {e : Ex} {a b : List St} {p : ByteArray} {ps : List ByteArray} {i : Nat} {la : Bool} {rp : List ByteArray} {r2 : ByteArray} {q : Pr} (hq : P.procs[i]? = some q)
  (h : Sat P S (.mk k r t v l e a b p ps, (i : Int), la) rp) (hn : (k = 5 → MS2 S (procI P.procs p).toNat rp.length = true) → MS2 S i (ixF (fun z => decide (r2 = z)) q.roles 0).toNat = true) : Sat P S (.mk k r t v l e a b p ps, (i : Int), la) (rp ++ [r2]) := by
 intro i' q' hi' hq'
 simp only at hi'
 have : i = i' := by omega
 subst this
 rw [hq] at hq'; cases hq'
 intro j r' hj
 by_cases hjl : j < rp.length
 ·rw [List.getElem?_append_left hjl] at hj
  exact h i q rfl hq j r' hj
 ·rw [List.getElem?_append_right (by omega)] at hj
  have h0 : j - rp.length = 0 := by have := (List.getElem?_eq_some_iff.1 hj).1; simp at this; omega
  have : j = rp.length := by omega
  subst this
  simp at hj; subst hj
  exact hn
theorem ixF_lt {α : Type} (p : α → Bool) (xs : List α) : ixF p xs 0 < xs.length := by
 rcases ixF_zip p xs 0 (by omega) with ⟨hI, _⟩ | ⟨pre, q, post, hxs, hI, hF⟩
 ·rw [hI]; omega
 ·rw [hI, hxs]; simp; omega
set_option maxRecDepth 20000 in
set_option maxHeartbeats 2000000 in
theorem t239 (P : Pla) (hc : total P ≤ 1000000) (hpl : plF P = 0) : PCall Tryz.prog 60 [encPl P] (fun r => ∃ S, r = .fmap (S.map enc2) (trG S) ∧ MS2 S = parOf P.procs) := by
 have h25 := t25 P hc
 have hsl := spots_length P
 have hlen50 := (cp_parts (pl_cp hpl)).2.2
 have h30 := fun p => t30 P p
 have hpr := pl_proc hpl
 simp only [encPl] at h25 h30 ⊢
 refine PCall.intro c239 900 (by simp) 20 ?_
 simp -implicitDefEqProofs only [s239, go_sem]
 refine F_loop (fun m e H => ∃ S g J, m = 2 * (12 * P.procs.length - S.length) + (if g then 1 else 0) ∧ S2 P.procs.length S ∧ PLo P.procs (MS2 S) ∧ (g = false → PCl P.procs (MS2 S)) ∧
  H = Blk.row [.agg [.fs (P.procs.map encP), .fs (P.main.map encS)]] :: Blk.mp (S.map enc2) (trG S) :: J ∧ e 1 = .ptr 0 0 0 ∧ e 3 = .map 1 ∧ e 4 = .bool g) (2 * (12 * P.procs.length) + 1)
  ⟨[], true, [], by simp, ⟨by simp, by simp, by simp⟩, (by rw [show MS2 [] = fun _ _ => false from by funext i k; simp [MS2]]; exact PLo.empty _), (fun h => by cases h), rfl, by simp [upd, env0], by simp [upd, env0], by simp [upd, env0]⟩ ?_
 rintro m e H ⟨S, g, J, rfl, hS, hlo, hcl, rfl, h1, h3, h4⟩
 cases g with
 | false =>
  simp -implicitDefEqProofs only [h1, h3, h4, go_sem]
  simp -implicitDefEqProofs only [r239, h1, h3, push_cast, go_sem_proc]
  exact ⟨S, rfl, par_eq (hcl rfl) hlo⟩
 | true =>
  simp -implicitDefEqProofs only [h1, h3, h4, go_sem]
  repeat' (first | ((first | ((with_reducible refine cgR h25 ?_ ?_); (·simp [norefL, noref, nrb])) | ((with_reducible apply cgF); (·simp -implicitDefEqProofs only [List.map_cons, List.map_nil, push_cast, go_sem_proc] <;> rfl); (with_reducible exact h25); (·rfl)) | (with_reducible refine F_q2 ?_)); simp -implicitDefEqProofs only [h1, h3, h4, go_sem]) | (with_reducible refine Fork.mk ?_ ?_) | (with_reducible refine And.intro ?_ ?_) | ((with_reducible refine rpI ?_); simp -implicitDefEqProofs only [r239, push_cast, go_sem_proc]) | intro _)
  rename_i hslen
  refine F_loop (fun m e H => ∃ pre post S' g J, spots P = pre ++ post ∧ m = post.length ∧ S2 P.procs.length S' ∧ PLo P.procs (MS2 S') ∧ (g = true → S.length < S'.length) ∧ (g = false → S' = S ∧ ∀ y ∈ pre, Sat P S y (rolesY y)) ∧
   H = Blk.row [.agg [.fs (P.procs.map encP), .fs (P.main.map encS)]] :: Blk.mp (S'.map enc2) (trG S') :: J ∧ e 1 = .ptr 0 0 0 ∧ e 3 = .map 1 ∧ e 4 = .bool g ∧ e 13 = .fs ((spots P).map encSp) ∧ e 14 = .int .i64 (spots P).length ∧ e 15 = .int .i64 pre.length) (spots P).length
   ⟨[], spots P, S, false, J, rfl, rfl, hS, hlo, (fun h => by cases h), (fun _ => ⟨rfl, fun y h => by simp at h⟩), rfl, by simp [upd, *], by simp [upd, *], by simp [upd, *], by simp [upd, *], by simp [upd, *], by simp [upd, *]⟩ ?_
  clear h1 h3 h4 e
  rintro m e H ⟨pre, post, S', g, J, hxs, rfl, hS', hlo', hmt, hmf, rfl, h1, h3, h4, h13, h14, h15⟩
  cases post with
  | nil =>
   have hpx : pre = spots P := by rw [hxs]; simp
   simp -implicitDefEqProofs only [h1, h3, h4, h13, h14, h15, mid_not hxs, go_sem]
   have hl1 := hS'.len
   refine ⟨2 * (12 * P.procs.length - S'.length) + (if g then 1 else 0), ?_, S', g, J, rfl, hS', hlo', (fun h => ?_), rfl, rfl⟩
   ·cases g with
    | true => have := hmt rfl; simp; omega
    | false => have := (hmf rfl).1; subst this; simp
   ·obtain ⟨rfl, h'⟩ := hmf h
    exact PCl.of_sat hpl (by rw [← hpx]; exact h')
  | cons y post =>
   have hg := mid_get encSp hxs
   have hys : y ∈ spots P := by rw [hxs]; simp
   have hw := wfY hpl y hys
   have hok := spots_ok P y hys
   have hspot := fun (i : Nat) (hi : y.2.1 = i) (q : Pr) (hq : P.procs[i]? = some q) (S2 : List (Int × Int)) (hM : PLo P.procs (MS2 S2)) (j : Nat) (r : ByteArray) hr => PLo.spot hpl hM hys hi hq (j := j) (r := r) hr
   obtain ⟨⟨k, r, t, v, lb, ⟨ek, en, es, eas⟩, a, b, p, ps⟩, pr, la⟩ := y
   have h27 := t27 k r t v lb ek en es eas a b p ps
   rw [encS_mk] at h27
   rw [encSp_mk] at hg
   have h30 := h30 p
   simp -implicitDefEqProofs only [h1, h3, h4, h13, h14, h15, mid_lt hxs, mid_wrap hxs hslen, hg, go_sem]
   repeat' (first | ((first | ((with_reducible refine cgR h27 ?_ ?_); (·simp [norefL, noref, nrb])) | ((with_reducible apply cgF); (·simp -implicitDefEqProofs only [List.map_cons, List.map_nil, push_cast, go_sem_proc] <;> rfl); (with_reducible exact h27); (·rfl)) | (with_reducible refine F_q2 ?_)); simp -implicitDefEqProofs only [h1, h3, h4, h13, h14, h15, mid_lt hxs, mid_wrap hxs hslen, hg, go_sem]) | (with_reducible refine Fork.mk ?_ ?_) | (with_reducible refine And.intro ?_ ?_) | ((with_reducible refine rpI ?_); simp -implicitDefEqProofs only [r239, push_cast, go_sem_proc]) | intro _)
   ·rename_i hlt
    have hlt : pr < 0 := by simpa using hlt
    refine ⟨_, Nat.lt_succ_self _, pre ++ [_], post, S', g, _, by simp [hxs]; rfl, rfl, hS', hlo', hmt, (fun h => ?_), rfl, rfl, by simp⟩
    obtain ⟨rfl, h'⟩ := hmf h
    refine ⟨rfl, fun y hy => ?_⟩
    rcases List.mem_append.1 hy with hy | hy
    ·exact h' y hy
    ·simp at hy; subst hy
     intro i q hi _
     simp only at hi; omega
   ·rename_i hge hrl
    have hge : 0 ≤ pr := by
     have : ¬ pr < 0 := by simpa using hge
     omega
    obtain ⟨i, rfl⟩ : ∃ i : Nat, pr = i := ⟨pr.toNat, by omega⟩
    obtain ⟨q, hq, hrs⟩ := hw.roles i rfl
    have hspot := hspot i rfl q hq
    have hcall := hw.call
    simp only at hspot hcall
    have hil := (List.getElem?_eq_some_iff.1 hq).1
    have hqr := (hpr q (List.mem_of_getElem? hq)).2.2.2
    have hgp : (P.procs.map encP).getD i .any = .agg [.str q.name, .fs (q.roles.map .str), .fs (q.steps.map encS)] := by
     rw [List.getD_eq_getElem?_getD, List.getElem?_map, hq]; rfl
    have hrY : rolesY (.mk k r t v lb (.mk ek en es eas) a b p ps, (i : Int), la) = rolesS k r t ps := rfl
    generalize hrS : rolesS k r t ps = rs at *
    generalize hNB : V.agg [.int .i64 k, .str r, .str t, .str v, .str lb, .int .i64 ek, .int .i64 en, .str es, .fs (eas.map encE), .fs (a.map encS), .fs (b.map encS), .str p, .fs (ps.map .str), .int .i64 i, .bool la] = NB at *
    have hNB := hNB.symm
    obtain ⟨bj, hbj⟩ : ∃ bj, bj = J.length := ⟨_, rfl⟩
    refine F_loop (fun m e H => ∃ rp rq S2' g2 J', rs = rp ++ rq ∧ m = rq.length ∧ S2 P.procs.length S2' ∧ PLo P.procs (MS2 S2') ∧ (g2 = true → S.length < S2'.length) ∧
     (g2 = false → S2' = S ∧ (∀ y ∈ pre, Sat P S y (rolesY y)) ∧ Sat P S (.mk k r t v lb (.mk ek en es eas) a b p ps, (i : Int), la) rp) ∧
     H = Blk.row [.agg [.fs (P.procs.map encP), .fs (P.main.map encS)]] :: Blk.mp (S2'.map enc2) (trG S2') :: J' ∧ J'[bj]? = some (Blk.row [NB]) ∧
     e 1 = .ptr 0 0 0 ∧ e 3 = .map 1 ∧ e 4 = .bool g2 ∧ e 13 = .fs ((spots P).map encSp) ∧ e 14 = .int .i64 (spots P).length ∧ e 15 = .int .i64 pre.length ∧
     e 6 = .ptr (bj + 2) 0 0 ∧ e 24 = .fs (rs.map .str) ∧ e 25 = .int .i64 rs.length ∧ e 26 = .int .i64 rp.length) rs.length
     ⟨[], rs, S', g, J ++ [Blk.row [NB]], rfl, rfl, hS', hlo', hmt, (fun h => ⟨(hmf h).1, (hmf h).2, by intro i q _ _ j r h; simp at h⟩), rfl, by rw [hbj]; simp, by simp [upd, h1], by simp [upd, h3], by simp [upd, h4], by simp [upd, h13], by simp [upd, h14], by simp [upd, h15], by simp [upd, hbj], by simp [upd], by simp [upd], by simp [upd]⟩ ?_
    clear h1 h3 h4 h13 h14 h15 hS' hlo' hmt hmf hbj e J S' g
    rintro m e H ⟨rp, rq, S', g, J, hrr, rfl, hS', hlo', hmt, hmf, rfl, hbx, h1, h3, h4, h13, h14, h15, h6, h24, h25, h26⟩
    cases rq with
    | nil =>
     have hpx : rp = rs := by rw [hrr]; simp
     simp -implicitDefEqProofs only [h1, h3, h4, h13, h14, h15, h6, h24, h25, h26, mid_not hrr, mid_wrap hxs hslen, go_sem]
     refine ⟨_, Nat.lt_succ_self _, pre ++ [_], post, S', g, J, by simp [hxs]; rfl, rfl, hS', hlo', hmt, (fun h => ?_), rfl, rfl, by simp⟩
     obtain ⟨rfl, h', h2⟩ := hmf h
     refine ⟨rfl, fun y hy => ?_⟩
     rcases List.mem_append.1 hy with hy | hy
     ·exact h' y hy
     ·simp at hy; subst hy
      rw [hrY, ← hpx]; exact h2
    | cons r2 rq =>
     have hgr := mid_get V.str hrr
     have hrj : rs[rp.length]? = some r2 := by rw [hrr]; simp
     have h58 := t58 q.roles r2
     have hspot := hspot S' hlo' rp.length r2
     have hbx2 : ∀ L, (J ++ L)[bj]? = some (Blk.row [NB]) := fun L => by rw [List.getElem?_append_left (List.getElem?_eq_some_iff.1 hbx).1]; exact hbx
     have hsnoc := fun (S : List (Int × Int)) h hn => Sat.snoc (S := S) (k := k) (r := r) (t := t) (v := v) (l := lb) (e := .mk ek en es eas) (a := a) (b := b) (p := p) (ps := ps) (la := la) (rp := rp) (r2 := r2) hq h hn
     have hnlt := ixF_lt (fun y => decide (r2 = y)) q.roles
     generalize hn : ixF (fun y => decide (r2 = y)) q.roles 0 = n at *
     by_cases h5 : k = 5
     ·subst h5
      obtain ⟨hp0, _⟩ := hcall rfl
      have hMS : MS2 S' (procI P.procs p).toNat rp.length = decide ((procI P.procs p, (rp.length : Int)) ∈ S') := by
       simp only [MS2]
       rw [show (((procI P.procs p).toNat : Nat) : Int) = procI P.procs p by omega]
      generalize procI P.procs p = I at *
      simp -implicitDefEqProofs only [h1, h3, h4, h13, h14, h15, h6, h24, h25, h26, mid_lt hrr, mid_wrap hrr hrl, hgr, hbx, hbx2, hNB, Int.reduceEq, decide_true, kOk2, mres2, hgp, hil, go_sem]
      repeat' (first | ((first | ((with_reducible first | refine cgR h30 ?_ ?_ | refine cgR h58 ?_ ?_); (·simp [norefL, noref, nrb])) | ((with_reducible apply cgF); (·simp -implicitDefEqProofs only [List.map_cons, List.map_nil, push_cast, go_sem_proc] <;> rfl); (with_reducible first | exact h30 | exact h58); (·rfl)) | (with_reducible refine F_q2 ?_)); simp -implicitDefEqProofs only [h1, h3, h4, h13, h14, h15, h6, h24, h25, h26, mid_lt hrr, mid_wrap hrr hrl, hgr, hbx, hbx2, hNB, Int.reduceEq, decide_true, kOk2, mres2, mputK2, mputV2, hgp, hil, go_sem]) | (with_reducible refine Fork.mk ?_ ?_) | (with_reducible refine And.intro ?_ ?_) | ((with_reducible refine rpI ?_); simp -implicitDefEqProofs only [r239, push_cast, go_sem_proc]) | intro _)
      ·rename_i hA
       refine ⟨_, Nat.lt_succ_self _, rp ++ [r2], rq, S', g, _, by simp [hrr], rfl, hS', hlo', hmt, (fun h => ?_), rfl, (by rw [← hNB]; exact hbx), rfl, by simp⟩
       obtain ⟨rfl, h1, h2⟩ := hmf h
       refine ⟨rfl, h1, hsnoc _ h2 (fun hk => ?_)⟩
       have := hk rfl
       rw [hMS] at this
       simp at hA
       exact absurd (by simpa using this) hA
      ·rename_i hB hA
       have hB : (I, (rp.length : Int)) ∈ S' := by simpa using hB
       obtain ⟨hn1, hn2⟩ := hspot ⟨hrj, fun _ => by rw [hMS]; simpa using hB⟩
       have hnn : n = ((n.toNat : Nat) : Int) := by omega
       refine ⟨_, Nat.lt_succ_self _, rp ++ [r2], rq, addG S' ((i : Int), n), true, _, by simp [hrr], rfl, ?_, ?_, (fun _ => ?_), (fun h => by cases h), rfl, (by rw [← hNB]; exact hbx2 _), rfl, by simp⟩
       ·rw [hnn]; exact hS'.add hil (by omega)
       ·rw [hnn]; exact hlo'.add2 hn2
       ·have : (addG S' ((i : Int), n)).length = S'.length + 1 := by rw [addG, if_neg (by simpa using hA)]; simp
        cases g with
        | true => have := hmt rfl; omega
        | false => have := (hmf rfl).1; subst this; omega
      ·rename_i hB hA
       have hB : (I, (rp.length : Int)) ∈ S' := by simpa using hB
       obtain ⟨hn1, hn2⟩ := hspot ⟨hrj, fun _ => by rw [hMS]; simpa using hB⟩
       have hnn : n = ((n.toNat : Nat) : Int) := by omega
       refine ⟨_, Nat.lt_succ_self _, rp ++ [r2], rq, S', g, _, by simp [hrr], rfl, hS', hlo', hmt, (fun h => ?_), rfl, (by rw [← hNB]; exact hbx2 _), rfl, by simp⟩
       obtain ⟨rfl, h1, h2⟩ := hmf h
       refine ⟨rfl, h1, hsnoc _ h2 (fun hk => ?_)⟩
       rw [MS2, ← hnn]; simpa using hA
     ·simp -implicitDefEqProofs only [h1, h3, h4, h13, h14, h15, h6, h24, h25, h26, mid_lt hrr, mid_wrap hrr hrl, hgr, hbx, hbx2, hNB, h5, decide_false, kOk2, mres2, hgp, hil, go_sem]
      repeat' (first | ((first | ((with_reducible first | refine cgR h30 ?_ ?_ | refine cgR h58 ?_ ?_); (·simp [norefL, noref, nrb])) | ((with_reducible apply cgF); (·simp -implicitDefEqProofs only [List.map_cons, List.map_nil, push_cast, go_sem_proc] <;> rfl); (with_reducible first | exact h30 | exact h58); (·rfl)) | (with_reducible refine F_q2 ?_)); simp -implicitDefEqProofs only [h1, h3, h4, h13, h14, h15, h6, h24, h25, h26, mid_lt hrr, mid_wrap hrr hrl, hgr, hbx, hbx2, hNB, h5, decide_false, kOk2, mres2, mputK2, mputV2, hgp, hil, go_sem]) | (with_reducible refine Fork.mk ?_ ?_) | (with_reducible refine And.intro ?_ ?_) | ((with_reducible refine rpI ?_); simp -implicitDefEqProofs only [r239, push_cast, go_sem_proc]) | intro _)
      ·rename_i hA
       obtain ⟨hn1, hn2⟩ := hspot ⟨hrj, fun h => absurd h h5⟩
       have hnn : n = ((n.toNat : Nat) : Int) := by omega
       refine ⟨_, Nat.lt_succ_self _, rp ++ [r2], rq, addG S' ((i : Int), n), true, _, by simp [hrr], rfl, ?_, ?_, (fun _ => ?_), (fun h => by cases h), rfl, (by rw [← hNB]; exact hbx2 _), rfl, by simp⟩
       ·rw [hnn]; exact hS'.add hil (by omega)
       ·rw [hnn]; exact hlo'.add2 hn2
       ·have : (addG S' ((i : Int), n)).length = S'.length + 1 := by rw [addG, if_neg (by simpa using hA)]; simp
        cases g with
        | true => have := hmt rfl; omega
        | false => have := (hmf rfl).1; subst this; omega
      ·rename_i hA
       obtain ⟨hn1, hn2⟩ := hspot ⟨hrj, fun h => absurd h h5⟩
       have hnn : n = ((n.toNat : Nat) : Int) := by omega
       refine ⟨_, Nat.lt_succ_self _, rp ++ [r2], rq, S', g, _, by simp [hrr], rfl, hS', hlo', hmt, (fun h => ?_), rfl, (by rw [← hNB]; exact hbx2 _), rfl, by simp⟩
       obtain ⟨rfl, h1, h2⟩ := hmf h
       refine ⟨rfl, h1, hsnoc _ h2 (fun hk => ?_)⟩
       rw [MS2, ← hnn]; simpa using hA
theorem OV.freeze {H : List Blk} {v : V} {l : List Int} (h : OV H v (l.map (.int .i64))) : ∃ D, Av.fz (keepL D H) 20 v = some (.fs (l.map (.int .i64))) ∧ ∀ i, kvne v i → (killL D H)[i]? = H[i]? := by
 rcases h with ⟨h1, rfl⟩ | ⟨_, id, rfl, h2⟩
 ·refine ⟨[], by rw [fz_nils, h1], fun i _ => rfl⟩
 ·refine ⟨[id], ?_, fun i hi => ?_⟩
  ·have hk : (keepL [id] H)[id]? = some (.row (l.map (.int .i64))) := by rw [keepL_get, h2]; simp
   rw [fz_ms, hk, fzM_row, if_pos (by simp), List.drop_zero, List.take_of_length_le (by simp), fz_ints]
   rfl
  ·rw [killL_get, if_neg]
   rintro ⟨hc, _⟩
   have : i = id := by simpa using hc
   exact hi 0 (l.map (V.int .i64)).length (by rw [this])
theorem fz_encI (H : List Blk) (n : Nat) (l : List Int) : Av.fz H (n + 1) (encI l) = some (encI l) := by rw [encI, fz_fs, if_pos (norefL_int l)]
theorem headOk_encI (R : List (List Int)) : headOk 1 (R.map encI) := headOk_map _ _ (fun x => by simp [encI, cellsV]) R
set_option maxRecDepth 20000 in
set_option maxHeartbeats 2000000 in
theorem t210 (P : Pla) (hc : total P ≤ 1000000) (hpl : plF P = 0) : PCall Tryz.prog 15 [encPl P] (·= .fs ((parR (parOf P.procs) P.procs 0).map encI)) := by
 have h239 := t239 P hc hpl
 have hlen50 := (cp_parts (pl_cp hpl)).2.2
 have hpr := pl_proc hpl
 simp only [encPl] at h239 ⊢
 refine PCall.intro c210 900 (by simp) 20 ?_
 simp -implicitDefEqProofs only [s210, go_sem]
 refine call_pureR (by simp [norefL, noref, norefL_encP, norefL_encS]) h239 ?_
 rintro r ⟨S, rfl, hS⟩
 simp -implicitDefEqProofs only [go_sem]
 intro hlen
 refine F_loop (fun m e H => ∃ pre post kv, P.procs = pre ++ post ∧ m = post.length ∧ e 3 = .fmap (S.map enc2) (trG S) ∧ e 4 = kv ∧ e 12 = .fs (P.procs.map encP) ∧ e 13 = .int .i64 P.procs.length ∧ e 14 = .int .i64 pre.length ∧ OV H kv ((parR (parOf P.procs) pre 0).map encI)) P.procs.length
  ⟨[], P.procs, .nils, rfl, rfl, by simp [upd, env0], by simp [upd, env0], by simp [upd, env0], by simp [upd, env0], by simp [upd, env0], .inl ⟨rfl, rfl⟩⟩ ?_
 rintro m e H ⟨pre, post, kv, hxs, rfl, h3, h4, h12, h13, h14, hov⟩
 have hc1 := hov.one
 have hone := hov.vone
 simp only [V.one] at hone
 cases post with
 | nil =>
  have hpx : pre = P.procs := by rw [hxs]; simp
  have hz : fz H 20 kv = _ := fz_OV (f := encI) (n := 18) (fun H x => fz_encI _ _ x) hov
  rw [hpx] at hz
  simp -implicitDefEqProofs only [h3, h4, h12, h13, h14, mid_not hxs, go_sem]
  simp -implicitDefEqProofs only [r210, h4, hz, push_cast, go_sem_proc]
  try exact ⟨_, rfl, rfl⟩
 | cons q post =>
  have hg := mid_get encP hxs
  simp only [encP] at hg
  have hq := hpr q (by rw [hxs]; simp)
  simp -implicitDefEqProofs only [h3, h4, h12, h13, h14, mid_lt hxs, mid_wrap hxs hlen, hg, go_sem]
  intro hql
  have hrep : (parR (parOf P.procs) pre 0).length = pre.length := parR_len _ _ _
  refine F_loop (fun m e H => ∃ rp rq v, q.roles = rp ++ rq ∧ m = rq.length ∧ e 3 = .fmap (S.map enc2) (trG S) ∧ e 4 = kv ∧ e 12 = .fs (P.procs.map encP) ∧ e 13 = .int .i64 P.procs.length ∧ e 14 = .int .i64 pre.length ∧
   e 5 = .int .i64 pre.length ∧ e 7 = v ∧ e 21 = .int .i64 q.roles.length ∧ e 22 = .int .i64 rp.length ∧ OV H kv ((parR (parOf P.procs) pre 0).map encI) ∧ OV H v ((selI (parOf P.procs pre.length) rp.length).map (.int .i64)) ∧ dj v kv) q.roles.length
   ⟨[], q.roles, .nils, rfl, rfl, by simp [upd, h3], by simp [upd, h4], by simp [upd, h12], by simp [upd, h13], by simp [upd, h14], by simp [upd, h14], by simp [upd], by simp [upd], by simp [upd], hov.app _, .inl ⟨by simp [selI], rfl⟩, (fun id => .inl (fun a b h => by cases h))⟩ ?_
  clear h3 h4 h12 h13 h14 hov e H
  rintro m e H ⟨rp, rq, v, hrs, rfl, h3, h4, h12, h13, h14, h5, h7, h21, h22, hov, hov2, hdj⟩
  have hc2 := hov2.one
  have hone2 := hov2.vone
  simp only [V.one] at hone2
  cases rq with
  | nil =>
   have hrx : rp = q.roles := by rw [hrs]; simp
   rw [hrx] at hov2
   obtain ⟨D, hz, hkeep⟩ := hov2.freeze
   simp -implicitDefEqProofs only [h3, h4, h12, h13, h14, h5, h7, h21, h22, mid_not hrs, mid_wrap hxs hlen, go_sem]
   refine ⟨D, _, hz, ?_⟩
   simp -implicitDefEqProofs only [h3, h4, h12, h13, h14, h5, h7, h21, h22, mid_wrap hxs hlen, go_sem]
   have hov' : OV (killL D H) kv ((parR (parOf P.procs) pre 0).map encI) := hov.frame (fun id o n hid _ => hkeep id (by
    rcases hdj id with h | h
    ·exact h
    ·exact absurd hid (h o n)))
   refine app_OV hov' (fun i o l h => by cases h) (headOk_encI _) (by simp only [List.length_map, hrep, List.length_cons, List.length_nil]; have := mid_lt hxs; omega) ?_
   rintro kv' H' hov'' hle hfr
   simp -implicitDefEqProofs only [h3, h4, h12, h13, h14, h5, h7, h21, h22, mid_wrap hxs hlen, go_sem]
   refine ⟨_, Nat.lt_succ_self _, pre ++ [q], post, kv', by simp [hxs], rfl, rfl, by simp, ?_⟩
   have hpR : parR (parOf P.procs) (pre ++ [q]) 0 = parR (parOf P.procs) pre 0 ++ [selI (parOf P.procs pre.length) q.roles.length] := by rw [parR_append]; simp [parR]
   rw [hpR, List.map_append]
   exact hov''
  | cons r2 rq =>
   have hss := selI_succ (parOf P.procs pre.length) rp.length
   have hsl := selI_len (parOf P.procs pre.length) rp.length
   have hrl := mid_lt hrs
   have hm2 : decide (((pre.length : Int), (rp.length : Int)) ∈ S) = parOf P.procs pre.length rp.length := by rw [← hS]; rfl
   simp -implicitDefEqProofs only [h3, h4, h12, h13, h14, h5, h7, h21, h22, mid_lt hrs, mid_wrap hrs hql, kOk2, mres2, hm2, go_sem]
   generalize hbv : parOf P.procs pre.length rp.length = bv at *
   repeat' (first | ((with_reducible refine F_q2 ?_); simp -implicitDefEqProofs only [h3, h4, h12, h13, h14, h5, h7, h21, h22, mid_lt hrs, mid_wrap hrs hql, kOk2, mres2, hm2, go_sem]) | (with_reducible refine Fork.mk ?_ ?_) | (with_reducible refine And.intro ?_ ?_) | ((with_reducible refine rpI ?_); simp -implicitDefEqProofs only [r210, push_cast, go_sem_proc]) | intro _)
   ·rename_i hb
    have hb : bv = true := by simpa using hb
    subst hb
    refine app_OV hov2 (fun i o l h => by cases h) (headOk_map _ _ (fun x => by simp [cellsV]) _) (by simp only [List.length_map, List.length_cons, List.length_nil]; omega) ?_
    rintro kv' H' hov' hle hfr
    simp -implicitDefEqProofs only [h3, h4, h12, h13, h14, h5, h7, h21, h22, mid_wrap hrs hql, go_sem]
    refine ⟨_, Nat.lt_succ_self _, rp ++ [r2], rq, kv', by simp [hrs], rfl, rfl, by simp, ?_, ?_, fun id => ?_⟩
    ·refine hov.frame (fun id o n hid hl => (hfr id hl ?_).1)
     rcases hdj id with h | h
     ·exact h
     ·exact absurd hid (h o n)
    ·rw [List.length_append, List.length_singleton, hss]
     simpa using hov'
    ·rcases hdj id with h | h
     ·by_cases hl : id < H.length
      ·exact .inl (hfr id hl h).2
      ·exact .inr (hov.lt (by omega))
     ·exact .inr h
   ·rename_i hb
    have hb : bv = false := by simpa using hb
    subst hb
    refine ⟨_, Nat.lt_succ_self _, rp ++ [r2], rq, v, by simp [hrs], rfl, rfl, by simp, hov, ?_, hdj⟩
    rw [List.length_append, List.length_singleton, hss]
    simpa using hov2
theorem C237.mk {P : Pla} (hc : total P ≤ 1000000) (hpn : P.procs.length ≤ 1000000) (hok : okP P) (hro : ∀ q ∈ P.procs, q.roles.length ≤ 1000000) : C237 P :=
 t237 P hc hpn hok hro (fun D f hD hf => h288 hpn D f hD hf)
set_option maxRecDepth 20000 in
set_option maxHeartbeats 8000000 in
theorem t200 (L : List Int) : PCall Tryz.prog 3 [.fs (L.map (.int .i64))] (·= .bool true) := by
 obtain ⟨P, a', k1, k2, k3, k4, k5⟩ := t4 L 0 (by omega)
 have h4 := k5 0 1 _ (MS.base L)
 have ht : total P ≤ 1000000 := by have := total_wPl P; omega
 have hpn : P.procs.length ≤ 1000000 := by omega
 have h203 := t203 P ht hpn
 have h204 := t204 P ht hpn
 have h205 := t205 P ht hpn
 have h206 := t206 P ht hpn
 have h8 := t8 P ht
 have hck := ck_pl P
 rw [← hck] at h8
 rw [enV] at h203; rw [unV] at h204; rw [caV] at h205; rw [paV] at h206
 by_cases he : ckF P = 0
 ·have hpl : plF P = 0 := by rw [← hck]; exact he
  have hok := okP_of hpl
  have hC := C237.mk ht hpn hok (fun q hq => by have := (pl_proc hpl q hq).2.2.2; omega)
  have h207 := t207 P hpn
  have h208 := t208f P hok ht hpn hC
  have h209 := t209 P hpn hC
  have h210 := t210 P ht hpl
  rw [if_pos he] at h203 h204 h205 h206
  rw [he] at h8
  have h36a := t36r (selN P.procs (endsOf P.procs) false)
  have h36b := t36r (selN P.procs (reW P).procs true)
  have h211 := t211r (notIn (reW P).steps (total P))
  have h212 := t212r (parR (parOf P.procs) P.procs 0)
  change PCall Tryz.prog 18 [.fs ((parR (parOf P.procs) P.procs 0).map encI), .fs ((parR (parOf P.procs) P.procs 0).map encI), .clos 17 [] []] (·= .bool true) at h212
  have hnI : norefL ((parR (parOf P.procs) P.procs 0).map encI) = true := norefL_mapf (fun x => by simp [encI, noref, norefL_int]) _
  generalize (parR (parOf P.procs) P.procs 0).map encI = I1 at *
  generalize selN P.procs (endsOf P.procs) false = A1 at *
  generalize selN P.procs (reW P).procs true = A2 at *
  generalize notIn (reW P).steps (total P) = A3 at *
  generalize thL (ecE P.procs (endsOf P.procs)) P.main = B1 at *
  simp only [encPl] at h4 h203 h204 h205 h206 h207 h208 h209 h210 h8
  simp only [SB] at h4
  refine PCall.intro c200 900 (by simp) 20 ?_
  simp -implicitDefEqProofs only [s200, go_sem]
  repeat' (first | ((first | (with_reducible refine cgA h4 ?_) | ((with_reducible first | refine cgR h203 ?_ ?_ | refine cgR h204 ?_ ?_ | refine cgR h205 ?_ ?_ | refine cgR h206 ?_ ?_ | refine cgR h207 ?_ ?_ | refine cgR h208 ?_ ?_ | refine cgR h209 ?_ ?_ | refine cgR h210 ?_ ?_ | refine cgR h8 ?_ ?_ | refine cgR h36a ?_ ?_ | refine cgR h36b ?_ ?_ | refine cgR h211 ?_ ?_ | refine cgR h212 ?_ ?_ | refine cgR t13 ?_ ?_); (·simp [norefL, noref, nrb, hnI, norefL_int, norefL_str])) | ((with_reducible apply cgF); (·simp -implicitDefEqProofs only [List.map_cons, List.map_nil, hnI, norefL_int, norefL_str, push_cast, go_sem_proc] <;> rfl); (with_reducible first | exact h203 | exact h204 | exact h205 | exact h206 | exact h207 | exact h208 | exact h209 | exact h210 | exact h8 | exact h36a | exact h36b | exact h211 | exact h212 | exact t13); (·rfl)) | (with_reducible refine F_q2 ?_)); simp -implicitDefEqProofs only [Int.reduceEq, decide_true, go_sem]) | (with_reducible refine Fork.mk ?_ ?_) | (with_reducible refine And.intro ?_ ?_) | ((with_reducible refine rpI ?_); simp -implicitDefEqProofs only [r200, push_cast, go_sem_proc]) | intro _)
 ·rw [if_neg he] at h203 h204 h205 h206
  have h36 := t36r []
  have h211 := t211r []
  have h212 := t212r []
  simp only [List.map_nil] at h36 h211 h212
  simp only [encPl] at h4 h203 h204 h205 h206 h8
  simp only [SB] at h4
  generalize ckF P = c at *
  refine PCall.intro c200 900 (by simp) 20 ?_
  simp -implicitDefEqProofs only [s200, go_sem]
  repeat' (first | ((first | (with_reducible refine cgA h4 ?_) | ((with_reducible first | refine cgR h203 ?_ ?_ | refine cgR h204 ?_ ?_ | refine cgR h205 ?_ ?_ | refine cgR h206 ?_ ?_ | refine cgR h8 ?_ ?_ | refine cgR h36 ?_ ?_ | refine cgR h211 ?_ ?_ | refine cgR h212 ?_ ?_ | refine cgR t13 ?_ ?_); (·simp [norefL, noref, nrb])) | ((with_reducible apply cgF); (·simp -implicitDefEqProofs only [List.map_cons, List.map_nil, push_cast, go_sem_proc] <;> rfl); (with_reducible first | exact h203 | exact h204 | exact h205 | exact h206 | exact h8 | exact h36 | exact h211 | exact h212 | exact t13); (·rfl)) | (with_reducible refine F_q2 ?_)); simp -implicitDefEqProofs only [Int.reduceEq, decide_true, he, go_sem]) | (with_reducible refine Fork.mk ?_ ?_) | (with_reducible refine And.intro ?_ ?_) | ((with_reducible refine rpI ?_); simp -implicitDefEqProofs only [r200, push_cast, go_sem_proc]) | intro _)
end Go.Proofs.YtdgoeblpcnjlbaaGreatDoor.Av
namespace Go.Proofs.YtdgoeblpcnjlbaaGreatDoor.Av
open Go.ChangeShapes Go.WideShapes Go.ChangeAt Go.RowKit
theorem own : ownKnob Tryz.prog.godebug = none := by kernel_rfl
theorem laidOut : laidOutB Tryz.prog = true := by kernel_rfl
theorem cells3 : Tryz.prog.cellsOf 3 = 1 := by kernel_rfl
theorem rep_ints {W : World} {a : Option Addr} {len cap : Nat} {zs : List Int} (hz : zs.length = len) (hl : len ≤ cap) (hm : cap ≤ maxLen) (h : zs = [] ∨ ∃ b o, a = some ⟨b, o, none⟩ ∧ ∀ i, i < zs.length → W.cell? ⟨b, o + i, none⟩ = some (.int .i64 (zs.getD i 0))) :
  Rep [] (fun b => W.heap[b]?) (.fs (zs.map (.int .i64))) (.slice a len cap) := by
 simp only [Rep]
 refine ⟨a, cap, by simp [hz], by simpa [hz] using hl, hm, ?_⟩
 rcases h with rfl | ⟨b, o, rfl, h⟩
 ·exact .inl rfl
 ·refine .inr ⟨b, o, 1, rfl, ?_⟩
  rw [elemsG_iff]
  intro i e he
  have hi : i < zs.length := by have := (List.getElem?_eq_some_iff.1 he).1; simpa using this
  have he' : e = .int .i64 (zs.getD i 0) := by
   simp [hi, List.getD] at he ⊢; exact he.symm
  subst he'
  refine ⟨by simp [cellsV], fun j c hj => ?_⟩
  obtain rfl : j = 0 := by
   have := (List.getElem?_eq_some_iff.1 hj).1
   simp [cellsV] at this; exact this
  simp [cellsV] at hj
  subst hj
  refine ⟨.int .i64 (zs.getD i 0), ?_, by simp [Rep]⟩
  have hc := h i hi
  simp only [World.cell?] at hc
  simp only [icell, Nat.mul_one, Nat.add_zero]
  generalize W.heap[b]? = ob at *
  cases ob with
  | none => simp at hc
  | some ob => cases ob <;> simp_all
end Go.Proofs.YtdgoeblpcnjlbaaGreatDoor.Av
namespace Go.Proofs.YtdgoeblpcnjlbaaGreatDoor.Av
open Go.ChangeShapes Go.WideShapes Go.ChangeAt Go.RowKit
set_option maxRecDepth 100000 in
theorem contract (H : Type) (enc : TypeId × Value → H) (W : World) (base : Nat) (args : Array Value) (ds gs : List (DataW H)) (before : List MemPlace)
  (hval : ∀ (j : Nat) t v, Tryz.f3.params[j]? = some t → args[j]? = some v → Value.okWide Tryz.prog W .any base t v)
  (hW : DataW.Whole enc Tryz.prog Tryz.f3.params.toList Rows.waysFollowedSpec.vars false W args.toList ds gs before) :
  Calls Tryz.prog 3 args W fun e W' => ∃ v, e = .returned v ∧ Rows.waysFollowedSpec.post enc Tryz.prog Tryz.f3 false true false false W args v W' := by
 have hW' := hW
 obtain ⟨p, q, hA0, hV, rfl, hfz, hnd⟩ := hW
 have hA : DataW.TrodAll enc Tryz.prog W 0 (fun _ => true) true Tryz.f3.params.toList args.toList ds p := hA0
 rw [Tryz.params3] at hA hval
 obtain ⟨v0, d0, rfl, rfl, h0⟩ := trodAll_one hA
 obtain ⟨rfl, rfl⟩ := trodVars_none hV
 obtain ⟨a0, len, cap, rfl⟩ := okWide_slice Tryz.underlying22 (hval 0 22 v0 rfl rfl)
 have h0k := h0
 obtain ⟨fuel0, hf⟩ := h0
 clear hA0 hA
 simp only [List.append_nil] at hW'
 have hlt : ∀ x ∈ p, x.block < W.heap.size := fun x hx => by simpa using hW'.lt x hx
 have hargs : ∀ (W' : World), Below W.heap.size W W' → DataW.Trod enc Tryz.prog W' 0 (fun b => decide (b < W.heap.size)) true 22 (.slice a0 len cap) d0 p :=
  fun W' hn => Below.trod laidOut (by kernel_rfl) (of_decide_eq_true (by kernel_rfl)) h0k hn hlt
 have hrep : ∃ L : List Int, Rep [] (fun b => W.heap[b]?) (.fs (L.map (.int .i64))) (.slice a0 len cap) := by
  rcases open_ints Tryz.underlying22 Tryz.underlying3 cells3 hf with ⟨hcs, hx⟩ | ⟨a, len', cap', zs, hcs, _, hl, hm, hz, hx, hcell, hwz⟩
  ·simp [Value.cells] at hcs
   obtain ⟨rfl, rfl, rfl⟩ := hcs
   exact ⟨[], rep_ints (zs := []) rfl (Nat.le_refl _) (by decide) (.inl rfl)⟩
  ·simp [Value.cells] at hcs
   obtain ⟨rfl, rfl, rfl⟩ := hcs
   simp only [if_true] at hz
   obtain ⟨b, off, spot⟩ := a
   by_cases hl0 : len = 0
   ·subst hl0
    exact ⟨[], rep_ints (zs := []) rfl (Nat.zero_le _) hm (.inl rfl)⟩
   ·have hspot : spot = none := by simpa [Addr.add] using World.cell?_spot (hcell 0 (by omega))
    subst hspot
    refine ⟨zs.take len, rep_ints (by rw [List.length_take]; omega) hl hm (.inr ⟨b, off, rfl, fun i hi => ?_⟩)⟩
    rw [List.length_take] at hi
    have := hcell i (by omega)
    rw [add_plain] at this
    rw [this]
    simp [List.getD, List.getElem?_take, show i < len by omega]
 obtain ⟨L, hrep⟩ := hrep
 obtain ⟨_, hcall⟩ := t200 L
 refine (hcall (fun b => W.heap[b]?) W #[.slice a0 len cap] (fun b o h => h) (by simp only [RepL]; exact ⟨_, [], rfl, hrep, rfl⟩)).mono ?_
 rintro e W' ⟨r, v, I', rfl, rfl, _, _, _, hr, hB⟩
 simp only [Rep] at hr
 subst hr
 refine ⟨_, rfl, _, _, _, [], p, [], hW', ?_, ?_, ?_, hB.frame _, fun h => by cases h⟩
 ·exact trodAll_mk1 (shut_bool Tryz.underlying4 _)
 ·exact trodAll_mk1 (hargs W' hB)
 ·rfl
end Go.Proofs.YtdgoeblpcnjlbaaGreatDoor.Av
namespace Go.Proofs.YtdgoeblpcnjlbaaGreatDoor.Av
open Go.ChangeShapes Go.WideShapes Go.ChangeAt Go.RowKit
set_option maxRecDepth 100000 in
theorem lifted (os : Os) (started : os.Started) (H : Type) (enc : TypeId × Value → H) :
  ReturnsInHanded {} Tryz.checked os 3 .any (fun w args => (Rows.waysFollowedSpec.pre enc Tryz.prog Tryz.f3 Rows.waysFollowedRow.domain false w args ∧ laidMetH Tryz.prog Rows.waysFollowedRow.laid w) ∧ sizedMet enc Tryz.prog Tryz.f3 (OpenSpec.ofChange Rows.waysFollowedSpec) false w args)
   (Rows.waysFollowedSpec.post enc Tryz.prog Tryz.f3 false true false false) := by
 refine returnsInHanded_of_change_and (C := Tryz.checked) (X := fun w _ => laidMetH Tryz.prog Rows.waysFollowedRow.laid w) (fun _ _ _ hh h => h.of_heap hh) own started (by kernel_rfl) Tryz.func3
  (ChangeSpec.witness_shaped (enc := enc) (C := Tryz.checked) (os := os) (X := fun w _ => laidMetH Tryz.prog Rows.waysFollowedRow.laid w) false (World.laidAll Tryz.prog os Rows.waysFollowedRow.laid) #[.slice none 0 0] 8 (World.laidAll_os _ _ _)
   (World.shaped_of_ZipB (by kernel_rfl) (by kernel_rfl)) (by kernel_rfl) (by kernel_rfl) (by kernel_rfl)
   (by rw [MakeChecks.laidMetH_plain _ _ _ (by kernel_rfl)]; exact laidMet_laidAll _ (by kernel_rfl) (by kernel_rfl))) ?_
 intro W base args ds gs before hval hW _ _ _ _
 exact contract H enc W base args ds gs before hval hW
theorem said : Rows.WaysFollowedSaid :=
 OpenClaim.holds_of_wide 3 Tryz.f3 rfl rfl rfl rfl rfl rfl rfl ⟨rfl, rfl, rfl, rfl, rfl⟩ rfl rfl rfl rfl rfl (by kernel_rfl) Tryz.func3 (by kernel_rfl)
  (of_decide_eq_true (by kernel_rfl)) (by unfold Func.isWrapper; first | (rw [if_pos (by decide +kernel)]; kernel_rfl) | (rw [if_neg (by decide +kernel)]; exact ⟨rfl, rfl⟩))
  (fun os started H enc _ => lifted os started H enc)
theorem plainT (f : FuncId) (fn : Func) (hf : Tryz.pinned.checked.prog.funcNamed "promptbook/pblaw2.WaysFollowed" = some f) (hfn : Tryz.pinned.checked.prog.funcs[f]? = some fn) :
  false = Tryz.pinned.checked.prog.looks [] ∧ ∀ (j : Nat) t, fn.params[j]? = some t → Tryz.pinned.checked.prog.wantsStandIn t = false := by
 obtain rfl : f = 3 := Option.some.inj ((show Tryz.prog.funcNamed "promptbook/pblaw2.WaysFollowed" = some 3 by kernel_rfl).symm.trans hf) |>.symm
 obtain rfl : fn = Tryz.f3 := (Option.some.inj (Tryz.func3.symm.trans hfn)).symm
 refine ⟨by kernel_rfl, fun j t ht => ?_⟩
 rw [Tryz.params3] at ht
 obtain rfl : t = 22 := by simpa using Array.mem_of_getElem? ht
 exact (show Tryz.prog.wantsStandIn 22 = false by kernel_rfl)
end Go.Proofs.YtdgoeblpcnjlbaaGreatDoor.Av
namespace Go.Proofs.YtdgoeblpcnjlbaaGreatDoor
theorem card_holds : Rows.WaysFollowedCardSaid :=
 Claim7.holds_tied_plain_at .later [] _ _ _ _ Av.said (fun _ h => by cases h) (by kernel_rfl) (fun _ h => by cases h) waysFollowed_row_tie rfl ⟨rfl, rfl⟩ (by kernel_rfl) rfl Av.plainT (by kernel_rfl)
#print axioms card_holds
end Go.Proofs.YtdgoeblpcnjlbaaGreatDoor
