/- Proved: for every list of numbers the law WaysFollowed answers true and leaves its argument as it was (the tied card); no condition beyond the row's own. Text 6 of 15. -/
import Derived.Test.YtdgoeblpcnjlbaaGreatDoorW5
set_option linter.unusedVariables false
set_option linter.unusedSimpArgs false
set_option linter.unusedSectionVars false
set_option linter.all false
namespace Go.Proofs.YtdgoeblpcnjlbaaGreatDoor.Av
open Go.RowKit
theorem t58 (xs : List ByteArray) (x : ByteArray) : PCall Tryz.prog 124 [.fs (xs.map V.str), V.str x] (·= .int .i64 (ixF (fun y => decide (x = y)) xs 0)) := by
 refine PCall.intro c58 200 (by simp) 20 ?_
 simp -implicitDefEqProofs only [s58, go_sem]
 intro hlen
 refine F_loop (fun m e H => ∃ pre post, xs = pre ++ post ∧ m = post.length ∧ (∀ y ∈ pre, decide (x = y) = false) ∧ e 0 = .fs (xs.map V.str) ∧ e 1 = V.str x ∧ e 7 = .int .i64 xs.length ∧ e 8 = .int .i64 pre.length) xs.length ⟨[], xs, by simp [upd, env0]⟩ ?_
 rintro m e H ⟨pre, post, hxs, rfl, hp, h0, h1, h7, h8⟩
 cases post with
 | nil =>
  simp -implicitDefEqProofs only [h0, h1, h7, h8, mid_not hxs, decide_false, go_sem]
  simp -implicitDefEqProofs only [r58, push_cast, go_sem_proc]
  rw [hxs, ixF_append _ pre [] 0 hp]; rfl
 | cons y post =>
  simp -implicitDefEqProofs only [h0, h1, h7, h8, mid_lt hxs, mid_get V.str hxs, mid_wrap hxs hlen, decide_true, go_sem]
  refine ⟨fun hc => ?_, fun hc => ?_⟩
  ·simp -implicitDefEqProofs only [r58, push_cast, go_sem_proc]
   rw [hxs, ixF_append _ pre _ 0 hp, ixF, hc]; simp
  ·exact ⟨_, Nat.lt_succ_self _, pre ++ [y], post, by simp [hxs], rfl, fun z hz => by rcases List.mem_append.1 hz with hz | hz; exact hp z hz; simp at hz; subst hz; exact hc, by simp⟩
theorem t29 (xs : List ByteArray) (x : ByteArray) : PCall Tryz.prog 51 [.fs (xs.map V.str), V.str x] (·= .bool (xs.any fun y => decide (x = y))) := by
 refine PCall.intro c29 200 (by simp) 20 ?_
 simp -implicitDefEqProofs only [s29, go_sem]
 refine call_eqR (by simp [norefL, noref, norefL_str]) (t58 xs x) ?_
 simp -implicitDefEqProofs only [go_sem]
 simp -implicitDefEqProofs only [r29, push_cast, go_sem_proc]
 exact ixF_nonneg _ _ _ (by omega)
theorem t93 (xs : List Int) (x : Int) : PCall Tryz.prog 59 [.fs (xs.map (V.int .i64)), (V.int .i64) x] (·= .int .i64 (ixF (fun y => decide (x = y)) xs 0)) := by
 refine PCall.intro c93 200 (by simp) 20 ?_
 simp -implicitDefEqProofs only [s93, go_sem]
 intro hlen
 refine F_loop (fun m e H => ∃ pre post, xs = pre ++ post ∧ m = post.length ∧ (∀ y ∈ pre, decide (x = y) = false) ∧ e 0 = .fs (xs.map (V.int .i64)) ∧ e 1 = (V.int .i64) x ∧ e 7 = .int .i64 xs.length ∧ e 8 = .int .i64 pre.length) xs.length ⟨[], xs, by simp [upd, env0]⟩ ?_
 rintro m e H ⟨pre, post, hxs, rfl, hp, h0, h1, h7, h8⟩
 cases post with
 | nil =>
  simp -implicitDefEqProofs only [h0, h1, h7, h8, mid_not hxs, decide_false, go_sem]
  simp -implicitDefEqProofs only [r93, push_cast, go_sem_proc]
  rw [hxs, ixF_append _ pre [] 0 hp]; rfl
 | cons y post =>
  simp -implicitDefEqProofs only [h0, h1, h7, h8, mid_lt hxs, mid_get (V.int .i64) hxs, mid_wrap hxs hlen, decide_true, go_sem]
  refine ⟨fun hc => ?_, fun hc => ?_⟩
  ·simp -implicitDefEqProofs only [r93, push_cast, go_sem_proc]
   rw [hxs, ixF_append _ pre _ 0 hp, ixF, hc]; simp
  ·exact ⟨_, Nat.lt_succ_self _, pre ++ [y], post, by simp [hxs], rfl, fun z hz => by rcases List.mem_append.1 hz with hz | hz; exact hp z hz; simp at hz; subst hz; exact hc, by simp⟩
theorem t79 (xs : List Int) (x : Int) : PCall Tryz.prog 237 [.fs (xs.map (V.int .i64)), (V.int .i64) x] (·= .bool (xs.any fun y => decide (x = y))) := by
 refine PCall.intro c79 200 (by simp) 20 ?_
 simp -implicitDefEqProofs only [s79, go_sem]
 refine call_eqR (by simp [norefL, noref, norefL_int]) (t93 xs x) ?_
 simp -implicitDefEqProofs only [go_sem]
 simp -implicitDefEqProofs only [r79, push_cast, go_sem_proc]
 exact ixF_nonneg _ _ _ (by omega)
theorem t57 (xs : List ByteArray) (g : FuncId) (first caps : List V) (p : ByteArray → Bool) (hn : norefL first = true) (hn' : norefL caps = true)
  (h : ∀ x ∈ xs, PCall Tryz.prog g (first ++ [V.str x] ++ caps) (·= .bool (p x))) : PCall Tryz.prog 128 [.fs (xs.map V.str), .clos g first caps] (·= .int .i64 (ixF p xs 0)) := by
 refine PCall.intro c57 200 (by simp) 20 ?_
 simp -implicitDefEqProofs only [s57, go_sem]
 intro hlen
 refine F_loop (fun m e H => ∃ pre post, xs = pre ++ post ∧ m = post.length ∧ (∀ y ∈ pre, p y = false) ∧ e 0 = .fs (xs.map V.str) ∧ e 1 = .clos g first caps ∧ e 7 = .int .i64 xs.length ∧ e 8 = .int .i64 pre.length) xs.length ⟨[], xs, by simp [upd, env0]⟩ ?_
 rintro m e H ⟨pre, post, hxs, rfl, hp, h0, h1, h7, h8⟩
 cases post with
 | nil =>
  simp -implicitDefEqProofs only [h0, h1, h7, h8, mid_not hxs, decide_false, go_sem]
  simp -implicitDefEqProofs only [r57, push_cast, go_sem_proc]
  rw [hxs, ixF_append _ pre [] 0 hp]; rfl
 | cons y post =>
  simp -implicitDefEqProofs only [h0, h1, h7, h8, mid_lt hxs, mid_get V.str hxs, mid_wrap hxs hlen, decide_true, go_sem]
  have hy := h y (by simp [hxs])
  simp only [List.append_assoc, List.cons_append, List.nil_append] at hy
  refine call_eqR (by simp [norefL_app, norefL, noref, hn, hn', norefL_str]) hy ?_
  simp -implicitDefEqProofs only [h0, h1, h7, h8, mid_lt hxs, mid_get V.str hxs, mid_wrap hxs hlen, decide_true, go_sem]
  refine ⟨fun hc => ?_, fun hc => ?_⟩
  ·simp -implicitDefEqProofs only [r57, push_cast, go_sem_proc]
   rw [hxs, ixF_append _ pre _ 0 hp, ixF, hc]; simp
  ·exact ⟨_, Nat.lt_succ_self _, pre ++ [y], post, by simp [hxs], rfl, fun z hz => by rcases List.mem_append.1 hz with hz | hz; exact hp z hz; simp at hz; subst hz; exact hc, by simp⟩
theorem t26 (xs : List ByteArray) (g : FuncId) (first caps : List V) (p : ByteArray → Bool) (hn : norefL first = true) (hn' : norefL caps = true)
  (h : ∀ x ∈ xs, PCall Tryz.prog g (first ++ [V.str x] ++ caps) (·= .bool (p x))) : PCall Tryz.prog 48 [.fs (xs.map V.str), .clos g first caps] (·= .bool (xs.any p)) := by
 refine PCall.intro c26 200 (by simp) 20 ?_
 simp -implicitDefEqProofs only [s26, go_sem]
 refine call_eqR (by simp [norefL, noref, hn, hn', norefL_str]) (t57 xs g first caps p hn hn' h) ?_
 simp -implicitDefEqProofs only [go_sem]
 simp -implicitDefEqProofs only [r26, push_cast, go_sem_proc]
 exact ixF_nonneg _ _ _ (by omega)
theorem t59 (xs : List Pr) (g : FuncId) (first caps : List V) (p : Pr → Bool) (hn : norefL first = true) (hn' : norefL caps = true)
  (h : ∀ x ∈ xs, PCall Tryz.prog g (first ++ [encP x] ++ caps) (·= .bool (p x))) : PCall Tryz.prog 129 [.fs (xs.map encP), .clos g first caps] (·= .int .i64 (ixF p xs 0)) := by
 refine PCall.intro c59 200 (by simp) 20 ?_
 simp -implicitDefEqProofs only [s59, go_sem]
 intro hlen
 refine F_loop (fun m e H => ∃ pre post, xs = pre ++ post ∧ m = post.length ∧ (∀ y ∈ pre, p y = false) ∧ e 0 = .fs (xs.map encP) ∧ e 1 = .clos g first caps ∧ e 7 = .int .i64 xs.length ∧ e 8 = .int .i64 pre.length) xs.length ⟨[], xs, by simp [upd, env0]⟩ ?_
 rintro m e H ⟨pre, post, hxs, rfl, hp, h0, h1, h7, h8⟩
 cases post with
 | nil =>
  simp -implicitDefEqProofs only [h0, h1, h7, h8, mid_not hxs, decide_false, go_sem]
  simp -implicitDefEqProofs only [r59, push_cast, go_sem_proc]
  rw [hxs, ixF_append _ pre [] 0 hp]; rfl
 | cons y post =>
  simp -implicitDefEqProofs only [h0, h1, h7, h8, mid_lt hxs, mid_get encP hxs, mid_wrap hxs hlen, decide_true, encP, go_sem]
  have hy := h y (by simp [hxs])
  simp only [List.append_assoc, List.cons_append, List.nil_append] at hy
  refine call_eqR (by simp [norefL_app, norefL, noref, hn, hn', norefL_encP, norefL_str, norefL_encS, noref_encP]) hy ?_
  simp -implicitDefEqProofs only [h0, h1, h7, h8, mid_lt hxs, mid_get encP hxs, mid_wrap hxs hlen, decide_true, go_sem]
  refine ⟨fun hc => ?_, fun hc => ?_⟩
  ·simp -implicitDefEqProofs only [r59, push_cast, go_sem_proc]
   rw [hxs, ixF_append _ pre _ 0 hp, ixF, hc]; simp
  ·exact ⟨_, Nat.lt_succ_self _, pre ++ [y], post, by simp [hxs], rfl, fun z hz => by rcases List.mem_append.1 hz with hz | hz; exact hp z hz; simp at hz; subst hz; exact hc, by simp⟩
theorem t73 (xs : List Pr) (g : FuncId) (first caps : List V) (p : Pr → Bool) (hn : norefL first = true) (hn' : norefL caps = true)
  (h : ∀ x ∈ xs, PCall Tryz.prog g (first ++ [encP x] ++ caps) (·= .bool (p x))) : PCall Tryz.prog 188 [.fs (xs.map encP), .clos g first caps] (·= .bool (xs.any p)) := by
 refine PCall.intro c73 200 (by simp) 20 ?_
 simp -implicitDefEqProofs only [s73, go_sem]
 refine call_eqR (by simp [norefL, noref, hn, hn', norefL_encP, norefL_str, norefL_encS, noref_encP]) (t59 xs g first caps p hn hn' h) ?_
 simp -implicitDefEqProofs only [go_sem]
 simp -implicitDefEqProofs only [r73, push_cast, go_sem_proc]
 exact ixF_nonneg _ _ _ (by omega)
theorem t69 (s : ByteArray) (c : Int) : PCall Tryz.prog 159 [.str s, .int .u8 c] (·= .int .i64 (Lib.indexByte s.data.toList c.toNat.toUInt8)) := by
 refine ⟨c69.call, fun I w args himm hr => ?_⟩
 have ha : args = #[.string s, .int .u8 c] := by
  apply Array.toList_inj.1
  simp only [RepL, Rep] at hr
  obtain ⟨v, vs, h1, h2, u, us, h3, h4, h5⟩ := hr
  rw [h1, h3, h5, h2.1, h4]
 subst ha
 refine (Any.strings_IndexByte Tryz.lays137 s c w).mono ?_
 rintro e w' ⟨rfl, rfl⟩
 exact ⟨_, _, I, rfl, rfl, ILe.refl _, himm, fun b h1 h2 => absurd h1 h2, by simp [Rep], Below.refl _ _⟩
theorem t85 (s cs : ByteArray) (hcs : cs.size < 4294967281) (hascii : ∀ (j : Nat) b, cs.data.toList[j]? = some b → b.toNat < 128) :
  PCall Tryz.prog 194 [.str s, .str cs] (·= .str ⟨(Lib.trimS s.data.toList cs.data.toList).toArray⟩) := by
 refine ⟨by kernel_rfl, fun I w args himm hr => ?_⟩
 have ha : args = #[.string s, .string cs] ∧ s.size ≤ maxLen := by
  simp only [RepL, Rep] at hr
  obtain ⟨v, vs, h1, h2, u, us, h3, h4, h5⟩ := hr
  refine ⟨?_, h2.2⟩
  apply Array.toList_inj.1
  rw [h1, h3, h5, h2.1, h4.1]
 obtain ⟨rfl, hs⟩ := ha
 refine (Any.strings_Trim_ascii Tryz.lays160 (fun w => (Tryz.zeroValue297 w).trans (congrArg (fun x => Result.ok x w) (by kernel_rfl))) (by kernel_rfl) s cs w hs hcs hascii).mono ?_
 rintro e w' ⟨rfl, hb⟩
 refine ⟨_, _, I, rfl, rfl, ILe.refl _, fun b o h => ?_, fun b h1 h2 => absurd h1 h2, ?_, hb⟩
 ·have := himm b o h
  have hlt := (Array.getElem?_eq_some_iff.1 this).1
  rw [hb.block b hlt]; exact this
 ·simp only [Rep]
  refine ⟨trivial, ?_⟩
  have h1 : (Lib.trimS s.data.toList cs.data.toList).length ≤ s.data.toList.length := by
   unfold Lib.trimS Lib.trimLeftS Lib.trimRightS
   refine Nat.le_trans (List.dropWhile_sublist _).length_le ?_
   rw [List.length_reverse]
   refine Nat.le_trans (List.dropWhile_sublist _).length_le ?_
   rw [List.length_reverse]; exact Nat.le_refl _
  have h2 := Lib.size_eq s
  show (Lib.trimS s.data.toList cs.data.toList).toArray.size ≤ _
  simp only [List.size_toArray]; omega
theorem t84 (s : ByteArray) : PCall Tryz.prog 193 [.str s] (·= .bool ([⟨#[112, 114, 111, 99]⟩, ⟨#[109, 97, 105, 110]⟩, ⟨#[105, 102]⟩, ⟨#[101, 108, 115, 101]⟩].any fun y => decide (s = y))) := by
 refine PCall.intro c84 200 (by simp) 20 ?_
 simp -implicitDefEqProofs only [s84, go_sem]
 simp -implicitDefEqProofs only [r84, push_cast, go_sem_proc]
 repeat' (refine Fork.mk (fun _ => ?_) (fun _ => ?_))
 all_goals (try simp_all)
 all_goals (try omega)
theorem t31 (n lo hi : Int) : PCall Tryz.prog 158 [.int .i64 n, .int .i64 lo, .int .i64 hi] (·= .bool (decide (lo ≤ n) && decide (n ≤ hi))) := by
 refine PCall.intro c31 200 (by simp) 20 ?_
 simp -implicitDefEqProofs only [s31, go_sem]
 simp -implicitDefEqProofs only [r31, push_cast, go_sem_proc]
 repeat' (refine Fork.mk (fun _ => ?_) (fun _ => ?_))
 all_goals (try simp_all)
 all_goals (try omega)
theorem t86 (n lo hi : Int) : PCall Tryz.prog 243 [.int .i64 n, .int .i64 lo, .int .i64 hi] (·= .bool (decide (n < lo) || decide (hi < n))) := by
 refine PCall.intro c86 200 (by simp) 20 ?_
 simp -implicitDefEqProofs only [s86, go_sem]
 simp -implicitDefEqProofs only [r86, push_cast, go_sem_proc]
 repeat' (refine Fork.mk (fun _ => ?_) (fun _ => ?_))
 all_goals (try simp_all)
 all_goals (try omega)
def lowC : List UInt8 := [97, 98, 99, 100, 101, 102, 103, 104, 105, 106, 107, 108, 109, 110, 111, 112, 113, 114, 115, 116, 117, 118, 119, 120, 121, 122]
def wordC : List UInt8 := [97, 98, 99, 100, 101, 102, 103, 104, 105, 106, 107, 108, 109, 110, 111, 112, 113, 114, 115, 116, 117, 118, 119, 120, 121, 122, 48, 49, 50, 51, 52, 53, 54, 55, 56, 57, 95]
def kw (s : ByteArray) : Bool := [⟨#[112, 114, 111, 99]⟩, ⟨#[109, 97, 105, 110]⟩, ⟨#[105, 102]⟩, ⟨#[101, 108, 115, 101]⟩].any fun y => decide (s = y)
def isNm (s : ByteArray) : Bool := decide (1 ≤ s.size) && decide (s.size ≤ 40) && lowC.contains (s.data.getD 0 0) && !kw s && s.data.toList.all (wordC.contains ·)
theorem ib_iff (l : List UInt8) (c : UInt8) : l.contains c = decide (0 ≤ Lib.indexByte l c) := by
 induction l with
 | nil => simp [Lib.indexByte]
 | cons b l ih =>
  have := Lib.indexByte_ge l c
  simp only [List.contains_cons, Lib.indexByte, ih]
  by_cases h : b = c
  ·subst h; simp
  ·have h' : (c == b) = false := by simp [Ne.symm h]
   have h2 : (b == c) = false := by simp [h]
   simp only [h', h2, Bool.false_or]
   split
   ·contradiction
   ·split
    ·rename_i h3; simp at h3; simp [h3]
    ·rename_i h3; simp at h3; simp; omega
theorem bt_u8 (s : ByteArray) (i : Nat) : (bt s i).toNat.toUInt8 = s.data.getD i 0 := by simp [bt]
theorem dropWhile_nil {α : Type} (p : α → Bool) : ∀ l : List α, l.dropWhile p = [] ↔ l.all p = true
 | [] => by simp
 | x :: l => by
  simp only [List.dropWhile_cons, List.all_cons]
  by_cases h : p x = true
  ·simp only [h, if_true, Bool.true_and]; exact dropWhile_nil p l
  ·simp [h]
theorem trim_nil (s : ByteArray) (l : List UInt8) : (((⟨(Lib.trimS s.data.toList l).toArray⟩ : ByteArray) = ⟨#[]⟩) = (s.data.toList.all (l.contains ·) = true)) := by
 have h1 : ((⟨(Lib.trimS s.data.toList l).toArray⟩ : ByteArray) = ⟨#[]⟩) ↔ Lib.trimS s.data.toList l = [] := by simp
 apply propext
 rw [h1]
 unfold Lib.trimS Lib.trimLeftS Lib.trimRightS
 rw [dropWhile_nil, List.all_reverse]
 constructor
 ·intro h
  have h2 : (s.data.toList.reverse.dropWhile (l.contains ·)) = [] := by
   cases hd : s.data.toList.reverse.dropWhile (l.contains ·) with
   | nil => rfl
   | cons a t =>
    have h3 := List.head?_dropWhile_not (l.contains ·) s.data.toList.reverse
    rw [hd] at h3 h
    simp only [List.head?_cons, List.all_cons, Bool.and_eq_true] at h3 h
    rw [h.1] at h3; simp at h3
  rw [dropWhile_nil, List.all_reverse] at h2
  exact h2
 ·intro h
  have h2 : (s.data.toList.reverse.dropWhile (l.contains ·)) = [] := by rw [dropWhile_nil, List.all_reverse]; exact h
  rw [h2]; rfl
theorem size0 (s : ByteArray) : (s = ⟨#[]⟩) = (s.size = 0) := by
 apply propext
 constructor
 ·rintro rfl; rfl
 ·intro h
  rcases s with ⟨a⟩
  have : a.size = 0 := h
  rw [Array.size_eq_zero_iff] at this
  rw [this]
theorem t85w (s : ByteArray) : PCall Tryz.prog 194 [.str s, .str ⟨#[97, 98, 99, 100, 101, 102, 103, 104, 105, 106, 107, 108, 109, 110, 111, 112, 113, 114, 115, 116, 117, 118, 119, 120, 121, 122, 48, 49, 50, 51, 52, 53, 54, 55, 56, 57, 95]⟩] (·= .str ⟨(Lib.trimS s.data.toList wordC).toArray⟩) :=
 t85 s ⟨wordC.toArray⟩ (by decide) (fun j b h => by
  have h1 : ∀ b ∈ wordC, b.toNat < 128 := by decide
  exact h1 b (List.mem_of_getElem? (by simpa using h)))
theorem ib_low (c : UInt8) : decide (0 ≤ Lib.indexByte [97, 98, 99, 100, 101, 102, 103, 104, 105, 106, 107, 108, 109, 110, 111, 112, 113, 114, 115, 116, 117, 118, 119, 120, 121, 122] c) = lowC.contains c := (ib_iff lowC c).symm
theorem ib_low' (c : UInt8) : decide (Lib.indexByte [97, 98, 99, 100, 101, 102, 103, 104, 105, 106, 107, 108, 109, 110, 111, 112, 113, 114, 115, 116, 117, 118, 119, 120, 121, 122] c < 0) = !lowC.contains c := by
 rw [← ib_low]; by_cases h : (0 ≤ Lib.indexByte [97, 98, 99, 100, 101, 102, 103, 104, 105, 106, 107, 108, 109, 110, 111, 112, 113, 114, 115, 116, 117, 118, 119, 120, 121, 122] c) <;> simp [h] <;> omega
theorem ib_word' (c : UInt8) : decide (Lib.indexByte [97, 98, 99, 100, 101, 102, 103, 104, 105, 106, 107, 108, 109, 110, 111, 112, 113, 114, 115, 116, 117, 118, 119, 120, 121, 122, 48, 49, 50, 51, 52, 53, 54, 55, 56, 57, 95] c < 0) = !wordC.contains c := by
 rw [ib_iff]
 by_cases h : (0 ≤ Lib.indexByte wordC c)
 ·have : ¬ (Lib.indexByte wordC c < 0) := by omega
  rw [decide_eq_true h]; exact decide_eq_false this
 ·have : (Lib.indexByte wordC c < 0) := by omega
  rw [decide_eq_false h]; exact decide_eq_true this
theorem kw_eq (s : ByteArray) : ([⟨#[112, 114, 111, 99]⟩, ⟨#[109, 97, 105, 110]⟩, ⟨#[105, 102]⟩, ⟨#[101, 108, 115, 101]⟩].any fun y => decide (s = y)) = kw s := rfl
theorem trim_dec (s : ByteArray) (l : List UInt8) : decide ((⟨(Lib.trimS s.data.toList l).toArray⟩ : ByteArray) = ⟨#[]⟩) = s.data.toList.all (l.contains ·) := by simp only [trim_nil]; simp
theorem size_dec (s : ByteArray) : decide (s = ⟨#[]⟩) = decide (s.size = 0) := by simp only [size0]
theorem sz_pos (n : Nat) : decide (1 ≤ n) = !decide (n = 0) := by cases n <;> simp
theorem t72 (s : ByteArray) : PCall Tryz.prog 145 [.str s] (·= .bool (isNm s)) := by
 refine PCall.intro c72 200 (by simp) 20 ?_
 simp -implicitDefEqProofs only [s72, go_sem]
 repeat' (first | ((first | ((with_reducible first | refine cgR (t84 s) ?_ ?_ | refine cgR (t69 _ _) ?_ ?_ | refine cgR (t85w _) ?_ ?_); (·simp [norefL, noref, nrb])) | ((with_reducible apply cgF); (·simp -implicitDefEqProofs only [List.map_cons, List.map_nil, push_cast, go_sem_proc] <;> rfl); (with_reducible first | exact (t84 s) | exact (t69 _ _) | exact (t85w _)); (·rfl)) | (with_reducible refine F_q2 ?_)); simp -implicitDefEqProofs only [go_sem]) | (with_reducible refine Fork.mk ?_ ?_) | (with_reducible refine And.intro ?_ ?_) | ((with_reducible refine rpI ?_); simp -implicitDefEqProofs only [r72, push_cast, go_sem_proc]) | intro _)
 all_goals (try simp only [trim_dec] at *)
 all_goals simp only [ib_low, bt_u8, kw_eq, size_dec, isNm, sz_pos] at *
 all_goals (generalize s.data.toList.all (wordC.contains ·) = A at *; generalize kw s = k at *; generalize lowC.contains (s.data.getD 0 0) = c at *; generalize s.size = n at *)
 all_goals (try simp_all)
 all_goals (try omega)
theorem sz_list (s : ByteArray) : s.data.toList.length = s.size := by simp; try rfl
theorem bt_mid {s : ByteArray} {pre post : List UInt8} {y : UInt8} (h : s.data.toList = pre ++ y :: post) : s.data.getD pre.length 0 = y := by
 have h1 : s.data.toList[pre.length]? = some y := by rw [h]; simp
 rw [Array.getElem?_toList] at h1
 simp [Array.getD_eq_getD_getElem?, h1]
theorem nm_tail (s : ByteArray) (A : Bool) (hA : s.data.toList.all (wordC.contains ·) = A) : isNm s = ((decide (1 ≤ (s.size : Int)) && decide ((s.size : Int) ≤ 40)) && (lowC.contains (s.data.getD 0 0)) && !kw s && A) := by
 rw [isNm, hA]
 have h1 : decide (1 ≤ (s.size : Int)) = decide (1 ≤ s.size) := by apply decide_eq_decide.2; omega
 have h2 : decide ((s.size : Int) ≤ 40) = decide (s.size ≤ 40) := by apply decide_eq_decide.2; omega
 rw [h1, h2]
theorem t54 (s : ByteArray) : PCall Tryz.prog 82 [.str s] (·= .bool (isNm s)) := by
 refine PCall.intro c54 200 (by simp) 20 ?_
 simp -implicitDefEqProofs only [s54, go_sem]
 repeat' (first | ((first | ((with_reducible first | refine cgR (t31 _ _ _) ?_ ?_ | refine cgR (t69 _ _) ?_ ?_ | refine cgR (t29 [⟨#[112, 114, 111, 99]⟩, ⟨#[109, 97, 105, 110]⟩, ⟨#[105, 102]⟩, ⟨#[101, 108, 115, 101]⟩] s) ?_ ?_); (·simp [norefL, noref, nrb])) | ((with_reducible apply cgF); (·simp -implicitDefEqProofs only [List.map_cons, List.map_nil, push_cast, go_sem_proc] <;> rfl); (with_reducible first | exact (t31 _ _ _) | exact (t69 _ _) | exact (t29 [⟨#[112, 114, 111, 99]⟩, ⟨#[109, 97, 105, 110]⟩, ⟨#[105, 102]⟩, ⟨#[101, 108, 115, 101]⟩] s)); (·rfl)) | (with_reducible refine F_q2 ?_)); simp -implicitDefEqProofs only [go_sem]) | (with_reducible refine Fork.mk ?_ ?_) | (with_reducible refine And.intro ?_ ?_) | ((with_reducible refine rpI ?_); simp -implicitDefEqProofs only [r54, push_cast, go_sem_proc]) | intro _)
 case' refine_2.refine_2.refine_2.refine_2.refine_2.refine_2.refine_2 =>
  rename_i hsz h1 h2 h3 hl
  rw [bt_u8, ib_low'] at h2
  rw [kw_eq] at h3
  refine F_loop (fun m e H => ∃ pre post, s.data.toList = pre ++ post ∧ m = post.length ∧ (pre.all (wordC.contains ·) = true) ∧ e 0 = .str s ∧ e 20 = .int .i64 s.size ∧ e 21 = .int .i64 pre.length) s.size ⟨[], s.data.toList, by simp [upd, env0, sz_list]⟩ ?_
  rintro m e H ⟨pre, post, hxs, rfl, hp, i0, i20, i21⟩
  cases post with
  | nil =>
   have hc : ¬ ((pre.length : Int) < s.size) := by rw [← sz_list s, hxs]; simp
   simp -implicitDefEqProofs only [i0, i20, i21, hc, decide_false, go_sem]
   simp -implicitDefEqProofs only [r54, push_cast, go_sem_proc]
   rw [nm_tail s true (by rw [hxs]; simpa using hp)]
   simp_all
  | cons y post =>
   have hc : ((pre.length : Int) < s.size) := by rw [← sz_list s, hxs]; simp; omega
   have hc2 : pre.length < s.size := by rw [← sz_list s, hxs]; simp
   have hw : IntKind.i64.wrap ((pre.length : Int) + 1) = ((pre.length + 1 : Nat) : Int) := wrap_succ (by omega)
   simp -implicitDefEqProofs only [i0, i20, i21, hc, hc2, hw, decide_true, go_sem]
   repeat' (first | ((first | ((with_reducible refine cgR (t69 _ _) ?_ ?_); (·simp [norefL, noref, nrb])) | ((with_reducible apply cgF); (·simp -implicitDefEqProofs only [List.map_cons, List.map_nil, push_cast, go_sem_proc] <;> rfl); (with_reducible exact (t69 _ _)); (·rfl)) | (with_reducible refine F_q2 ?_)); simp -implicitDefEqProofs only [i0, i20, i21, hc, hc2, hw, go_sem]) | (with_reducible refine Fork.mk ?_ ?_) | (with_reducible refine And.intro ?_ ?_) | ((with_reducible refine rpI ?_); simp -implicitDefEqProofs only [r54, push_cast, go_sem_proc]) | intro _)
   all_goals (rename_i hy; rw [bt_u8, ib_word', bt_mid hxs] at hy)
   ·have : s.data.toList.all (wordC.contains ·) = false := by
     rw [hxs, List.all_append, List.all_cons]
     have : wordC.contains y = false := by simpa using hy
     rw [this]; simp
    rw [nm_tail s false this]; simp
   ·refine ⟨_, Nat.lt_succ_self _, pre ++ [y], post, by simp [hxs], rfl, ?_, by simp⟩
    rw [List.all_append, hp, List.all_cons]
    have : wordC.contains y = true := by simpa using hy
    rw [this]; rfl
 all_goals (try rw [nm_tail s _ rfl])
 all_goals (try simp only [bt_u8, ib_low', kw_eq] at *)
 all_goals (generalize s.data.toList.all (wordC.contains ·) = A at *; generalize kw s = k at *; generalize lowC.contains (s.data.getD 0 0) = c at *; generalize s.size = n at *)
 all_goals (try simp_all)
 all_goals (try omega)
theorem t106 (s : ByteArray) : PCall Tryz.prog 276 [.str s] (·= .bool (!isNm s)) := by
 refine PCall.intro c106 200 (by simp) 20 ?_
 simp -implicitDefEqProofs only [s106, go_sem]
 repeat' (first | ((first | ((with_reducible refine cgR (t72 s) ?_ ?_); (·simp [norefL, noref, nrb])) | ((with_reducible apply cgF); (·simp -implicitDefEqProofs only [List.map_cons, List.map_nil, push_cast, go_sem_proc] <;> rfl); (with_reducible exact (t72 s)); (·rfl)) | (with_reducible refine F_q2 ?_)); simp -implicitDefEqProofs only [go_sem]) | (with_reducible refine Fork.mk ?_ ?_) | (with_reducible refine And.intro ?_ ?_) | ((with_reducible refine rpI ?_); simp -implicitDefEqProofs only [r106, push_cast, go_sem_proc]) | intro _)
 all_goals (try rfl)
theorem t94 (s : ByteArray) : PCall Tryz.prog 271 [.str s] (·= .bool (!isNm s)) := by
 refine PCall.intro c94 200 (by simp) 20 ?_
 simp -implicitDefEqProofs only [s94, go_sem]
 repeat' (first | ((first | ((with_reducible refine cgR (t54 s) ?_ ?_); (·simp [norefL, noref, nrb])) | ((with_reducible apply cgF); (·simp -implicitDefEqProofs only [List.map_cons, List.map_nil, push_cast, go_sem_proc] <;> rfl); (with_reducible exact (t54 s)); (·rfl)) | (with_reducible refine F_q2 ?_)); simp -implicitDefEqProofs only [go_sem]) | (with_reducible refine Fork.mk ?_ ?_) | (with_reducible refine And.intro ?_ ?_) | ((with_reducible refine rpI ?_); simp -implicitDefEqProofs only [r94, push_cast, go_sem_proc]) | intro _)
 all_goals (try rfl)
theorem t104 (b : Bool) (s : ByteArray) : PCall Tryz.prog 274 [.bool b, .str s] (·= .bool (b && !isNm s)) := by
 refine PCall.intro c104 200 (by simp) 20 ?_
 simp -implicitDefEqProofs only [s104, go_sem]
 repeat' (first | ((first | ((with_reducible refine cgR (t72 s) ?_ ?_); (·simp [norefL, noref, nrb])) | ((with_reducible apply cgF); (·simp -implicitDefEqProofs only [List.map_cons, List.map_nil, push_cast, go_sem_proc] <;> rfl); (with_reducible exact (t72 s)); (·rfl)) | (with_reducible refine F_q2 ?_)); simp -implicitDefEqProofs only [go_sem]) | (with_reducible refine Fork.mk ?_ ?_) | (with_reducible refine And.intro ?_ ?_) | ((with_reducible refine rpI ?_); simp -implicitDefEqProofs only [r104, push_cast, go_sem_proc]) | intro _)
 all_goals (simp_all)
theorem t60 (p : Pr) (x : ByteArray) : PCall Tryz.prog 130 [encP p, .rptr [.str x]] (·= .bool (decide (p.name = x))) := by
 refine PCall.intro c60 200 (by simp) 20 ?_
 simp -implicitDefEqProofs only [s60, encP, go_sem]
 repeat' (first | ((with_reducible refine F_q2 ?_); simp -implicitDefEqProofs only [go_sem]) | (with_reducible refine Fork.mk ?_ ?_) | (with_reducible refine And.intro ?_ ?_) | ((with_reducible refine rpI ?_); simp -implicitDefEqProofs only [r60, push_cast, go_sem_proc]) | intro _)
 all_goals (try rfl)
theorem t76 (p : Pr) (x : ByteArray) : PCall Tryz.prog 249 [encP p, .rptr [.str x]] (·= .bool (decide (p.name = x))) := by
 refine PCall.intro c76 200 (by simp) 20 ?_
 simp -implicitDefEqProofs only [s76, encP, go_sem]
 repeat' (first | ((with_reducible refine F_q2 ?_); simp -implicitDefEqProofs only [go_sem]) | (with_reducible refine Fork.mk ?_ ?_) | (with_reducible refine And.intro ?_ ?_) | ((with_reducible refine rpI ?_); simp -implicitDefEqProofs only [r76, push_cast, go_sem_proc]) | intro _)
 all_goals (try rfl)
theorem t74 (p q : Pr) : PCall Tryz.prog 189 [encP p, .rptr [.str q.name, .fs (q.roles.map .str), .fs (q.steps.map encS)]] (·= .bool (decide (p.name = q.name))) := by
 refine PCall.intro c74 200 (by simp) 20 ?_
 simp -implicitDefEqProofs only [s74, encP, go_sem]
 repeat' (first | ((with_reducible refine F_q2 ?_); simp -implicitDefEqProofs only [go_sem]) | (with_reducible refine Fork.mk ?_ ?_) | (with_reducible refine And.intro ?_ ?_) | ((with_reducible refine rpI ?_); simp -implicitDefEqProofs only [r74, push_cast, go_sem_proc]) | intro _)
 all_goals (try rfl)
def ar (k : Int) : Int := if k < 1 ∨ 9 < k then -1 else if k ≤ 2 then 0 else if k = 8 then 1 else if k = 9 then 3 else 2
theorem t112 (k : Int) : PCall Tryz.prog 285 [.int .i64 k] (·= .int .i64 (ar k)) := by
 refine PCall.intro c112 200 (by simp) 20 ?_
 simp -implicitDefEqProofs only [s112, go_sem]
 repeat' (first | ((first | ((with_reducible refine cgR (t86 _ _ _) ?_ ?_); (·simp [norefL, noref, nrb])) | ((with_reducible apply cgF); (·simp -implicitDefEqProofs only [List.map_cons, List.map_nil, push_cast, go_sem_proc] <;> rfl); (with_reducible exact (t86 _ _ _)); (·rfl)) | (with_reducible refine F_q2 ?_)); simp -implicitDefEqProofs only [go_sem]) | (with_reducible refine Fork.mk ?_ ?_) | (with_reducible refine And.intro ?_ ?_) | ((with_reducible refine rpI ?_); simp -implicitDefEqProofs only [r112, push_cast, go_sem_proc]) | intro _)
 all_goals (simp_all [ar])
 all_goals (try omega)
theorem t107 (k : Int) : PCall Tryz.prog 284 [.int .i64 k] (·= .int .i64 (ar k)) := by
 refine PCall.intro c107 200 (by simp) 20 ?_
 simp -implicitDefEqProofs only [s107, go_sem]
 repeat' (first | ((first | ((with_reducible refine cgR (t31 _ _ _) ?_ ?_); (·simp [norefL, noref, nrb])) | ((with_reducible apply cgF); (·simp -implicitDefEqProofs only [List.map_cons, List.map_nil, push_cast, go_sem_proc] <;> rfl); (with_reducible exact (t31 _ _ _)); (·rfl)) | (with_reducible refine F_q2 ?_)); simp -implicitDefEqProofs only [go_sem]) | (with_reducible refine Fork.mk ?_ ?_) | (with_reducible refine And.intro ?_ ?_) | ((with_reducible refine rpI ?_); simp -implicitDefEqProofs only [r107, push_cast, go_sem_proc]) | intro _)
 all_goals rename_i h
 ·simp at h; simp [ar]; omega
 all_goals
  have hk : k = 1 ∨ k = 2 ∨ k = 3 ∨ k = 4 ∨ k = 5 ∨ k = 6 ∨ k = 7 ∨ k = 8 ∨ k = 9 := by simp at h; omega
  rcases hk with rfl | rfl | rfl | rfl | rfl | rfl | rfl | rfl | rfl <;> simp [IntKind.wrap, IntKind.signed, IntKind.bits, ixP, cellsV_int, ar, fz_int]
theorem t81 (k n : Int) (s : ByteArray) (xs : List Ex) : PCall Tryz.prog 239 [encE (.mk k n s xs)] (·= .bool (decide (k = 0) && decide (n = 0) && decide (s = ⟨#[]⟩) && decide (xs.length = 0))) := by
 refine PCall.intro c81 200 (by simp) 20 ?_
 simp -implicitDefEqProofs only [s81, encE_mk, go_sem]
 repeat' (first | ((with_reducible refine F_q2 ?_); simp -implicitDefEqProofs only [go_sem]) | (with_reducible refine Fork.mk ?_ ?_) | (with_reducible refine And.intro ?_ ?_) | ((with_reducible refine rpI ?_); simp -implicitDefEqProofs only [r81, push_cast, go_sem_proc]) | intro _)
 all_goals (simp_all)
theorem t36r (xs : List ByteArray) : PCall Tryz.prog 16 [.fs (xs.map .str), .fs (xs.map .str)] (·= .bool true) := by
 refine PCall.intro c36 200 (by simp) 20 ?_
 simp -implicitDefEqProofs only [s36, decide_true, go_sem]
 intro hlen _ _
 refine F_loop (fun m e H => ∃ pre post, xs = pre ++ post ∧ m = post.length ∧ e 0 = .fs (xs.map .str) ∧ e 1 = .fs (xs.map .str) ∧ e 12 = .int .i64 xs.length ∧ e 13 = .int .i64 pre.length) xs.length ⟨[], xs, by simp [upd, env0]⟩ ?_
 rintro m e H ⟨pre, post, hxs, rfl, h1, h2, h16, h17⟩
 cases post with
 | nil =>
  simp -implicitDefEqProofs only [h1, h2, h16, h17, mid_not hxs, decide_false, go_sem]
  simp -implicitDefEqProofs only [r36, push_cast, go_sem_proc]
 | cons y post =>
  have hg := mid_get V.str hxs
  simp -implicitDefEqProofs only [h1, h2, h16, h17, hg, mid_lt hxs, mid_wrap hxs hlen, decide_true, go_sem]
  repeat' (first | ((with_reducible refine F_q2 ?_); simp -implicitDefEqProofs only [h1, h2, h16, h17, hg, mid_lt hxs, mid_wrap hxs hlen, go_sem]) | (with_reducible refine Fork.mk ?_ ?_) | (with_reducible refine And.intro ?_ ?_) | ((with_reducible refine rpI ?_); simp -implicitDefEqProofs only [r36, push_cast, go_sem_proc]) | intro _)
  exact ⟨_, Nat.lt_succ_self _, pre ++ [y], post, by simp [hxs], rfl, by simp⟩
mutual
def exF : Ex → Int → Int
  | .mk k n s xs, d => if d > 20 then 2 else if ar k < 0 then 4 else if (xs.length : Int) ≠ ar k ∨ (k ≠ 1 ∧ n ≠ 0) ∨ (k ≠ 2 ∧ s ≠ ⟨#[]⟩) then 3
    else if n < 0 ∨ 999 < n then 1 else if k = 2 ∧ isNm s = false then 5 else exFs xs (d + 1)
def exFs : List Ex → Int → Int
  | [], _ => 0
  | x :: l, d => if exF x d ≠ 0 then exF x d else exFs l d
end
theorem exFs_append : ∀ (pre post : List Ex) (d : Int), (∀ y ∈ pre, exF y d = 0) → exFs (pre ++ post) d = exFs post d
  | [], post, d, _ => rfl
  | x :: pre, post, d, h => by
    rw [List.cons_append, exFs, h x (by simp)]
    simp only [ne_eq, not_true_eq_false, if_false]
    exact exFs_append pre post d (fun y hy => h y (by simp [hy]))
theorem wrap_small {d : Int} (h1 : -1000 ≤ d) (h2 : d ≤ 1000000) : IntKind.i64.wrap (d + 1) = d + 1 := by
  simp [IntKind.wrap, IntKind.signed, IntKind.bits]; omega
theorem t105s (k n : Int) (s : ByteArray) (xs : List Ex) (d : Int) (hd0 : 0 ≤ d) (hd : d ≤ 21) (h : ∀ y ∈ xs, ∀ d', 0 ≤ d' → d' ≤ 21 → PCall Tryz.prog 275 [encE y, .int .i64 d'] (· = .int .i64 (exF y d'))) :
    PCall Tryz.prog 275 [encE (.mk k n s xs), .int .i64 d] (· = .int .i64 (exF (.mk k n s xs) d)) := by
  refine PCall.intro c105 300 (by simp) 20 ?_
  simp -implicitDefEqProofs only [s105, encE_mk, go_sem]
  repeat' (first | ((first | ((with_reducible first | refine cgR (t112 k) ?_ ?_ | refine cgR (t86 _ _ _) ?_ ?_ | refine cgR (t72 s) ?_ ?_); (· simp [norefL, noref, nrb])) | ((with_reducible apply cgF); (· simp -implicitDefEqProofs only [List.map_cons, List.map_nil, push_cast, go_sem_proc] <;> rfl); (with_reducible first | exact (t112 k) | exact (t86 _ _ _) | exact (t72 s)); (· rfl)) | (with_reducible refine F_q2 ?_)); simp -implicitDefEqProofs only [go_sem]) | (with_reducible refine Fork.mk ?_ ?_) | (with_reducible refine And.intro ?_ ?_) | ((with_reducible refine rpI ?_); simp -implicitDefEqProofs only [r105, push_cast, go_sem_proc]) | intro _)
  all_goals first
    | ((with_reducible show F _ _ _)
       have hR : exF (.mk k n s xs) d = exFs xs (d + 1) := by clear h; simp_all [exF] <;> omega
       have hd20 : d ≤ 20 := by clear h; simp_all <;> omega
       have hw := wrap_small (d := d) (by omega) (by omega)
       have hlen : xs.length ≤ 9223372036854775807 := by assumption
       refine F_loop (fun m e H => ∃ pre post, xs = pre ++ post ∧ m = post.length ∧ (∀ y ∈ pre, exF y (d + 1) = 0) ∧ e 1 = .int .i64 d ∧ e 59 = .fs (xs.map encE) ∧ e 60 = .int .i64 xs.length ∧ e 61 = .int .i64 pre.length) xs.length ⟨[], xs, by simp [upd, env0]⟩ ?_
       rintro m e H ⟨pre, post, hxs, rfl, hp, h1, h59, h60, h61⟩
       cases post with
       | nil =>
         simp -implicitDefEqProofs only [h1, h59, h60, h61, mid_not hxs, go_sem]
         simp -implicitDefEqProofs only [r105, push_cast, go_sem_proc]
         rw [hR, hxs, exFs_append pre [] _ hp]; rfl
       | cons y post =>
         have hy := h y (by simp [hxs]) (d + 1) (by omega) (by omega)
         have hg := mid_get encE hxs
         have hE : exFs (pre ++ y :: post) (d + 1) = if exF y (d + 1) ≠ 0 then exF y (d + 1) else exFs post (d + 1) := by rw [exFs_append pre _ _ hp, exFs]
         generalize hyR : exF y (d + 1) = yr at *
         generalize hyE : encE y = ye at *
         rcases y with ⟨k', n', s', zs⟩
         rw [encE_mk] at hyE
         subst hyE
         simp -implicitDefEqProofs only [h1, h59, h60, h61, hg, mid_lt hxs, mid_wrap hxs hlen, hw, go_sem]
         repeat' (first | ((first | ((with_reducible refine cgR hy ?_ ?_); (· simp [norefL, noref, nrb])) | ((with_reducible apply cgF); (· simp -implicitDefEqProofs only [List.map_cons, List.map_nil, push_cast, go_sem_proc] <;> rfl); (with_reducible exact hy); (· rfl)) | (with_reducible refine F_q2 ?_)); simp -implicitDefEqProofs only [h1, h59, h60, h61, hg, mid_lt hxs, mid_wrap hxs hlen, hw, go_sem]) | (with_reducible refine Fork.mk ?_ ?_) | (with_reducible refine And.intro ?_ ?_) | ((with_reducible refine rpI ?_); simp -implicitDefEqProofs only [r105, push_cast, go_sem_proc]) | intro _)
         · rename_i hc
           rw [hR, hxs, hE, if_pos (by simpa using hc)]
         · rename_i hc
           exact ⟨_, Nat.lt_succ_self _, pre ++ [_], post, by simp [hxs]; rfl, rfl, fun z hz => by rcases List.mem_append.1 hz with hz | hz; exact hp z hz; simp at hz; subst hz; rw [hyR]; simpa using hc, by simp⟩)
    | (clear h; simp_all [exF]; done)
    | (clear h; simp_all [exF]; omega)
theorem t105 : (x : Ex) → ∀ d : Int, 0 ≤ d → d ≤ 21 → PCall Tryz.prog 275 [encE x, .int .i64 d] (· = .int .i64 (exF x d))
  | .mk k n s xs => fun d h1 h2 => t105s k n s xs d h1 h2 (fun y hy => t105 y)
termination_by x => SizeOf.sizeOf x
decreasing_by
  have := List.sizeOf_lt_of_mem hy
  simp; omega
theorem t90 (x : Ex) : PCall Tryz.prog 247 [encE x] (· = .int .i64 (exF x 1)) := by
  have h := t105 x 1 (by omega) (by omega)
  rcases x with ⟨k, n, s, xs⟩
  rw [encE_mk] at h
  refine PCall.intro c90 200 (by simp) 20 ?_
  simp -implicitDefEqProofs only [s90, encE_mk, go_sem]
  repeat' (first | ((first | ((with_reducible refine cgR h ?_ ?_); (· simp [norefL, noref, nrb])) | ((with_reducible apply cgF); (· simp -implicitDefEqProofs only [List.map_cons, List.map_nil, push_cast, go_sem_proc] <;> rfl); (with_reducible exact h); (· rfl)) | (with_reducible refine F_q2 ?_)); simp -implicitDefEqProofs only [go_sem]) | (with_reducible refine Fork.mk ?_ ?_) | (with_reducible refine And.intro ?_ ?_) | ((with_reducible refine rpI ?_); simp -implicitDefEqProofs only [r90, push_cast, go_sem_proc]) | intro _)
  all_goals rfl
theorem t95s (k n : Int) (s : ByteArray) (xs : List Ex) (d : Int) (hd0 : 0 ≤ d) (hd : d ≤ 21) (h : ∀ y ∈ xs, ∀ d', 0 ≤ d' → d' ≤ 21 → PCall Tryz.prog 272 [encE y, .int .i64 d'] (· = .int .i64 (exF y d'))) :
    PCall Tryz.prog 272 [encE (.mk k n s xs), .int .i64 d] (· = .int .i64 (exF (.mk k n s xs) d)) := by
  refine PCall.intro c95 300 (by simp) 20 ?_
  simp -implicitDefEqProofs only [s95, encE_mk, go_sem]
  repeat' (first | ((first | ((with_reducible first | refine cgR (t107 k) ?_ ?_ | refine cgR (t31 _ _ _) ?_ ?_ | refine cgR (t54 s) ?_ ?_); (· simp [norefL, noref, nrb])) | ((with_reducible apply cgF); (· simp -implicitDefEqProofs only [List.map_cons, List.map_nil, push_cast, go_sem_proc] <;> rfl); (with_reducible first | exact (t107 k) | exact (t31 _ _ _) | exact (t54 s)); (· rfl)) | (with_reducible refine F_q2 ?_)); simp -implicitDefEqProofs only [go_sem]) | (with_reducible refine Fork.mk ?_ ?_) | (with_reducible refine And.intro ?_ ?_) | ((with_reducible refine rpI ?_); simp -implicitDefEqProofs only [r95, push_cast, go_sem_proc]) | intro _)
  all_goals first
    | ((with_reducible show F _ _ _)
       have hR : exF (.mk k n s xs) d = exFs xs (d + 1) := by clear h; simp_all [exF] <;> omega
       have hd20 : d ≤ 20 := by clear h; simp_all <;> omega
       have hw := wrap_small (d := d) (by omega) (by omega)
       have hlen : xs.length ≤ 9223372036854775807 := by assumption
       refine F_loop (fun m e H => ∃ pre post, xs = pre ++ post ∧ m = post.length ∧ (∀ y ∈ pre, exF y (d + 1) = 0) ∧ e 1 = .int .i64 d ∧ e 60 = .fs (xs.map encE) ∧ e 61 = .int .i64 xs.length ∧ e 62 = .int .i64 pre.length) xs.length ⟨[], xs, by simp [upd, env0]⟩ ?_
       rintro m e H ⟨pre, post, hxs, rfl, hp, h1, h59, h60, h61⟩
       cases post with
       | nil =>
         simp -implicitDefEqProofs only [h1, h59, h60, h61, mid_not hxs, go_sem]
         simp -implicitDefEqProofs only [r95, push_cast, go_sem_proc]
         rw [hR, hxs, exFs_append pre [] _ hp]; rfl
       | cons y post =>
         have hy := h y (by simp [hxs]) (d + 1) (by omega) (by omega)
         have hg := mid_get encE hxs
         have hE : exFs (pre ++ y :: post) (d + 1) = if exF y (d + 1) ≠ 0 then exF y (d + 1) else exFs post (d + 1) := by rw [exFs_append pre _ _ hp, exFs]
         generalize hyR : exF y (d + 1) = yr at *
         generalize hyE : encE y = ye at *
         rcases y with ⟨k', n', s', zs⟩
         rw [encE_mk] at hyE
         subst hyE
         simp -implicitDefEqProofs only [h1, h59, h60, h61, hg, mid_lt hxs, mid_wrap hxs hlen, hw, go_sem]
         repeat' (first | ((first | ((with_reducible refine cgR hy ?_ ?_); (· simp [norefL, noref, nrb])) | ((with_reducible apply cgF); (· simp -implicitDefEqProofs only [List.map_cons, List.map_nil, push_cast, go_sem_proc] <;> rfl); (with_reducible exact hy); (· rfl)) | (with_reducible refine F_q2 ?_)); simp -implicitDefEqProofs only [h1, h59, h60, h61, hg, mid_lt hxs, mid_wrap hxs hlen, hw, go_sem]) | (with_reducible refine Fork.mk ?_ ?_) | (with_reducible refine And.intro ?_ ?_) | ((with_reducible refine rpI ?_); simp -implicitDefEqProofs only [r95, push_cast, go_sem_proc]) | intro _)
         · rename_i hc
           rw [hR, hxs, hE, if_pos (by simpa using hc)]
         · rename_i hc
           exact ⟨_, Nat.lt_succ_self _, pre ++ [_], post, by simp [hxs]; rfl, rfl, fun z hz => by rcases List.mem_append.1 hz with hz | hz; exact hp z hz; simp at hz; subst hz; rw [hyR]; simpa using hc, by simp⟩)
    | (clear h; simp_all [exF]; done)
    | (clear h; simp_all [exF]; omega)
theorem t95 : (x : Ex) → ∀ d : Int, 0 ≤ d → d ≤ 21 → PCall Tryz.prog 272 [encE x, .int .i64 d] (· = .int .i64 (exF x d))
  | .mk k n s xs => fun d h1 h2 => t95s k n s xs d h1 h2 (fun y hy => t95 y)
termination_by x => SizeOf.sizeOf x
decreasing_by
  have := List.sizeOf_lt_of_mem hy
  simp; omega
theorem t83 (x : Ex) : PCall Tryz.prog 241 [encE x] (· = .int .i64 (exF x 1)) := by
  have h := t95 x 1 (by omega) (by omega)
  rcases x with ⟨k, n, s, xs⟩
  rw [encE_mk] at h
  refine PCall.intro c83 200 (by simp) 20 ?_
  simp -implicitDefEqProofs only [s83, encE_mk, go_sem]
  repeat' (first | ((first | ((with_reducible refine cgR h ?_ ?_); (· simp [norefL, noref, nrb])) | ((with_reducible apply cgF); (· simp -implicitDefEqProofs only [List.map_cons, List.map_nil, push_cast, go_sem_proc] <;> rfl); (with_reducible exact h); (· rfl)) | (with_reducible refine F_q2 ?_)); simp -implicitDefEqProofs only [go_sem]) | (with_reducible refine Fork.mk ?_ ?_) | (with_reducible refine And.intro ?_ ?_) | ((with_reducible refine rpI ?_); simp -implicitDefEqProofs only [r83, push_cast, go_sem_proc]) | intro _)
  all_goals rfl
def us (a b c d e f g : Bool) : V := .agg [.bool a, .bool b, .bool c, .bool d, .bool e, .bool f, .bool g]
def uz (k : Int) : V := if k = 1 then us true true true false true false false else if k = 2 then us true true false true false false false
  else if k = 3 then us true false true false true false false else if k = 4 then us true false false false true true false else us false false false false false false true
theorem t89 (k : Int) : PCall Tryz.prog 246 [.int .i64 k] (· = uz k) := by
  refine PCall.intro c89 200 (by simp) 20 ?_
  simp -implicitDefEqProofs only [s89, go_sem]
  repeat' (first | ((with_reducible refine F_q2 ?_); simp -implicitDefEqProofs only [go_sem]) | (with_reducible refine Fork.mk ?_ ?_) | (with_reducible refine And.intro ?_ ?_) | ((with_reducible refine rpI ?_); simp -implicitDefEqProofs only [r89, push_cast, go_sem_proc]) | intro _)
  all_goals (simp_all [uz, us])
def isNone (k n : Int) (s : ByteArray) (xs : List Ex) : Bool := decide (k = 0) && decide (n = 0) && decide (s = ⟨#[]⟩) && decide (xs.length = 0)
theorem t103z (k n : Int) (s : ByteArray) (xs : List Ex) : PCall Tryz.prog 273 [encE (.mk k n s xs), .agg [.int .i64 0, .int .i64 0, .str ⟨#[]⟩, .fs []]] (· = .bool (isNone k n s xs)) := by
  refine PCall.intro c103 200 (by simp) 20 ?_
  simp -implicitDefEqProofs only [s103, encE_mk, go_sem]
  repeat' (first | ((with_reducible refine F_q2 ?_); simp -implicitDefEqProofs only [go_sem]) | (with_reducible refine Fork.mk ?_ ?_) | (with_reducible refine And.intro ?_ ?_) | ((with_reducible refine rpI ?_); simp -implicitDefEqProofs only [r103, push_cast, go_sem_proc]) | intro _)
  all_goals first
    | ((with_reducible show F _ _ _)
       have hx : xs = [] := by
         rename_i hx _
         cases xs with
         | nil => rfl
         | cons a l => simp at hx; omega
       have hR : isNone k n s xs = true := by simp_all [isNone]
       refine F_loop (fun m e H => e 37 = .int .i64 0 ∧ e 38 = .int .i64 0) 0 (by simp [upd, env0, hx]) ?_
       rintro m e H ⟨h1, h2⟩
       simp -implicitDefEqProofs only [h1, h2, Int.lt_irrefl, go_sem]
       simp -implicitDefEqProofs only [r103, push_cast, go_sem_proc]
       exact hR.symm)
    | (simp_all [isNone]; done)
    | (simp_all [isNone]; omega)
theorem t91 (k : Int) (r t v l : ByteArray) (e : Ex) (a b : List St) (p : ByteArray) (ps : List ByteArray) :
    PCall Tryz.prog 248 [encS (.mk k r t v l e a b p ps)] (· = .int .i64 (if k ≠ 5 then 0 else if ps.length = 0 then 8 else if ps.length > 12 then 2 else if ps.any (fun s => !isNm s) then 5 else 0)) := by
  rcases e with ⟨ek, en, es, eas⟩
  refine PCall.intro c91 200 (by simp) 20 ?_
  simp -implicitDefEqProofs only [s91, encS_mk, go_sem]
  have h26 := t26 ps 276 [] [] (fun s => !isNm s) rfl rfl (fun x _ => t106 x)
  repeat' (first | ((first | ((with_reducible refine cgR h26 ?_ ?_); (· simp [norefL, noref, nrb])) | ((with_reducible apply cgF); (· simp -implicitDefEqProofs only [List.map_cons, List.map_nil, push_cast, go_sem_proc] <;> rfl); (with_reducible exact h26); (· rfl)) | (with_reducible refine F_q2 ?_)); simp -implicitDefEqProofs only [go_sem]) | (with_reducible refine Fork.mk ?_ ?_) | (with_reducible refine And.intro ?_ ?_) | ((with_reducible refine rpI ?_); simp -implicitDefEqProofs only [r91, push_cast, go_sem_proc]) | intro _)
  all_goals clear h26
  all_goals (generalize (ps.any fun s => !isNm s) = B at *; generalize ps.length = n at *)
  all_goals (try simp_all)
  all_goals (try omega)
def nE (s : ByteArray) : Bool := !decide (s = ⟨#[]⟩)
def foF (k : Int) (r t v l : ByteArray) (none : Bool) (a b : Nat) (p : ByteArray) (ps : Nat) : Int :=
  if ((k < 1 ∨ 4 < k) ∧ nE r = true) ∨ ((k < 1 ∨ 2 < k) ∧ nE t = true) ∨ ((k ≠ 1 ∧ k ≠ 3) ∧ nE v = true) ∨ (k ≠ 2 ∧ nE l = true) ∨ ((k ≠ 1 ∧ k ≠ 3 ∧ k ≠ 4) ∧ none = false) ∨ (k ≠ 4 ∧ a + b > 0) ∨ ((1 ≤ k ∧ k ≤ 4) ∧ (nE p = true ∨ ps > 0)) then 3 else 0
theorem wrap_add {m n : Nat} (h : m + n ≤ 1000000) : IntKind.i64.wrap ((m : Int) + (n : Int)) = ((m + n : Nat) : Int) := by
  simp [IntKind.wrap, IntKind.signed, IntKind.bits]; omega
set_option maxRecDepth 20000 in
theorem t87 (k : Int) (hk : 1 ≤ k ∧ k ≤ 5) (r t v l : ByteArray) (ek en : Int) (es : ByteArray) (eas : List Ex) (a b : List St) (p : ByteArray) (ps : List ByteArray) (hab : a.length + b.length ≤ 1000000) :
    PCall Tryz.prog 244 [encS (.mk k r t v l (.mk ek en es eas) a b p ps)] (· = .int .i64 (foF k r t v l (isNone ek en es eas) a.length b.length p ps.length)) := by
  have h103 := t103z ek en es eas
  rw [encE_mk] at h103
  have h89 := t89 k
  have hk : k = 1 ∨ k = 2 ∨ k = 3 ∨ k = 4 ∨ k = 5 := by omega
  refine PCall.intro c87 400 (by simp) 20 ?_
  rcases hk with rfl | rfl | rfl | rfl | rfl
  all_goals
    simp (config := { decide := true }) only [uz, us, if_true, if_false, ↓reduceIte] at h89
    simp -implicitDefEqProofs only [s87, encS_mk, wrap_add hab, go_sem]
    repeat' (first | ((first | ((with_reducible first | refine cgR h89 ?_ ?_ | refine cgR h103 ?_ ?_); (· simp [norefL, noref, nrb])) | ((with_reducible apply cgF); (· simp -implicitDefEqProofs only [List.map_cons, List.map_nil, push_cast, go_sem_proc] <;> rfl); (with_reducible first | exact h89 | exact h103); (· rfl)) | (with_reducible refine F_q2 ?_)); simp -implicitDefEqProofs only [wrap_add hab, go_sem]) | (with_reducible refine Fork.mk ?_ ?_) | (with_reducible refine And.intro ?_ ?_) | ((with_reducible refine rpI ?_); simp -implicitDefEqProofs only [r87, push_cast, go_sem_proc]) | intro _)
  all_goals clear h103 h89
  all_goals (generalize isNone ek en es eas = Z at *; generalize a.length = m at *; generalize b.length = n at *; generalize ps.length = q at *)
  all_goals (first | (simp_all [foF, nE]; done) | (simp_all [foF, nE]; omega))
def naF (k : Int) (r t v l p : ByteArray) : Int :=
 if ((1 ≤ k ∧ k ≤ 4) ∧ isNm r = false) ∨ ((k = 1 ∨ k = 2) ∧ isNm t = false) ∨ ((k = 1 ∨ k = 3) ∧ isNm v = false) ∨ (k = 2 ∧ isNm l = false) ∨ ((k < 1 ∨ 4 < k) ∧ isNm p = false) then 5 else 0
set_option maxRecDepth 20000 in
theorem t88 (k : Int) (hk : 1 ≤ k ∧ k ≤ 5) (r t v l : ByteArray) (ek en : Int) (es : ByteArray) (eas : List Ex) (a b : List St) (p : ByteArray) (ps : List ByteArray) :
  PCall Tryz.prog 245 [encS (.mk k r t v l (.mk ek en es eas) a b p ps)] (·= .int .i64 (naF k r t v l p)) := by
 have h89 := t89 k
 have hk : k = 1 ∨ k = 2 ∨ k = 3 ∨ k = 4 ∨ k = 5 := by omega
 refine PCall.intro c88 400 (by simp) 20 ?_
 rcases hk with rfl | rfl | rfl | rfl | rfl
 all_goals
  simp (config := { decide := true }) only [uz, us, if_true, if_false, ↓reduceIte] at h89
  simp -implicitDefEqProofs only [s88, encS_mk, go_sem]
  repeat' (first | ((first | ((with_reducible first | refine cgR h89 ?_ ?_ | refine cgR (t104 _ _) ?_ ?_); (·simp [norefL, noref, nrb])) | ((with_reducible apply cgF); (·simp -implicitDefEqProofs only [List.map_cons, List.map_nil, push_cast, go_sem_proc] <;> rfl); (with_reducible first | exact h89 | exact (t104 _ _)); (·rfl)) | (with_reducible refine F_q2 ?_)); simp -implicitDefEqProofs only [go_sem]) | (with_reducible refine Fork.mk ?_ ?_) | (with_reducible refine And.intro ?_ ?_) | ((with_reducible refine rpI ?_); simp -implicitDefEqProofs only [r88, push_cast, go_sem_proc]) | intro _)
 all_goals clear h89
 all_goals (first | (simp_all [naF]; done) | (simp_all [naF]; omega))
def stF (k : Int) (r t v l : ByteArray) (e : Ex) (none : Bool) (na nb : Nat) (p : ByteArray) (ps : List ByteArray) (d : Int) : Int :=
 if d > 20 then 2 else if k < 1 ∨ 5 < k then 4 else if foF k r t v l none na nb p ps.length ≠ 0 then 3 else if naF k r t v l p ≠ 0 then 5
 else if (k = 1 ∨ k = 3 ∨ k = 4) ∧ exF e 1 ≠ 0 then exF e 1
 else if k ≠ 5 then 0 else if ps.length = 0 then 8 else if ps.length > 12 then 2 else if ps.any (fun s => !isNm s) then 5 else 0
theorem foF_vals (k : Int) (r t v l : ByteArray) (none : Bool) (a b : Nat) (p : ByteArray) (ps : Nat) : foF k r t v l none a b p ps = 0 ∨ foF k r t v l none a b p ps = 3 := by
 unfold foF; split <;> simp
theorem naF_vals (k : Int) (r t v l p : ByteArray) : naF k r t v l p = 0 ∨ naF k r t v l p = 5 := by
 unfold naF; split <;> simp
set_option maxRecDepth 20000 in
theorem t75 (k : Int) (r t v l : ByteArray) (ek en : Int) (es : ByteArray) (eas : List Ex) (a b : List St) (p : ByteArray) (ps : List ByteArray) (hab : a.length + b.length ≤ 1000000) (d : Int) :
  PCall Tryz.prog 190 [encS (.mk k r t v l (.mk ek en es eas) a b p ps), .int .i64 d] (·= .int .i64 (stF k r t v l (.mk ek en es eas) (isNone ek en es eas) a.length b.length p ps d)) := by
 have h90 := t90 (.mk ek en es eas)
 have h91 := t91 k r t v l (.mk ek en es eas) a b p ps
 rw [encS_mk] at h91
 rw [encE_mk] at h90
 have hf := foF_vals k r t v l (isNone ek en es eas) a.length b.length p ps.length
 have hn := naF_vals k r t v l p
 by_cases hk : 1 ≤ k ∧ k ≤ 5
 ·have h87 := t87 k hk r t v l ek en es eas a b p ps hab
  have h88 := t88 k hk r t v l ek en es eas a b p ps
  have h89 := t89 k
  rw [encS_mk] at h87 h88
  refine PCall.intro c75 400 (by simp) 20 ?_
  have hk' : k = 1 ∨ k = 2 ∨ k = 3 ∨ k = 4 ∨ k = 5 := by omega
  rcases hk' with rfl | rfl | rfl | rfl | rfl
  all_goals
   simp (config := { decide := true }) only [uz, us, if_true, if_false, ↓reduceIte] at h89
   simp -implicitDefEqProofs only [s75, encS_mk, go_sem]
   repeat' (first | ((first | ((with_reducible first | refine cgR (t86 _ _ _) ?_ ?_ | refine cgR h87 ?_ ?_ | refine cgR h88 ?_ ?_ | refine cgR h89 ?_ ?_ | refine cgR h90 ?_ ?_ | refine cgR h91 ?_ ?_); (·simp [norefL, noref, nrb])) | ((with_reducible apply cgF); (·simp -implicitDefEqProofs only [List.map_cons, List.map_nil, push_cast, go_sem_proc] <;> rfl); (with_reducible first | exact (t86 _ _ _) | exact h87 | exact h88 | exact h89 | exact h90 | exact h91); (·rfl)) | (with_reducible refine F_q2 ?_)); simp -implicitDefEqProofs only [go_sem]) | (with_reducible refine Fork.mk ?_ ?_) | (with_reducible refine And.intro ?_ ?_) | ((with_reducible refine rpI ?_); simp -implicitDefEqProofs only [r75, push_cast, go_sem_proc]) | intro _)
  all_goals clear h87 h88 h89 h90 h91
  all_goals simp only [stF]
  all_goals (generalize isNone ek en es eas = Z at *; generalize exF _ _ = X at *; generalize (ps.any fun s => !isNm s) = B at *; generalize ps.length = q at *; generalize a.length = m at *; generalize b.length = n at *; generalize foF _ r t v l Z m n p q = f at *; generalize naF _ r t v l p = g at *)
  all_goals (first | (simp_all; done) | (simp_all; omega))
 ·have hk2 : k < 1 ∨ 5 < k := by omega
  clear hk h90 h91 hf hn
  refine PCall.intro c75 400 (by simp) 20 ?_
  simp -implicitDefEqProofs only [s75, encS_mk, go_sem]
  repeat' (first | ((first | ((with_reducible refine cgR (t86 _ _ _) ?_ ?_); (·simp [norefL, noref, nrb])) | ((with_reducible apply cgF); (·simp -implicitDefEqProofs only [List.map_cons, List.map_nil, push_cast, go_sem_proc] <;> rfl); (with_reducible exact (t86 _ _ _)); (·rfl)) | (with_reducible refine F_q2 ?_)); simp -implicitDefEqProofs only [go_sem]) | (with_reducible refine Fork.mk ?_ ?_) | (with_reducible refine And.intro ?_ ?_) | ((with_reducible refine rpI ?_); simp -implicitDefEqProofs only [r75, push_cast, go_sem_proc]) | intro _)
  all_goals first
   | (exfalso; rename_i hx; simp at hx; omega)
   | (simp only [stF]; simp_all; done)
   | (simp only [stF]; simp_all; omega)
mutual
def cnt : St → Nat
 | .mk _ _ _ _ _ _ a b _ _ => 1 + cnts a + cnts b
def cnts : List St → Nat
 | [] => 0
 | x :: l => cnt x + cnts l
end
theorem cnt_pos (x : St) : 1 ≤ cnt x := by rcases x with ⟨⟩; simp [cnt]; omega
theorem len_cnts : ∀ l : List St, l.length ≤ cnts l
 | [] => Nat.zero_le _
 | x :: l => by have := len_cnts l; have := cnt_pos x; simp [cnts]; omega
theorem cnts_append : ∀ a b : List St, cnts (a ++ b) = cnts a + cnts b
 | [], b => by simp [cnts]
 | x :: a, b => by simp [cnts, cnts_append a b]; omega
def stF' : St → Int → Int
 | .mk k r t v l (.mk ek en es eas) a b p ps, d => stF k r t v l (.mk ek en es eas) (isNone ek en es eas) a.length b.length p ps d
mutual
def sF : St → Int → Int
 | .mk k r t v l e a b p ps, d =>
  if stF' (.mk k r t v l e a b p ps) d ≠ 0 then stF' (.mk k r t v l e a b p ps) d else if sFs a (d + 1) ≠ 0 then sFs a (d + 1) else sFs b (d + 1)
def sFs : List St → Int → Int
 | [], _ => 0
 | x :: l, d => if sF x d ≠ 0 then sF x d else sFs l d
end
theorem sFs_append : ∀ (pre post : List St) (d : Int), (∀ y ∈ pre, sF y d = 0) → sFs (pre ++ post) d = sFs post d
 | [], post, d, _ => rfl
 | x :: pre, post, d, h => by
  rw [List.cons_append, sFs, h x (by simp)]
  simp only [ne_eq, not_true_eq_false, if_false]
  exact sFs_append pre post d (fun y hy => h y (by simp [hy]))
theorem stF_big {x : St} {d : Int} (h : 20 < d) : stF' x d = 2 := by
 rcases x with ⟨k, r, t, v, l, ⟨ek, en, es, eas⟩, a, b, p, ps⟩
 simp [stF', stF, h]
theorem t62s (xs : List St) (d : Int) (hd0 : 0 ≤ d) (hd : d ≤ 21) (hc : cnts xs ≤ 1000000)
  (h : ∀ k r t v l e a b p ps, St.mk k r t v l e a b p ps ∈ xs → ∀ d', 0 ≤ d' → d' ≤ 21 → PCall Tryz.prog 142 [.fs (a.map encS), .int .i64 d'] (·= .int .i64 (sFs a d')) ∧ PCall Tryz.prog 142 [.fs (b.map encS), .int .i64 d'] (·= .int .i64 (sFs b d'))) :
  PCall Tryz.prog 142 [.fs (xs.map encS), .int .i64 d] (·= .int .i64 (sFs xs d)) := by
 refine PCall.intro c62 300 (by simp) 20 ?_
 simp -implicitDefEqProofs only [s62, go_sem]
 intro hlen
 refine F_loop (fun m e H => ∃ pre post, xs = pre ++ post ∧ m = post.length ∧ (∀ y ∈ pre, sF y d = 0) ∧ e 1 = .int .i64 d ∧ e 10 = .fs (xs.map encS) ∧ e 11 = .int .i64 xs.length ∧ e 12 = .int .i64 pre.length) xs.length ⟨[], xs, by simp [upd, env0]⟩ ?_
 rintro m e H ⟨pre, post, hxs, rfl, hp, h1, h10, h11, h12⟩
 cases post with
 | nil =>
  simp -implicitDefEqProofs only [h1, h10, h11, h12, mid_not hxs, go_sem]
  simp -implicitDefEqProofs only [r62, push_cast, go_sem_proc]
  rw [hxs, sFs_append pre [] _ hp]; rfl
 | cons y post =>
  have hg := mid_get encS hxs
  have hE : sFs (pre ++ y :: post) d = if sF y d ≠ 0 then sF y d else sFs post d := by rw [sFs_append pre _ _ hp, sFs]
  have hcy : cnt y ≤ 1000000 := by rw [hxs, cnts_append] at hc; simp only [cnts] at hc; omega
  generalize hyR : sF y d = yr at *
  generalize hyS : stF' y d = ys
  have hbig : 20 < d → ys = 2 := fun hh => by rw [← hyS]; exact stF_big hh
  rcases y with ⟨k, r, t, v, l, ⟨ek, en, es, eas⟩, a, b, p, ps⟩
  have hab : a.length + b.length ≤ 1000000 := by
   have := len_cnts a; have := len_cnts b; simp only [cnt] at hcy; omega
  have h75 := t75 k r t v l ek en es eas a b p ps hab d
  rw [show stF k r t v l (.mk ek en es eas) (isNone ek en es eas) a.length b.length p ps d = ys from hyS] at h75
  rw [encS_mk] at hg h75
  have hsF : yr = if ys ≠ 0 then ys else if sFs a (d + 1) ≠ 0 then sFs a (d + 1) else sFs b (d + 1) := by rw [← hyR, sF, hyS]
  simp -implicitDefEqProofs only [h1, h10, h11, h12, hg, mid_lt hxs, mid_wrap hxs hlen, go_sem]
  repeat' (first | ((first | ((with_reducible refine cgR h75 ?_ ?_); (·simp [norefL, noref, nrb])) | ((with_reducible apply cgF); (·simp -implicitDefEqProofs only [List.map_cons, List.map_nil, push_cast, go_sem_proc] <;> rfl); (with_reducible exact h75); (·rfl)) | (with_reducible refine F_q2 ?_)); simp -implicitDefEqProofs only [h1, h10, h11, h12, hg, mid_lt hxs, mid_wrap hxs hlen, go_sem]) | (with_reducible refine Fork.mk ?_ ?_) | (with_reducible refine And.intro ?_ ?_) | ((with_reducible refine rpI ?_); simp -implicitDefEqProofs only [r62, push_cast, go_sem_proc]) | intro _)
  ·rename_i hy0
   have hy0 : ys ≠ 0 := by simpa using hy0
   rw [hxs, hE, hsF, if_pos hy0, if_pos hy0]
  ·rename_i hy0
   have hy0 : ys = 0 := by simpa using hy0
   have hd20 : d ≤ 20 := by
    refine Classical.byContradiction fun hh => ?_
    have := hbig (by omega)
    omega
   have hw := wrap_small (d := d) (by omega) (by omega)
   obtain ⟨ha, hb⟩ := h k r t v l (.mk ek en es eas) a b p ps (by rw [hxs]; simp) (d + 1) (by omega) (by omega)
   generalize sFs a (d + 1) = fa at *
   generalize sFs b (d + 1) = fb at *
   rw [hw]
   repeat' (first | ((first | ((with_reducible first | refine cgR ha ?_ ?_ | refine cgR hb ?_ ?_); (·simp [norefL, noref, nrb])) | ((with_reducible apply cgF); (·simp -implicitDefEqProofs only [List.map_cons, List.map_nil, push_cast, go_sem_proc] <;> rfl); (with_reducible first | exact ha | exact hb); (·rfl)) | (with_reducible refine F_q2 ?_)); simp -implicitDefEqProofs only [h1, h10, h11, h12, hg, mid_lt hxs, mid_wrap hxs hlen, hw, go_sem]) | (with_reducible refine Fork.mk ?_ ?_) | (with_reducible refine And.intro ?_ ?_) | ((with_reducible refine rpI ?_); simp -implicitDefEqProofs only [r62, push_cast, go_sem_proc]) | intro _)
   ·rename_i hf
    have hf : fa ≠ 0 := by simpa using hf
    rw [hxs, hE, hsF, hy0]; simp [hf]
   ·rename_i hf hg'
    have hf : fa = 0 := by simpa using hf
    have hg' : fb ≠ 0 := by simpa using hg'
    rw [hxs, hE, hsF, hy0, hf]; simp [hg']
   ·rename_i hf hg'
    have hf : fa = 0 := by simpa using hf
    have hg' : fb = 0 := by simpa using hg'
    exact ⟨_, Nat.lt_succ_self _, pre ++ [_], post, by simp [hxs]; rfl, rfl, fun z hz => by
     rcases List.mem_append.1 hz with hz | hz
     ·exact hp z hz
     ·simp at hz; subst hz; rw [hyR, hsF, hy0, hf, hg']; simp, by simp⟩
theorem t62 : ∀ (n : Nat) (xs : List St), SizeOf.sizeOf xs < n → cnts xs ≤ 1000000 → ∀ d : Int, 0 ≤ d → d ≤ 21 → PCall Tryz.prog 142 [.fs (xs.map encS), .int .i64 d] (·= .int .i64 (sFs xs d))
 | 0, xs, h, _, _, _, _ => absurd h (Nat.not_lt_zero _)
 | n + 1, xs, hn, hc, d, h1, h2 => t62s xs d h1 h2 hc (fun k r t v l e a b p ps hm d' h3 h4 => by
  have hs := List.sizeOf_lt_of_mem hm
  have hcm : cnt (.mk k r t v l e a b p ps) ≤ cnts xs := by
   obtain ⟨p1, p2, rfl⟩ := List.append_of_mem hm
   rw [cnts_append, cnts]; omega
  simp only [cnt] at hcm
  simp only [St.mk.sizeOf_spec] at hs
  exact ⟨t62 n a (by omega) (by omega) d' h3 h4, t62 n b (by omega) (by omega) d' h3 h4⟩)
theorem wrap_int {x : Int} (h1 : -1000000000 ≤ x) (h2 : x ≤ 1000000000) : IntKind.i64.wrap x = x := by
 simp [IntKind.wrap, IntKind.signed, IntKind.bits]; omega
theorem t49s (xs : List St) (hc : cnts xs ≤ 1000000)
  (h : ∀ k r t v l e a b p ps, St.mk k r t v l e a b p ps ∈ xs → PCall Tryz.prog 122 [.fs (a.map encS)] (·= .int .i64 (cnts a)) ∧ PCall Tryz.prog 122 [.fs (b.map encS)] (·= .int .i64 (cnts b))) :
  PCall Tryz.prog 122 [.fs (xs.map encS)] (·= .int .i64 (cnts xs)) := by
 refine PCall.intro c49 300 (by simp) 20 ?_
 simp -implicitDefEqProofs only [s49, go_sem]
 intro hlen _
 refine F_loop (fun m e H => ∃ pre post, xs = pre ++ post ∧ m = post.length ∧ e 3 = .int .i64 ((xs.length : Int) + cnts pre - pre.length) ∧ e 8 = .fs (xs.map encS) ∧ e 9 = .int .i64 xs.length ∧ e 10 = .int .i64 pre.length) xs.length ⟨[], xs, by simp [upd, env0, cnts]⟩ ?_
 rintro m e H ⟨pre, post, hxs, rfl, h3, h8, h9, h10⟩
 cases post with
 | nil =>
  simp -implicitDefEqProofs only [h3, h8, h9, h10, mid_not hxs, go_sem]
  simp -implicitDefEqProofs only [r49, push_cast, go_sem_proc]
  rw [hxs, cnts_append]; simp [cnts]; omega
 | cons y post =>
  have hg := mid_get encS hxs
  have hL := len_cnts xs
  have hsum : cnts xs = cnts pre + (cnt y + cnts post) := by rw [hxs, cnts_append, cnts]
  have hlp := len_cnts pre
  have hll : xs.length = pre.length + (post.length + 1) := by rw [hxs]; simp
  rcases y with ⟨k, r, t, v, l, ⟨ek, en, es, eas⟩, a, b, p, ps⟩
  simp only [cnt] at hsum
  obtain ⟨ha, hb⟩ := h k r t v l (.mk ek en es eas) a b p ps (by rw [hxs]; simp)
  rw [encS_mk] at hg
  have w1 := wrap_int (x := (cnts a : Int) + cnts b) (by omega) (by omega)
  have w2 := wrap_int (x := (xs.length : Int) + cnts pre - pre.length + ((cnts a : Int) + cnts b)) (by omega) (by omega)
  simp -implicitDefEqProofs only [h3, h8, h9, h10, hg, mid_lt hxs, mid_wrap hxs hlen, go_sem]
  repeat' (first | ((first | ((with_reducible first | refine cgR ha ?_ ?_ | refine cgR hb ?_ ?_); (·simp [norefL, noref, nrb])) | ((with_reducible apply cgF); (·simp -implicitDefEqProofs only [List.map_cons, List.map_nil, push_cast, go_sem_proc] <;> rfl); (with_reducible first | exact ha | exact hb); (·rfl)) | (with_reducible refine F_q2 ?_)); simp -implicitDefEqProofs only [h3, h8, h9, h10, hg, mid_lt hxs, mid_wrap hxs hlen, w1, w2, go_sem]) | (with_reducible refine Fork.mk ?_ ?_) | (with_reducible refine And.intro ?_ ?_) | ((with_reducible refine rpI ?_); simp -implicitDefEqProofs only [r49, push_cast, go_sem_proc]) | intro _)
  refine ⟨_, Nat.lt_succ_self _, pre ++ [_], post, by simp [hxs]; rfl, rfl, ?_, by simp⟩
  rw [cnts_append]; simp only [cnts, cnt, List.length_append, List.length_cons, List.length_nil]
  congr 1; omega
theorem t49 : ∀ (n : Nat) (xs : List St), SizeOf.sizeOf xs < n → cnts xs ≤ 1000000 → PCall Tryz.prog 122 [.fs (xs.map encS)] (·= .int .i64 (cnts xs))
 | 0, xs, h, _ => absurd h (Nat.not_lt_zero _)
 | n + 1, xs, hn, hc => t49s xs hc (fun k r t v l e a b p ps hm => by
  have hs := List.sizeOf_lt_of_mem hm
  have hcm : cnt (.mk k r t v l e a b p ps) ≤ cnts xs := by
   obtain ⟨p1, p2, rfl⟩ := List.append_of_mem hm
   rw [cnts_append, cnts]; omega
  simp only [cnt] at hcm
  simp only [St.mk.sizeOf_spec] at hs
  exact ⟨t49 n a (by omega) (by omega), t49 n b (by omega) (by omega)⟩)
def cntP : List Pr → Nat
 | [] => 0
 | x :: l => cnts x.steps + cntP l
theorem cntP_append : ∀ a b : List Pr, cntP (a ++ b) = cntP a + cntP b
 | [], b => by simp [cntP]
 | x :: a, b => by simp [cntP, cntP_append a b]; omega
def total (p : Pla) : Nat := cnts p.main + cntP p.procs
theorem t19 (P : Pla) (hc : total P ≤ 1000000) : PCall Tryz.prog 44 [encPl P] (·= .int .i64 (total P)) := by
 rcases P with ⟨xs, main⟩
 simp only [total] at hc
 have hm := t49 _ main (Nat.lt_succ_self _) (by omega)
 refine PCall.intro c19 300 (by simp) 20 ?_
 simp -implicitDefEqProofs only [s19, encPl, go_sem]
 repeat' (first | ((first | ((with_reducible refine cgR hm ?_ ?_); (·simp [norefL, noref, nrb])) | ((with_reducible apply cgF); (·simp -implicitDefEqProofs only [List.map_cons, List.map_nil, push_cast, go_sem_proc] <;> rfl); (with_reducible exact hm); (·rfl)) | (with_reducible refine F_q2 ?_)); simp -implicitDefEqProofs only [go_sem]) | (with_reducible refine Fork.mk ?_ ?_) | (with_reducible refine And.intro ?_ ?_) | ((with_reducible refine rpI ?_); simp -implicitDefEqProofs only [r19, push_cast, go_sem_proc]) | intro _)
 rename_i hlen
 refine F_loop (fun m e H => ∃ pre post, xs = pre ++ post ∧ m = post.length ∧ e 3 = .int .i64 ((cnts main : Int) + cntP pre) ∧ e 10 = .fs (xs.map encP) ∧ e 11 = .int .i64 xs.length ∧ e 12 = .int .i64 pre.length) xs.length ⟨[], xs, by simp [upd, env0, cntP]⟩ ?_
 rintro m e H ⟨pre, post, hxs, rfl, h3, h8, h9, h10⟩
 cases post with
 | nil =>
  simp -implicitDefEqProofs only [h3, h8, h9, h10, mid_not hxs, go_sem]
  simp -implicitDefEqProofs only [r19, push_cast, go_sem_proc]
  simp only [total]
  rw [hxs, cntP_append]; simp [cntP]
 | cons y post =>
  have hg := mid_get encP hxs
  have hsum : cntP xs = cntP pre + (cnts y.steps + cntP post) := by rw [hxs, cntP_append, cntP]
  rcases y with ⟨nm, rs, st⟩
  simp only [encP] at hg hsum
  have ha := t49 _ st (Nat.lt_succ_self _) (by omega)
  have w2 := wrap_int (x := (cnts main : Int) + cntP pre + (cnts st : Int)) (by omega) (by omega)
  simp -implicitDefEqProofs only [h3, h8, h9, h10, hg, mid_lt hxs, mid_wrap hxs hlen, go_sem]
  repeat' (first | ((first | ((with_reducible refine cgR ha ?_ ?_); (·simp [norefL, noref, nrb])) | ((with_reducible apply cgF); (·simp -implicitDefEqProofs only [List.map_cons, List.map_nil, push_cast, go_sem_proc] <;> rfl); (with_reducible exact ha); (·rfl)) | (with_reducible refine F_q2 ?_)); simp -implicitDefEqProofs only [h3, h8, h9, h10, hg, mid_lt hxs, mid_wrap hxs hlen, w2, go_sem]) | (with_reducible refine Fork.mk ?_ ?_) | (with_reducible refine And.intro ?_ ?_) | ((with_reducible refine rpI ?_); simp -implicitDefEqProofs only [r19, push_cast, go_sem_proc]) | intro _)
  refine ⟨_, Nat.lt_succ_self _, pre ++ [_], post, by simp [hxs]; rfl, rfl, ?_, by simp⟩
  rw [cntP_append]; simp only [cntP]
  congr 1; omega
def roF : List ByteArray → List ByteArray → Int
 | _, [] => 0
 | seen, x :: l => if isNm x = false then 5 else if (seen.any fun y => decide (x = y)) then 6 else roF (seen ++ [x]) l
def pF (pre : List Pr) (q : Pr) : Int :=
 if isNm q.name = false then 5 else if (pre.any fun z => decide (z.name = q.name)) then 6 else if q.roles.length = 0 then 8 else if q.roles.length > 12 then 2
 else if roF [] q.roles ≠ 0 then roF [] q.roles else sFs q.steps 1
theorem mid_take {α : Type} {xs pre post : List α} {y : α} (f : α → V) (h : xs = pre ++ y :: post) : (xs.map f).take pre.length = pre.map f := by
 subst h; rw [← List.map_take]; simp
theorem headOk_map {α : Type} (f : α → V) (n : Nat) (h : ∀ x, (cellsV (f x)).length = n) (l : List α) : headOk n (l.map f) := by
 intro e he
 cases l with
 | nil => simp at he
 | cons x l => simp at he; subst he; exact h x
theorem headOk_P (l : List Pr) : headOk 3 (l.map encP) := headOk_map _ _ (fun x => by simp [encP, cellsV]) l
theorem headOk_str (l : List ByteArray) : headOk 1 (l.map V.str) := headOk_map _ _ (fun x => by simp [cellsV]) l
set_option maxRecDepth 20000 in
theorem t61 (xs pre post : List Pr) (q : Pr) (hxs : xs = pre ++ q :: post) (hc : cnts q.steps ≤ 1000000) : PCall Tryz.prog 141 [.fs (xs.map encP), .int .i64 pre.length] (·= .int .i64 (pF pre q)) := by
 have hg := mid_get encP hxs
 have ht := mid_take encP hxs
 have h73 := t73 pre 189 [] [.rptr [.str q.name, .fs (q.roles.map .str), .fs (q.steps.map encS)]] (fun z => decide (z.name = q.name)) rfl (by simp [norefL, noref, norefL_str, norefL_encS]) (fun z _ => t74 z q)
 have h62 := t62 _ q.steps (Nat.lt_succ_self _) hc 1 (by omega) (by omega)
 have hl : (pre.length : Int) ≤ xs.length := by rw [hxs]; simp; omega
 have hlt := mid_lt hxs
 refine PCall.intro c61 300 (by simp) 20 ?_
 simp only [encP] at hg
 simp -implicitDefEqProofs only [s61, hg, hlt, ht, headOk_P, hl, Int.le_refl, Int.natCast_nonneg, go_sem]
 repeat' (first | ((first | ((with_reducible first | refine cgR (t72 _) ?_ ?_ | refine cgR h73 ?_ ?_); (·simp [norefL, noref, nrb])) | ((with_reducible apply cgF); (·simp -implicitDefEqProofs only [List.map_cons, List.map_nil, push_cast, go_sem_proc] <;> rfl); (with_reducible first | exact (t72 _) | exact h73); (·rfl)) | (with_reducible refine F_q2 ?_)); simp -implicitDefEqProofs only [hg, hlt, ht, headOk_P, hl, Int.le_refl, Int.natCast_nonneg, go_sem]) | (with_reducible refine Fork.mk ?_ ?_) | (with_reducible refine And.intro ?_ ?_) | ((with_reducible refine rpI ?_); simp -implicitDefEqProofs only [r61, push_cast, go_sem_proc]) | intro _)
 case refine_2.refine_2.hk.refine_2.refine_2.refine_2 =>
  have hR : pF pre q = if roF [] q.roles ≠ 0 then roF [] q.roles else sFs q.steps 1 := by
   clear h73 h62 hg ht hlt
   simp only [pF]
   generalize q.roles.length = n at *
   generalize roF [] q.roles = R
   generalize (pre.any fun z => decide (z.name = q.name)) = B at *
   generalize isNm q.name = N at *
   simp_all
   intro h
   exfalso; omega
  have hlen : q.roles.length ≤ 9223372036854775807 := by assumption
  refine F_loop (fun m e H => ∃ p2 q2, q.roles = p2 ++ q2 ∧ m = q2.length ∧ roF [] q.roles = roF p2 q2 ∧ H = [Blk.row [.agg [.str q.name, .fs (q.roles.map .str), .fs (q.steps.map encS)]]] ∧ e 5 = .ptr 0 0 0 ∧ e 34 = .fs (q.roles.map .str) ∧ e 35 = .int .i64 q.roles.length ∧ e 36 = .int .i64 p2.length) q.roles.length ⟨[], q.roles, by simp [upd, env0]⟩ ?_
  rintro m e H ⟨p2, q2, hq, rfl, hro, rfl, h5, h34, h35, h36⟩
  cases q2 with
  | nil =>
   simp -implicitDefEqProofs only [h5, h34, h35, h36, mid_not hq, go_sem]
   repeat' (first | ((first | ((with_reducible refine cgR h62 ?_ ?_); (·simp [norefL, noref, nrb])) | ((with_reducible apply cgF); (·simp -implicitDefEqProofs only [List.map_cons, List.map_nil, push_cast, go_sem_proc] <;> rfl); (with_reducible exact h62); (·rfl)) | (with_reducible refine F_q2 ?_)); simp -implicitDefEqProofs only [h5, h34, h35, h36, mid_not hq, go_sem]) | (with_reducible refine Fork.mk ?_ ?_) | (with_reducible refine And.intro ?_ ?_) | ((with_reducible refine rpI ?_); simp -implicitDefEqProofs only [r61, push_cast, go_sem_proc]) | intro _)
   rw [hR, hro]; simp [roF]
  | cons y q2 =>
   have hg2 := mid_get V.str hq
   have ht2 := mid_take V.str hq
   have hl2 : (p2.length : Int) ≤ q.roles.length := by rw [hq]; simp; omega
   simp -implicitDefEqProofs only [h5, h34, h35, h36, hg2, mid_lt hq, mid_wrap hq hlen, headOk_str, hl2, ht2, Int.le_refl, Int.natCast_nonneg, go_sem]
   repeat' (first | ((first | ((with_reducible first | refine cgR (t72 y) ?_ ?_ | refine cgR (t29 p2 y) ?_ ?_); (·simp [norefL, noref, nrb])) | ((with_reducible apply cgF); (·simp -implicitDefEqProofs only [List.map_cons, List.map_nil, push_cast, go_sem_proc] <;> rfl); (with_reducible first | exact (t72 y) | exact (t29 p2 y)); (·rfl)) | (with_reducible refine F_q2 ?_)); simp -implicitDefEqProofs only [h5, h34, h35, h36, hg2, mid_lt hq, mid_wrap hq hlen, headOk_str, hl2, ht2, Int.le_refl, Int.natCast_nonneg, go_sem]) | (with_reducible refine Fork.mk ?_ ?_) | (with_reducible refine And.intro ?_ ?_) | ((with_reducible refine rpI ?_); simp -implicitDefEqProofs only [r61, push_cast, go_sem_proc]) | intro _)
   ·rename_i hy
    have hy : isNm y = false := by simpa using hy
    rw [hR, hro]; simp [roF, hy]
   ·rename_i hy hm
    have hy : isNm y = true := by simpa using hy
    rw [hR, hro]; simp only [roF, hy, hm]; simp
   ·rename_i hy hm
    have hy : isNm y = true := by simpa using hy
    refine ⟨_, Nat.lt_succ_self _, p2 ++ [y], q2, by simp [hq], rfl, ?_, by simp⟩
    rw [hro]; simp only [roF, hy, hm]; simp
 all_goals clear h73 h62 hg ht hlt
 all_goals simp only [pF]
 all_goals (generalize q.roles.length = n at *; generalize roF [] q.roles = R; generalize (pre.any fun z => decide (z.name = q.name)) = B at *; generalize isNm q.name = N at *)
 all_goals (first | (simp_all; done) | (simp_all; omega) | (simp_all; intro h; omega))
def psF : List Pr → List Pr → Int
 | _, [] => 0
 | pre, q :: post => if pF pre q ≠ 0 then pF pre q else psF (pre ++ [q]) post
def cpF (P : Pla) : Int :=
 if P.procs.length > 50 then 2 else if psF [] P.procs ≠ 0 then psF [] P.procs else if sFs P.main 1 ≠ 0 then sFs P.main 1 else if total P > 2000 then 2 else 0
theorem cnts_le_cntP {q : Pr} {l : List Pr} (h : q ∈ l) : cnts q.steps ≤ cntP l := by
 obtain ⟨a, b, rfl⟩ := List.append_of_mem h
 rw [cntP_append, cntP]; omega
theorem t32 (P : Pla) (hc : total P ≤ 1000000) : PCall Tryz.prog 70 [encPl P] (·= .int .i64 (cpF P)) := by
 have h19 := t19 P hc
 rcases P with ⟨xs, main⟩
 simp only [total] at hc
 have h62 := t62 _ main (Nat.lt_succ_self _) (by omega) 1 (by omega) (by omega)
 simp only [encPl] at h19
 refine PCall.intro c32 300 (by simp) 20 ?_
 simp -implicitDefEqProofs only [s32, encPl, go_sem]
 repeat' (first | ((with_reducible refine F_q2 ?_); simp -implicitDefEqProofs only [go_sem]) | (with_reducible refine Fork.mk ?_ ?_) | (with_reducible refine And.intro ?_ ?_) | ((with_reducible refine rpI ?_); simp -implicitDefEqProofs only [r32, push_cast, go_sem_proc]) | intro _)
 ·rename_i h50
  have h50 : xs.length > 50 := by simp at h50; omega
  simp only [cpF, if_pos h50]
 ·rename_i hlen h50 _
  have h50 : ¬ xs.length > 50 := by simp at h50; omega
  refine F_loop (fun m e H => ∃ pre post, xs = pre ++ post ∧ m = post.length ∧ psF [] xs = psF pre post ∧ H = [Blk.row [.agg [.fs (xs.map encP), .fs (main.map encS)]]] ∧ e 1 = .ptr 0 0 0 ∧ e 12 = .int .i64 xs.length ∧ e 13 = .int .i64 pre.length) xs.length ⟨[], xs, by simp [upd, env0]⟩ ?_
  rintro m e H ⟨pre, post, hxs, rfl, hps, rfl, h1, h12, h13⟩
  cases post with
  | nil =>
   simp -implicitDefEqProofs only [h1, h12, h13, mid_not hxs, go_sem]
   repeat' (first | ((first | ((with_reducible first | refine cgR h62 ?_ ?_ | refine cgR h19 ?_ ?_); (·simp [norefL, noref, nrb])) | ((with_reducible apply cgF); (·simp -implicitDefEqProofs only [List.map_cons, List.map_nil, push_cast, go_sem_proc] <;> rfl); (with_reducible first | exact h62 | exact h19); (·rfl)) | (with_reducible refine F_q2 ?_)); simp -implicitDefEqProofs only [h1, h12, h13, mid_not hxs, go_sem]) | (with_reducible refine Fork.mk ?_ ?_) | (with_reducible refine And.intro ?_ ?_) | ((with_reducible refine rpI ?_); simp -implicitDefEqProofs only [r32, push_cast, go_sem_proc]) | intro _)
   all_goals (simp only [cpF, if_neg h50, hps, psF])
   all_goals (generalize total _ = T at *; generalize sFs main 1 = S at *)
   all_goals clear h62 h19
   ·rename_i hS
    have hS : S ≠ 0 := by simpa using hS
    simp [hS]
   ·rename_i hT hS
    have hS : S = 0 := by simpa using hS
    have hT : T > 2000 := by simp at hT; omega
    simp [hS, hT]
   ·rename_i hT hS
    have hS : S = 0 := by simpa using hS
    have hT : ¬ T > 2000 := by simp at hT; omega
    simp [hS, hT]
  | cons q post =>
   have h61 := t61 xs pre post q hxs (by have := cnts_le_cntP (q := q) (l := xs) (by rw [hxs]; simp); omega)
   simp -implicitDefEqProofs only [h1, h12, h13, mid_lt hxs, mid_wrap hxs hlen, go_sem]
   repeat' (first | ((first | ((with_reducible refine cgR h61 ?_ ?_); (·simp [norefL, noref, nrb])) | ((with_reducible apply cgF); (·simp -implicitDefEqProofs only [List.map_cons, List.map_nil, push_cast, go_sem_proc] <;> rfl); (with_reducible exact h61); (·rfl)) | (with_reducible refine F_q2 ?_)); simp -implicitDefEqProofs only [h1, h12, h13, mid_lt hxs, mid_wrap hxs hlen, go_sem]) | (with_reducible refine Fork.mk ?_ ?_) | (with_reducible refine And.intro ?_ ?_) | ((with_reducible refine rpI ?_); simp -implicitDefEqProofs only [r32, push_cast, go_sem_proc]) | intro _)
   ·rename_i hq
    have hq : pF pre q ≠ 0 := by simpa using hq
    simp only [cpF, if_neg h50, hps, psF, if_pos hq]
   ·rename_i hq
    have hq : pF pre q = 0 := by simpa using hq
    refine ⟨_, Nat.lt_succ_self _, pre ++ [q], post, by simp [hxs], rfl, ?_, by simp⟩
    rw [hps, psF, hq]; simp
def rolesS (k : Int) (r t : ByteArray) (ps : List ByteArray) : List ByteArray := if k = 5 then ps else if k = 1 ∨ k = 2 then [r, t] else [r]
theorem t63 (k : Int) (r t v l : ByteArray) (ek en : Int) (es : ByteArray) (eas : List Ex) (a b : List St) (p : ByteArray) (ps : List ByteArray) :
  PCall Tryz.prog 125 [encS (.mk k r t v l (.mk ek en es eas) a b p ps)] (·= .fs ((rolesS k r t ps).map .str)) := by
 refine PCall.intro c63 300 (by simp) 20 ?_
 simp -implicitDefEqProofs only [s63, encS_mk, go_sem]
 repeat' (first | ((with_reducible refine F_q2 ?_); simp -implicitDefEqProofs only [go_sem]) | (with_reducible refine Fork.mk ?_ ?_) | (with_reducible refine And.intro ?_ ?_) | ((with_reducible refine rpI ?_); simp -implicitDefEqProofs only [r63, push_cast, go_sem_proc]) | intro _)
 all_goals (simp_all [rolesS])
theorem t27 (k : Int) (r t v l : ByteArray) (ek en : Int) (es : ByteArray) (eas : List Ex) (a b : List St) (p : ByteArray) (ps : List ByteArray) :
  PCall Tryz.prog 49 [encS (.mk k r t v l (.mk ek en es eas) a b p ps)] (·= .fs ((rolesS k r t ps).map .str)) := by
 refine PCall.intro c27 300 (by simp) 20 ?_
 simp -implicitDefEqProofs only [s27, encS_mk, go_sem]
 repeat' (first | ((with_reducible refine F_q2 ?_); simp -implicitDefEqProofs only [go_sem]) | (with_reducible refine Fork.mk ?_ ?_) | (with_reducible refine And.intro ?_ ?_) | ((with_reducible refine rpI ?_); simp -implicitDefEqProofs only [r27, push_cast, go_sem_proc]) | intro _)
 all_goals (simp_all [rolesS])
def procI (xs : List Pr) (nm : ByteArray) : Int := ixF (fun z => decide (z.name = nm)) xs 0
theorem t30 (P : Pla) (nm : ByteArray) : PCall Tryz.prog 52 [encPl P, .str nm] (·= .int .i64 (procI P.procs nm)) := by
 have h59 := t59 P.procs 130 [] [.rptr [.str nm]] (fun z => decide (z.name = nm)) rfl rfl (fun z _ => t60 z nm)
 refine PCall.intro c30 300 (by simp) 20 ?_
 simp -implicitDefEqProofs only [s30, encPl, go_sem]
 repeat' (first | ((first | ((with_reducible refine cgR h59 ?_ ?_); (·simp [norefL, noref, nrb])) | ((with_reducible apply cgF); (·simp -implicitDefEqProofs only [List.map_cons, List.map_nil, push_cast, go_sem_proc] <;> rfl); (with_reducible exact h59); (·rfl)) | (with_reducible refine F_q2 ?_)); simp -implicitDefEqProofs only [go_sem]) | (with_reducible refine Fork.mk ?_ ?_) | (with_reducible refine And.intro ?_ ?_) | ((with_reducible refine rpI ?_); simp -implicitDefEqProofs only [r30, push_cast, go_sem_proc]) | intro _)
 all_goals (try rfl)
theorem t65 (P : Pla) (nm : ByteArray) : PCall Tryz.prog 192 [encPl P, .str nm] (·= .int .i64 (procI P.procs nm)) := by
 have h59 := t59 P.procs 249 [] [.rptr [.str nm]] (fun z => decide (z.name = nm)) rfl rfl (fun z _ => t76 z nm)
 refine PCall.intro c65 300 (by simp) 20 ?_
 simp -implicitDefEqProofs only [s65, encPl, go_sem]
 repeat' (first | ((first | ((with_reducible refine cgR h59 ?_ ?_); (·simp [norefL, noref, nrb])) | ((with_reducible apply cgF); (·simp -implicitDefEqProofs only [List.map_cons, List.map_nil, push_cast, go_sem_proc] <;> rfl); (with_reducible exact h59); (·rfl)) | (with_reducible refine F_q2 ?_)); simp -implicitDefEqProofs only [go_sem]) | (with_reducible refine Fork.mk ?_ ?_) | (with_reducible refine And.intro ?_ ?_) | ((with_reducible refine rpI ?_); simp -implicitDefEqProofs only [r65, push_cast, go_sem_proc]) | intro _)
 all_goals (try rfl)
theorem t64 (pre post : List Pr) (q : Pr) (main : List St) (nm : ByteArray) :
  PCall Tryz.prog 191 [.str nm, .rptr [.fs ((pre ++ q :: post).map encP), .fs (main.map encS)], .rptr [.int .i64 pre.length]] (·= .bool (!q.roles.any fun y => decide (nm = y))) := by
 have hg := mid_get encP (rfl : pre ++ q :: post = pre ++ q :: post)
 have hlt := mid_lt (rfl : pre ++ q :: post = pre ++ q :: post)
 simp only [encP] at hg
 have h29 := t29 q.roles nm
 refine PCall.intro c64 300 (by simp) 20 ?_
 generalize hL : pre ++ q :: post = L at *
 simp -implicitDefEqProofs only [s64, hg, hlt, go_sem]
 repeat' (first | ((first | ((with_reducible refine cgR h29 ?_ ?_); (·simp [norefL, noref, nrb])) | ((with_reducible apply cgF); (·simp -implicitDefEqProofs only [List.map_cons, List.map_nil, push_cast, go_sem_proc] <;> rfl); (with_reducible exact h29); (·rfl)) | (with_reducible refine F_q2 ?_)); simp -implicitDefEqProofs only [hg, hlt, go_sem]) | (with_reducible refine Fork.mk ?_ ?_) | (with_reducible refine And.intro ?_ ?_) | ((with_reducible refine rpI ?_); simp -implicitDefEqProofs only [r64, push_cast, go_sem_proc]) | intro _)
 all_goals (try rfl)
theorem ixF_zip {α : Type} (p : α → Bool) : ∀ (xs : List α) (i : Int), 0 ≤ i → (ixF p xs i = -1 ∧ xs.find? p = none) ∨ ∃ pre q post, xs = pre ++ q :: post ∧ ixF p xs i = i + (pre.length : Int) ∧ xs.find? p = some q
  | [], i, _ => .inl ⟨rfl, rfl⟩
  | x :: l, i, hi => by
    by_cases hp : p x = true
    · exact .inr ⟨[], x, l, rfl, by simp [ixF, hp], by simp [hp]⟩
    · rcases ixF_zip p l (i + 1) (by omega) with ⟨h1, h2⟩ | ⟨pre, q, post, h1, h2, h3⟩
      · exact .inl ⟨by simp [ixF, hp, h1], by rw [List.find?_cons_of_neg hp, h2]⟩
      · refine .inr ⟨x :: pre, q, post, by simp [h1], ?_, by rw [List.find?_cons_of_neg hp, h3]⟩
        simp only [ixF, hp, h2, List.length_cons, Bool.false_eq_true, if_false]; omega
theorem neg1 : (0 ≤ (-1 : Int)) = False := by simp
theorem lt1 : ((-1 : Int) < 0) = True := by simp
def dupF : List ByteArray → List ByteArray → Bool
  | _, [] => false
  | seen, x :: l => (seen.any fun y => decide (x = y)) || dupF (seen ++ [x]) l
def cF (P : Pla) (rs : Option (List ByteArray)) (k : Int) (r t p : ByteArray) (ps : List ByteArray) : Int :=
  if (match rs with | none => false | some rs => (rolesS k r t ps).any fun z => !rs.any fun y => decide (z = y)) then 5
  else if nE t = true ∧ r = t then 6 else if k ≠ 5 then 0
  else match P.procs.find? (fun z => decide (z.name = p)) with
    | none => 8
    | some q => if q.roles.length ≠ ps.length then 3 else if dupF [] ps then 6 else 0
theorem t34n (P : Pla) (k : Int) (r t v l : ByteArray) (ek en : Int) (es : ByteArray) (eas : List Ex) (a b : List St) (p : ByteArray) (ps : List ByteArray) :
    PCall Tryz.prog 144 [encPl P, .int .i64 (-1), encS (.mk k r t v l (.mk ek en es eas) a b p ps)] (· = .int .i64 (cF P none k r t p ps)) := by
  have h65 := t65 P p
  rcases P with ⟨xs, main⟩
  simp only [encPl] at h65
  rcases ixF_zip (fun z : Pr => decide (z.name = p)) xs 0 (by omega) with ⟨hI, hF⟩ | ⟨pre, q, post, hxs, hI, hQ⟩
  · rw [procI, hI] at h65
    refine PCall.intro c34 400 (by simp) 20 ?_
    simp -implicitDefEqProofs only [s34, encS_mk, encPl, neg1, lt1, go_sem]
    repeat' (first | ((first | ((with_reducible refine cgR h65 ?_ ?_); (· simp [norefL, noref, nrb])) | ((with_reducible apply cgF); (· simp -implicitDefEqProofs only [List.map_cons, List.map_nil, push_cast, go_sem_proc] <;> rfl); (with_reducible exact h65); (· rfl)) | (with_reducible refine F_q2 ?_)); simp -implicitDefEqProofs only [neg1, lt1, go_sem]) | (with_reducible refine Fork.mk ?_ ?_) | (with_reducible refine And.intro ?_ ?_) | ((with_reducible refine rpI ?_); simp -implicitDefEqProofs only [r34, push_cast, go_sem_proc]) | intro _)
    all_goals (clear h65; simp only [cF, hF]; simp_all [nE])
  · rw [procI, hI] at h65
    have hg := mid_get encP hxs
    have hlt := mid_lt hxs
    simp only [encP] at hg
    have hneg : ¬ ((pre.length : Int) < 0) := by omega
    rw [Int.zero_add] at h65
    refine PCall.intro c34 400 (by simp) 20 ?_
    simp -implicitDefEqProofs only [s34, encS_mk, encPl, hg, hlt, hneg, neg1, lt1, go_sem]
    repeat' (first | ((first | ((with_reducible refine cgR h65 ?_ ?_); (· simp [norefL, noref, nrb])) | ((with_reducible apply cgF); (· simp -implicitDefEqProofs only [List.map_cons, List.map_nil, push_cast, go_sem_proc] <;> rfl); (with_reducible exact h65); (· rfl)) | (with_reducible refine F_q2 ?_)); simp -implicitDefEqProofs only [hg, hlt, hneg, neg1, lt1, go_sem]) | (with_reducible refine Fork.mk ?_ ?_) | (with_reducible refine And.intro ?_ ?_) | ((with_reducible refine rpI ?_); simp -implicitDefEqProofs only [r34, push_cast, go_sem_proc]) | intro _)
    all_goals clear h65
    all_goals first
      | ((with_reducible show F _ _ _)
         have hlen : ps.length ≤ 9223372036854775807 := by assumption
         have hR : cF { procs := xs, main := main } none k r t p ps = if dupF [] ps then 6 else 0 := by
           clear hg hlt
           simp only [cF, hQ]
           generalize dupF [] ps = D at *
           generalize ps.length = n at *
           generalize q.roles.length = m at *
           simp_all [nE] <;> omega
         refine F_loop (fun m e H => ∃ p2 q2, ps = p2 ++ q2 ∧ m = q2.length ∧ dupF [] ps = dupF p2 q2 ∧ (∃ X Y, H = [X, Y, Blk.row [.agg [.int .i64 k, .str r, .str t, .str v, .str l, .int .i64 ek, .int .i64 en, .str es, .fs (eas.map encE), .fs (a.map encS), .fs (b.map encS), .str p, .fs (ps.map .str)]]]) ∧ e 5 = .ptr 2 0 0 ∧ e 49 = .fs (ps.map .str) ∧ e 50 = .int .i64 ps.length ∧ e 51 = .int .i64 p2.length) ps.length ⟨[], ps, by simp [upd, env0]⟩ ?_
         rintro m e H ⟨p2, q2, hq, rfl, hd, ⟨X, Y, rfl⟩, h5, h34, h35, h36⟩
         cases q2 with
         | nil =>
           simp -implicitDefEqProofs only [h5, h34, h35, h36, mid_not hq, go_sem]
           simp -implicitDefEqProofs only [r34, push_cast, go_sem_proc]
           rw [hR, hd]; simp [dupF]
         | cons y q2 =>
           have hg2 := mid_get V.str hq
           have ht2 := mid_take V.str hq
           have hl2 : (p2.length : Int) ≤ ps.length := by rw [hq]; simp; omega
           simp -implicitDefEqProofs only [h5, h34, h35, h36, hg2, mid_lt hq, mid_wrap hq hlen, headOk_str, hl2, ht2, Int.le_refl, Int.natCast_nonneg, go_sem]
           repeat' (first | ((first | ((with_reducible refine cgR (t29 p2 y) ?_ ?_); (· simp [norefL, noref, nrb])) | ((with_reducible apply cgF); (· simp -implicitDefEqProofs only [List.map_cons, List.map_nil, push_cast, go_sem_proc] <;> rfl); (with_reducible exact (t29 p2 y)); (· rfl)) | (with_reducible refine F_q2 ?_)); simp -implicitDefEqProofs only [h5, h34, h35, h36, hg2, mid_lt hq, mid_wrap hq hlen, headOk_str, hl2, ht2, Int.le_refl, Int.natCast_nonneg, go_sem]) | (with_reducible refine Fork.mk ?_ ?_) | (with_reducible refine And.intro ?_ ?_) | ((with_reducible refine rpI ?_); simp -implicitDefEqProofs only [r34, push_cast, go_sem_proc]) | intro _)
           · rename_i hm
             rw [hR, hd]; simp only [dupF, hm]; simp
           · rename_i hm
             refine ⟨_, Nat.lt_succ_self _, p2 ++ [y], q2, by simp [hq], rfl, ?_, by simp⟩
             rw [hd]; simp only [dupF, hm]; simp)
      | (clear hg hlt; simp only [cF, hQ]; generalize dupF [] ps = D at *; generalize ps.length = n at *; generalize q.roles.length = m at *; simp_all [nE]; done)
      | (clear hg hlt; simp only [cF, hQ]; generalize dupF [] ps = D at *; generalize ps.length = n at *; generalize q.roles.length = m at *; simp_all [nE]; omega)
theorem t34p (P : Pla) (pa pb : List Pr) (qa : Pr) (hA : P.procs = pa ++ qa :: pb) (k : Int) (r t v l : ByteArray) (ek en : Int) (es : ByteArray) (eas : List Ex) (a b : List St) (p : ByteArray) (ps : List ByteArray) :
    PCall Tryz.prog 144 [encPl P, .int .i64 pa.length, encS (.mk k r t v l (.mk ek en es eas) a b p ps)] (· = .int .i64 (cF P (some qa.roles) k r t p ps)) := by
  have h65 := t65 P p
  rcases P with ⟨xs, main⟩
  simp only at hA
  have h63 := t63 k r t v l ek en es eas a b p ps
  rw [encS_mk] at h63
  have h64 : ∀ z ∈ rolesS k r t ps, PCall Tryz.prog 191 ([] ++ [V.str z] ++ [.rptr [.fs (xs.map encP), .fs (main.map encS)], .rptr [.int .i64 pa.length]]) (· = .bool (!qa.roles.any fun y => decide (z = y))) := by
    intro z _; rw [hA]; exact t64 pa pb qa main z
  have h26 := t26 (rolesS k r t ps) 191 [] [.rptr [.fs (xs.map encP), .fs (main.map encS)], .rptr [.int .i64 pa.length]] (fun z => !qa.roles.any fun y => decide (z = y)) rfl (by simp [norefL, noref, norefL_encP, norefL_encS]) h64
  clear h64
  generalize hB : (rolesS k r t ps).any (fun z => !qa.roles.any fun y => decide (z = y)) = Bad at h26
  have hge : (0 ≤ (pa.length : Int)) = True := by simp
  simp only [encPl] at h65
  rcases ixF_zip (fun z : Pr => decide (z.name = p)) xs 0 (by omega) with ⟨hI, hF⟩ | ⟨pre, q, post, hxs, hI, hQ⟩
  · rw [procI, hI] at h65
    refine PCall.intro c34 400 (by simp) 20 ?_
    simp -implicitDefEqProofs only [s34, encS_mk, encPl, neg1, lt1, hge, go_sem]
    repeat' (first | ((first | ((with_reducible first | refine cgR h65 ?_ ?_ | refine cgR h63 ?_ ?_ | refine cgR h26 ?_ ?_); (· simp [norefL, noref, nrb])) | ((with_reducible apply cgF); (· simp -implicitDefEqProofs only [List.map_cons, List.map_nil, push_cast, go_sem_proc] <;> rfl); (with_reducible first | exact h65 | exact h63 | exact h26); (· rfl)) | (with_reducible refine F_q2 ?_)); simp -implicitDefEqProofs only [neg1, lt1, hge, go_sem]) | (with_reducible refine Fork.mk ?_ ?_) | (with_reducible refine And.intro ?_ ?_) | ((with_reducible refine rpI ?_); simp -implicitDefEqProofs only [r34, push_cast, go_sem_proc]) | intro _)
    all_goals (clear h65 h63 h26; simp only [cF, hF, hB]; simp_all [nE])
  · rw [procI, hI] at h65
    have hg := mid_get encP hxs
    have hlt := mid_lt hxs
    simp only [encP] at hg
    have hneg : ¬ ((pre.length : Int) < 0) := by omega
    rw [Int.zero_add] at h65
    refine PCall.intro c34 400 (by simp) 20 ?_
    simp -implicitDefEqProofs only [s34, encS_mk, encPl, hg, hlt, hneg, neg1, lt1, hge, go_sem]
    repeat' (first | ((first | ((with_reducible first | refine cgR h65 ?_ ?_ | refine cgR h63 ?_ ?_ | refine cgR h26 ?_ ?_); (· simp [norefL, noref, nrb])) | ((with_reducible apply cgF); (· simp -implicitDefEqProofs only [List.map_cons, List.map_nil, push_cast, go_sem_proc] <;> rfl); (with_reducible first | exact h65 | exact h63 | exact h26); (· rfl)) | (with_reducible refine F_q2 ?_)); simp -implicitDefEqProofs only [hg, hlt, hneg, neg1, lt1, hge, go_sem]) | (with_reducible refine Fork.mk ?_ ?_) | (with_reducible refine And.intro ?_ ?_) | ((with_reducible refine rpI ?_); simp -implicitDefEqProofs only [r34, push_cast, go_sem_proc]) | intro _)
    all_goals clear h65 h63 h26
    all_goals first
      | ((with_reducible show F _ _ _)
         have hlen : ps.length ≤ 9223372036854775807 := by assumption
         have hR : cF { procs := xs, main := main } (some qa.roles) k r t p ps = if dupF [] ps then 6 else 0 := by
           clear hg hlt
           simp only [cF, hQ, hB]
           generalize dupF [] ps = D at *
           generalize ps.length = n at *
           generalize q.roles.length = m at *
           simp_all [nE] <;> omega
         refine F_loop (fun m e H => ∃ p2 q2, ps = p2 ++ q2 ∧ m = q2.length ∧ dupF [] ps = dupF p2 q2 ∧ (∃ X Y, H = [X, Y, Blk.row [.agg [.int .i64 k, .str r, .str t, .str v, .str l, .int .i64 ek, .int .i64 en, .str es, .fs (eas.map encE), .fs (a.map encS), .fs (b.map encS), .str p, .fs (ps.map .str)]]]) ∧ e 5 = .ptr 2 0 0 ∧ e 49 = .fs (ps.map .str) ∧ e 50 = .int .i64 ps.length ∧ e 51 = .int .i64 p2.length) ps.length ⟨[], ps, by simp [upd, env0]⟩ ?_
         rintro m e H ⟨p2, q2, hq, rfl, hd, ⟨X, Y, rfl⟩, h5, h34, h35, h36⟩
         cases q2 with
         | nil =>
           simp -implicitDefEqProofs only [h5, h34, h35, h36, mid_not hq, go_sem]
           simp -implicitDefEqProofs only [r34, push_cast, go_sem_proc]
           rw [hR, hd]; simp [dupF]
         | cons y q2 =>
           have hg2 := mid_get V.str hq
           have ht2 := mid_take V.str hq
           have hl2 : (p2.length : Int) ≤ ps.length := by rw [hq]; simp; omega
           simp -implicitDefEqProofs only [h5, h34, h35, h36, hg2, mid_lt hq, mid_wrap hq hlen, headOk_str, hl2, ht2, Int.le_refl, Int.natCast_nonneg, go_sem]
           repeat' (first | ((first | ((with_reducible refine cgR (t29 p2 y) ?_ ?_); (· simp [norefL, noref, nrb])) | ((with_reducible apply cgF); (· simp -implicitDefEqProofs only [List.map_cons, List.map_nil, push_cast, go_sem_proc] <;> rfl); (with_reducible exact (t29 p2 y)); (· rfl)) | (with_reducible refine F_q2 ?_)); simp -implicitDefEqProofs only [h5, h34, h35, h36, hg2, mid_lt hq, mid_wrap hq hlen, headOk_str, hl2, ht2, Int.le_refl, Int.natCast_nonneg, go_sem]) | (with_reducible refine Fork.mk ?_ ?_) | (with_reducible refine And.intro ?_ ?_) | ((with_reducible refine rpI ?_); simp -implicitDefEqProofs only [r34, push_cast, go_sem_proc]) | intro _)
           · rename_i hm
             rw [hR, hd]; simp only [dupF, hm]; simp
           · rename_i hm
             refine ⟨_, Nat.lt_succ_self _, p2 ++ [y], q2, by simp [hq], rfl, ?_, by simp⟩
             rw [hd]; simp only [dupF, hm]; simp)
      | (clear hg hlt; simp only [cF, hQ, hB]; generalize dupF [] ps = D at *; generalize ps.length = n at *; generalize q.roles.length = m at *; simp_all [nE]; done)
      | (clear hg hlt; simp only [cF, hQ, hB]; generalize dupF [] ps = D at *; generalize ps.length = n at *; generalize q.roles.length = m at *; simp_all [nE]; omega)
theorem t28 (pre post : List Pr) (q : Pr) (main : List St) (nm : ByteArray) (c0 c1 c2 c3 c4 c5 c6 c7 c8 c9 c10 c11 c12 : V) (z : Bool) :
  PCall Tryz.prog 50 [.str nm, .rptr [.fs ((pre ++ q :: post).map encP), .fs (main.map encS)], .rptr [c0, c1, c2, c3, c4, c5, c6, c7, c8, c9, c10, c11, c12, .int .i64 pre.length, .bool z]] (·= .bool (!q.roles.any fun y => decide (nm = y))) := by
 have hg := mid_get encP (rfl : pre ++ q :: post = pre ++ q :: post)
 have hlt := mid_lt (rfl : pre ++ q :: post = pre ++ q :: post)
 simp only [encP] at hg
 have h29 := t29 q.roles nm
 refine PCall.intro c28 300 (by simp) 20 ?_
 generalize hL : pre ++ q :: post = L at *
 simp -implicitDefEqProofs only [s28, hg, hlt, go_sem]
 repeat' (first | ((first | ((with_reducible refine cgR h29 ?_ ?_); (·simp [norefL, noref, nrb])) | ((with_reducible apply cgF); (·simp -implicitDefEqProofs only [List.map_cons, List.map_nil, push_cast, go_sem_proc] <;> rfl); (with_reducible exact h29); (·rfl)) | (with_reducible refine F_q2 ?_)); simp -implicitDefEqProofs only [hg, hlt, go_sem]) | (with_reducible refine Fork.mk ?_ ?_) | (with_reducible refine And.intro ?_ ?_) | ((with_reducible refine rpI ?_); simp -implicitDefEqProofs only [r28, push_cast, go_sem_proc]) | intro _)
 all_goals (try rfl)
theorem t78 (xs : List Int) (k : Int) : PCall Tryz.prog 236 [.fs (xs.map (V.int .i64)), .rptr [.int .i64 k]] (·= .bool (xs.any fun y => decide (k = y))) := by
 refine PCall.intro c78 300 (by simp) 20 ?_
 simp -implicitDefEqProofs only [s78, go_sem]
 repeat' (first | ((first | ((with_reducible refine cgR (t79 xs k) ?_ ?_); (·simp [norefL, noref, nrb])) | ((with_reducible apply cgF); (·simp -implicitDefEqProofs only [List.map_cons, List.map_nil, push_cast, go_sem_proc] <;> rfl); (with_reducible exact (t79 xs k)); (·rfl)) | (with_reducible refine F_q2 ?_)); simp -implicitDefEqProofs only [go_sem]) | (with_reducible refine Fork.mk ?_ ?_) | (with_reducible refine And.intro ?_ ?_) | ((with_reducible refine rpI ?_); simp -implicitDefEqProofs only [r78, push_cast, go_sem_proc]) | intro _)
 all_goals (try rfl)
theorem t82 (ps : List ByteArray) : PCall Tryz.prog 240 [.fs (ps.map .str)] (·= .int .i64 (if ps.any (fun s => !isNm s) then 5 else 0)) := by
 have h26 := t26 ps 271 [] [] (fun s => !isNm s) rfl rfl (fun x _ => t94 x)
 refine PCall.intro c82 300 (by simp) 20 ?_
 simp -implicitDefEqProofs only [s82, go_sem]
 repeat' (first | ((first | ((with_reducible refine cgR h26 ?_ ?_); (·simp [norefL, noref, nrb])) | ((with_reducible apply cgF); (·simp -implicitDefEqProofs only [List.map_cons, List.map_nil, push_cast, go_sem_proc] <;> rfl); (with_reducible exact h26); (·rfl)) | (with_reducible refine F_q2 ?_)); simp -implicitDefEqProofs only [go_sem]) | (with_reducible refine Fork.mk ?_ ?_) | (with_reducible refine And.intro ?_ ?_) | ((with_reducible refine rpI ?_); simp -implicitDefEqProofs only [r82, push_cast, go_sem_proc]) | intro _)
 all_goals clear h26
 all_goals (generalize (ps.any fun s => !isNm s) = B at *)
 all_goals (try simp_all)
theorem t80f {H : List Blk} {a b : Nat} {ok : Bool} {s : ByteArray} (hb : H[b]? = some (.row [.bool ok])) :
  ACall Tryz.prog 238 [.bool false, .str s, .ptr a 0 0, .ptr b 0 0] H (ret1 (.tup []) (H.set b (.row [.bool (ok && decide (s = ⟨#[]⟩))]))) := by
 refine ACall.intro c80 100 (by simp) ?_
 cases ok
 ·simp -implicitDefEqProofs only [s80, hb, go_sem]
  simp -implicitDefEqProofs only [r80, push_cast, go_sem_proc]
  try simp
 ·simp -implicitDefEqProofs only [s80, hb, go_sem]
  simp -implicitDefEqProofs only [r80, push_cast, go_sem_proc]
  try simp
theorem t80n {H : List Blk} {a b : Nat} {s : ByteArray} (ha : H[a]? = some (.row [.nils])) :
  ACall Tryz.prog 238 [.bool true, .str s, .ptr a 0 0, .ptr b 0 0] H (ret1 (.tup []) ((H ++ [Blk.row [.str s]]).set a (.row [.ms H.length 0 1]))) := by
 have hl : a < H.length := (List.getElem?_eq_some_iff.1 ha).1
 refine ACall.intro c80 100 (by simp) ?_
 have ha1 : ∀ l : List Blk, (H ++ l)[a]? = some (.row [.nils]) := fun l => by rw [List.getElem?_append_left hl]; exact ha
 simp -implicitDefEqProofs only [s80, ha, ha1, go_sem]
 refine ⟨fun h => absurd h (by simp), fun _ => ⟨by omega, ?_⟩⟩
 simp -implicitDefEqProofs only [r80, push_cast, go_sem_proc]
theorem t80m {H : List Blk} {a b id : Nat} {ns : List V} {s : ByteArray} (ha : H[a]? = some (.row [.ms id 0 ns.length])) (hid : H[id]? = some (.row ns)) (hne : id ≠ a) (hn : ns ≠ []) (h12 : ns.length ≤ 1000) (hh : headOk 1 ns) :
  ACall Tryz.prog 238 [.bool true, .str s, .ptr a 0 0, .ptr b 0 0] H (ret1 (.tup []) ((H.set id .dead ++ [Blk.row (ns ++ [.str s])]).set a (.row [.ms H.length 0 (ns.length + 1)]))) := by
 have hl : a < H.length := (List.getElem?_eq_some_iff.1 ha).1
 have hl2 : id < H.length := (List.getElem?_eq_some_iff.1 hid).1
 have hid1 : ∀ l : List Blk, (H ++ l)[id]? = some (.row ns) := fun l => by rw [List.getElem?_append_left hl2]; exact hid
 have hs : ∀ (l : List Blk) x, (H ++ l).set id x = H.set id x ++ l := fun l x => List.set_append_left _ _ hl2
 have ha2 : ∀ l : List Blk, (H.set id .dead ++ l)[a]? = some (.row [.ms id 0 ns.length]) := fun l => by
  rw [List.getElem?_append_left (by simpa using hl), List.getElem?_set_ne hne]; exact ha
 have hnm : (ns ≠ []) = True := by simp [hn]
 refine ACall.intro c80 100 (by simp) ?_
 simp -implicitDefEqProofs only [s80, ha, hid, hid1, hs, ha2, hh, hnm, go_sem]
 refine ⟨⟨by intros; contradiction, by omega⟩, ?_⟩
 ·simp -implicitDefEqProofs only [r80, push_cast, go_sem_proc]
theorem headOk1 {s : ByteArray} {l : List V} : headOk 1 (V.str s :: l) := by intro e he; simp at he; subst he; rfl
set_option maxRecDepth 20000 in
theorem t70k1 (r t v l : ByteArray) (ek en : Int) (es : ByteArray) (eas : List Ex) (a b : List St) (p : ByteArray) (ps : List ByteArray) (d : Int) :
  PCall Tryz.prog 181 [encS (.mk 1 r t v l (.mk ek en es eas) a b p ps), .int .i64 d] (·= .int .i64 (stF 1 r t v l (.mk ek en es eas) (isNone ek en es eas) a.length b.length p ps d)) := by
 have qA : PCall Tryz.prog 236 [.fs [.int .i64 1, .int .i64 2, .int .i64 3, .int .i64 4], .rptr [.int .i64 1]] (·= .bool true) := t78 [1, 2, 3, 4] 1
 have qB : PCall Tryz.prog 236 [.fs [.int .i64 1, .int .i64 2], .rptr [.int .i64 1]] (·= .bool true) := t78 [1, 2] 1
 have qC : PCall Tryz.prog 236 [.fs [.int .i64 1, .int .i64 3], .rptr [.int .i64 1]] (·= .bool true) := t78 [1, 3] 1
 have qD : PCall Tryz.prog 236 [.fs [.int .i64 2], .rptr [.int .i64 1]] (·= .bool false) := t78 [2] 1
 have qE : PCall Tryz.prog 236 [.fs [.int .i64 5], .rptr [.int .i64 1]] (·= .bool false) := t78 [5] 1
 have qG : PCall Tryz.prog 236 [.fs [.int .i64 1, .int .i64 3, .int .i64 4], .rptr [.int .i64 1]] (·= .bool true) := t78 [1, 3, 4] 1
 have q31 : PCall Tryz.prog 158 [.int .i64 1, .int .i64 1, .int .i64 5] (·= .bool true) := t31 1 1 5
 have h81 : PCall Tryz.prog 239 [encE (.mk ek en es eas)] (·= .bool (isNone ek en es eas)) := t81 ek en es eas
 have h83 := t83 (.mk ek en es eas)
 have h82 := t82 ps
 have h82n := t82 [r, t, v]
 simp only [List.map_cons, List.map_nil] at h82n
 rw [encE_mk] at h81 h83
 refine PCall.intro c70 700 (by simp) 20 ?_
 simp -implicitDefEqProofs only [s70, encS_mk, go_sem]
 repeat' (first | ((first | (with_reducible first | refine cgA (t80f (by with_unfolding_all rfl)) ?_ | refine cgA (t80n (by with_unfolding_all rfl)) ?_ | refine cgA (t80m (ns := [.str r]) (by with_unfolding_all rfl) (by with_unfolding_all rfl) (by simp) (by simp) (by simp) headOk1) ?_ | refine cgA (t80m (ns := [.str r, .str t]) (by with_unfolding_all rfl) (by with_unfolding_all rfl) (by simp) (by simp) (by simp) headOk1) ?_) | ((with_reducible first | refine cgR q31 ?_ ?_ | refine cgR qA ?_ ?_ | refine cgR qB ?_ ?_ | refine cgR qC ?_ ?_ | refine cgR qD ?_ ?_ | refine cgR qE ?_ ?_ | refine cgR qG ?_ ?_ | refine cgR h81 ?_ ?_ | refine cgR h83 ?_ ?_ | refine cgR h82n ?_ ?_ | refine cgR h82 ?_ ?_); (·simp [norefL, noref, nrb])) | ((with_reducible apply cgF); (·simp -implicitDefEqProofs only [List.map_cons, List.map_nil, push_cast, go_sem_proc] <;> rfl); (with_reducible first | exact q31 | exact qA | exact qB | exact qC | exact qD | exact qE | exact qG | exact h81 | exact h83 | exact h82n | exact h82); (·rfl)) | (with_reducible refine F_q2 ?_)); simp -implicitDefEqProofs only [Bool.and_true, Bool.true_and, Bool.false_and, Bool.and_false, headOk1, go_sem]) | (with_reducible refine Fork.mk ?_ ?_) | (with_reducible refine And.intro ?_ ?_) | ((with_reducible refine rpI ?_); simp -implicitDefEqProofs only [r70, push_cast, go_sem_proc]) | intro _)
 all_goals clear qA qB qC qD qE qG q31 h81 h83 h82 h82n
 all_goals (generalize isNone ek en es eas = Z at *)
 all_goals simp only [stF, foF, naF]
 all_goals (generalize exF _ _ = X at *; generalize (ps.any fun s => !isNm s) = B at *; generalize ps.length = q at *; generalize a.length = m at *; generalize b.length = n at *)
 all_goals (first | (simp_all [nE]; done) | (simp_all [nE]; omega))
set_option maxRecDepth 20000 in
theorem t70k2 (r t v l : ByteArray) (ek en : Int) (es : ByteArray) (eas : List Ex) (a b : List St) (p : ByteArray) (ps : List ByteArray) (d : Int) :
  PCall Tryz.prog 181 [encS (.mk 2 r t v l (.mk ek en es eas) a b p ps), .int .i64 d] (·= .int .i64 (stF 2 r t v l (.mk ek en es eas) (isNone ek en es eas) a.length b.length p ps d)) := by
 have qA : PCall Tryz.prog 236 [.fs [.int .i64 1, .int .i64 2, .int .i64 3, .int .i64 4], .rptr [.int .i64 2]] (·= .bool true) := t78 [1, 2, 3, 4] 2
 have qB : PCall Tryz.prog 236 [.fs [.int .i64 1, .int .i64 2], .rptr [.int .i64 2]] (·= .bool true) := t78 [1, 2] 2
 have qC : PCall Tryz.prog 236 [.fs [.int .i64 1, .int .i64 3], .rptr [.int .i64 2]] (·= .bool false) := t78 [1, 3] 2
 have qD : PCall Tryz.prog 236 [.fs [.int .i64 2], .rptr [.int .i64 2]] (·= .bool true) := t78 [2] 2
 have qE : PCall Tryz.prog 236 [.fs [.int .i64 5], .rptr [.int .i64 2]] (·= .bool false) := t78 [5] 2
 have qG : PCall Tryz.prog 236 [.fs [.int .i64 1, .int .i64 3, .int .i64 4], .rptr [.int .i64 2]] (·= .bool false) := t78 [1, 3, 4] 2
 have q31 : PCall Tryz.prog 158 [.int .i64 2, .int .i64 1, .int .i64 5] (·= .bool true) := t31 2 1 5
 have h81 : PCall Tryz.prog 239 [encE (.mk ek en es eas)] (·= .bool (isNone ek en es eas)) := t81 ek en es eas
 have h83 := t83 (.mk ek en es eas)
 have h82 := t82 ps
 have h82n := t82 [r, t, l]
 simp only [List.map_cons, List.map_nil] at h82n
 rw [encE_mk] at h81 h83
 refine PCall.intro c70 700 (by simp) 20 ?_
 simp -implicitDefEqProofs only [s70, encS_mk, go_sem]
 repeat' (first | ((first | (with_reducible first | refine cgA (t80f (by with_unfolding_all rfl)) ?_ | refine cgA (t80n (by with_unfolding_all rfl)) ?_ | refine cgA (t80m (ns := [.str r]) (by with_unfolding_all rfl) (by with_unfolding_all rfl) (by simp) (by simp) (by simp) headOk1) ?_ | refine cgA (t80m (ns := [.str r, .str t]) (by with_unfolding_all rfl) (by with_unfolding_all rfl) (by simp) (by simp) (by simp) headOk1) ?_) | ((with_reducible first | refine cgR q31 ?_ ?_ | refine cgR qA ?_ ?_ | refine cgR qB ?_ ?_ | refine cgR qC ?_ ?_ | refine cgR qD ?_ ?_ | refine cgR qE ?_ ?_ | refine cgR qG ?_ ?_ | refine cgR h81 ?_ ?_ | refine cgR h83 ?_ ?_ | refine cgR h82n ?_ ?_ | refine cgR h82 ?_ ?_); (·simp [norefL, noref, nrb])) | ((with_reducible apply cgF); (·simp -implicitDefEqProofs only [List.map_cons, List.map_nil, push_cast, go_sem_proc] <;> rfl); (with_reducible first | exact q31 | exact qA | exact qB | exact qC | exact qD | exact qE | exact qG | exact h81 | exact h83 | exact h82n | exact h82); (·rfl)) | (with_reducible refine F_q2 ?_)); simp -implicitDefEqProofs only [Bool.and_true, Bool.true_and, Bool.false_and, Bool.and_false, headOk1, go_sem]) | (with_reducible refine Fork.mk ?_ ?_) | (with_reducible refine And.intro ?_ ?_) | ((with_reducible refine rpI ?_); simp -implicitDefEqProofs only [r70, push_cast, go_sem_proc]) | intro _)
 all_goals clear qA qB qC qD qE qG q31 h81 h83 h82 h82n
 all_goals (generalize isNone ek en es eas = Z at *)
 all_goals simp only [stF, foF, naF]
 all_goals (generalize exF _ _ = X at *; generalize (ps.any fun s => !isNm s) = B at *; generalize ps.length = q at *; generalize a.length = m at *; generalize b.length = n at *)
 all_goals (first | (simp_all [nE]; done) | (simp_all [nE]; omega))
end Go.Proofs.YtdgoeblpcnjlbaaGreatDoor.Av
