/-
  How terms are measured: plain laws; no condition beyond those that each theorem names.
-/
import Derived.Test.YtifefbhllfdmlaaGreatDoorTeP41
import Derived.Test.YtifefbhllfdmlaaGreatDoorSoP43
import Derived.Test.YtifefbhllfdmlaaGreatDoorVoP44
import Derived.Test.YtifefbhllfdmlaaGreatDoorVoP45
set_option maxRecDepth 100000
set_option linter.unusedSimpArgs false
set_option linter.unusedVariables false
set_option maxHeartbeats 4000000
namespace Go.Proofs.YtifefbhllfdmlaaGreatDoor
open Go Go.Vo
open Nat (reduceAdd reduceSub reduceMul reduceLeDiff reduceLT reduceEqDiff)
open Int (reduceNeg)

def jK : Str := [73, 110, 116]
def jS : Str := [66, 111, 111, 108]
def vK : Str := [84, 101, 120, 116]
def idS : Str := [73, 100]
def bBk (s : Str) : List Str := if s = [97, 100, 100] then [jK, jK] else if s = [115, 117, 98] then [jK, jK] else if s = [109, 117, 108] then [jK, jK] else if s = [100, 105, 118] then [jK, jK] else if s = [109, 111, 100] then [jK, jK] else if s = [108, 116] then [jK, jK] else if s = [108, 101] then [jK, jK] else if s = [103, 116] then [jK, jK] else if s = [103, 101] then [jK, jK] else if s = [110, 101, 103] then [jK] else if s = [116, 101, 120, 116] then [jK] else if s = [101, 113] then [mM, mM] else if s = [110, 101] then [mM, mM] else if s = [97, 110, 100] then [jS, jS] else if s = [111, 114] then [jS, jS] else if s = [110, 111, 116] then [jS] else if s = [112, 105, 99, 107] then [jS, mM, mM] else if s = [99, 97, 116] then [vK, vK] else if s = [108, 101, 110, 103, 116, 104] then [qP] else if s = [106, 111, 105, 110] then [qP, qP] else if s = [103, 101, 116] then [zC, mM] else if s = [104, 97, 115] then [zC, mM] else if s = [100, 101, 108] then [zC, mM] else if s = [112, 117, 116] then [zC, mM, mM] else if s = [107, 101, 121, 115] then [zC] else if s = [115, 105, 122, 101] then [zC] else if s = [105, 115] then [mM, vK] else [mM]
def W8 (s : Str) : Str := if s = [97, 100, 100] then jK else if s = [115, 117, 98] then jK else if s = [109, 117, 108] then jK else if s = [100, 105, 118] then jK else if s = [109, 111, 100] then jK else if s = [110, 101, 103] then jK else if s = [108, 101, 110, 103, 116, 104] then jK else if s = [115, 105, 122, 101] then jK else if s = [99, 97, 116] then vK else if s = [116, 101, 120, 116] then vK else if s = [106, 111, 105, 110] then qP else if s = [107, 101, 121, 115] then qP else if s = [112, 117, 116] then zC else if s = [100, 101, 108] then zC else if s = [112, 105, 99, 107] then mM else if s = [103, 101, 116] then mM else jS
def T8 (s : Str) : List Str × Str := if s = [97, 100, 100] then ([jK, jK], jK) else if s = [115, 117, 98] then ([jK, jK], jK) else if s = [109, 117, 108] then ([jK, jK], jK) else if s = [100, 105, 118] then ([jK, jK], jK) else if s = [109, 111, 100] then ([jK, jK], jK) else if s = [110, 101, 103] then ([jK], jK) else if s = [108, 116] then ([jK, jK], jS) else if s = [108, 101] then ([jK, jK], jS) else if s = [103, 116] then ([jK, jK], jS) else if s = [103, 101] then ([jK, jK], jS) else if s = [101, 113] then ([mM, mM], jS) else if s = [110, 101] then ([mM, mM], jS) else if s = [97, 110, 100] then ([jS, jS], jS) else if s = [111, 114] then ([jS, jS], jS) else if s = [110, 111, 116] then ([jS], jS) else if s = [112, 105, 99, 107] then ([jS, mM, mM], mM) else if s = [99, 97, 116] then ([vK, vK], vK) else if s = [108, 101, 110, 103, 116, 104] then ([qP], jK) else if s = [116, 101, 120, 116] then ([jK], vK) else if s = [106, 111, 105, 110] then ([qP, qP], qP) else if s = [103, 101, 116] then ([zC, mM], mM) else if s = [112, 117, 116] then ([zC, mM, mM], zC) else if s = [104, 97, 115] then ([zC, mM], jS) else if s = [100, 101, 108] then ([zC, mM], zC) else if s = [107, 101, 121, 115] then ([zC], qP) else if s = [115, 105, 122, 101] then ([zC], jK) else if s = [105, 115] then ([mM, vK], jS) else ([mM], jS)
def strs : List AV → List Str
 | .s x :: l => x :: strs l
 | _ => []
theorem N4 {H : List AObj} {i : Nat} {fz t : Bool} {l : List Str} (h1 : H[i]? = some (.arr fz 1 (l.map .s))) : avs l = gJ dep H (.hs i 0 l.length t) := by
 simp only [jC, pers, E7, h1, aP, if_false, dB, Nat.mul_one, kK, bG, if_true, dJ]
 rw [aS (by simp)]
 simp only [iN, if_true, avs]
theorem aCw {H : List AObj} {i n : Nat} {cells : List AV} {fz t : Bool} {l : List Str} (h1 : H[i]? = some (.arr fz 1 cells)) (hl : l = strs cells) (hc : (strs cells).map .s = cells) (hn : n = (strs cells).length) : Fin H (.hs i 0 n t) (avs l) := by
 rw [← hl] at hc hn
 rw [← hc] at h1
 subst hn
 exact .inr ⟨N4 h1, by simp [bK, avs], by simp [bK, avs]⟩
theorem R9 {H : List AObj} {i n : Nat} {cells : List AV} {fz t : Bool} {l : List Str} {r r' : Str} (h1 : H[i]? = some (.arr fz 1 cells)) (hl : (l, r') = (strs cells, r)) (hc : (strs cells).map .s = cells) (hn : n = (strs cells).length) : Fin H (.tup [.hs i 0 n t, .s r]) (.tup [avs l, .s r']) := by
 injection hl with hl hr
 rw [← hl] at hc hn
 rw [← hc] at h1
 subst hn hr
 exact .inr ⟨⟨N4 h1, rfl, trivial⟩, by simp [bK, finIdsL, avs], by simp [bK, finIdsL, avs]⟩
theorem bHr (s : Str): CT 253 [.s s] (avs (bBk s)) := by
 refine aF mixed Tryz.func253 g0 ?_
 · skip
   (refine zs0 ?_; repeat' first | exact trivial | refine zJ ?_ ?_ | refine zH fun hc => ?_)
   all_goals first
     | (subst hc; exact aCw rfl (by decide +kernel) rfl rfl)
     | (simp only [bBk, *, if_false]; exact aCw rfl rfl rfl rfl)
theorem bHq (s : Str): CT 254 [.s s] (.s (W8 s)) := by
 refine aF mixed Tryz.func254 g0 ?_
 · skip
   (refine zs0 ?_; repeat' first | exact trivial | refine zJ ?_ ?_ | refine zH fun hc => ?_)
   all_goals first
     | (subst hc; exact aE (congrArg AV.s (by decide +kernel)) rfl)
     | (simp only [W8, *, if_false]; exact aE rfl rfl)
theorem bHv (s : Str): CT 255 [.s s] (.tup [avs (T8 s).1, .s (T8 s).2]) := by
 refine aF mixed Tryz.func255 g0 ?_
 · skip
   (refine zs0 ?_; repeat' first | exact trivial | refine zJ ?_ ?_ | refine zH fun hc => ?_)
   all_goals first
     | (subst hc; exact R9 rfl (by decide +kernel) rfl rfl)
     | (simp only [T8, *, if_false]; exact R9 rfl rfl rfl rfl)
def yI (x : Str) : Option LOp := if hX.contains x then some ⟨x, bBk x, W8 x, [], 0, 0, []⟩ else none
theorem qI {H : List AObj} {o o' : LOp} {a b a' b' : Bool} (h : (o', a', b') = (o, a, b)) : Fin H (.tup [.agg [.s o.name, .sl (o.args.map .s) o.args.length, .s o.sort, .sl (o.pieces.flatMap bU) o.pieces.length, .i .i64 o.prec, .i .i64 o.assoc, .sl (o.strict.map (.i .i64)) o.strict.length], .b a, .b b]) (.tup [.agg [.s o'.name, .sl (o'.args.map .s) o'.args.length, .s o'.sort, .sl (o'.pieces.flatMap bU) o'.pieces.length, .i .i64 o'.prec, .i .i64 o'.assoc, .sl (o'.strict.map (.i .i64)) o'.strict.length], .b a', .b b']) := by
 injection h with h1 h2; injection h2 with h2 h3
 subst h1 h2 h3
 exact aE rfl (by simp only [pers, persL, iN, iD, fP, dQ])
theorem aLk {H : List AObj} {x r : Str} {l : List Str} : Fin H (.tup [.agg [.s x, .sl (l.map .s) l.length, .s r, .e0, .i .i64 0, .i .i64 0, .e0], .b true]) (.tup [elO ⟨x, l, r, [], 0, 0, []⟩, .b true]) :=
 .inr ⟨⟨⟨rfl, by show _ = gJ dep H _; simp only [jC, pers, iN, if_true]; rfl, rfl, rfl, rfl, rfl, rfl, trivial⟩, rfl, trivial⟩, by simp [elO, bA, bK, finIdsL, avs, avb, avi], by simp [elO, bA, bK, finIdsL, avs, avb, avi]⟩
theorem bHw (x : Str): CT 226 [.s x] (oX (yI x)) := by
 refine aF mixed Tryz.func226 g0 ?_
 · skip
   (refine zt3 (bAl x) (bHr x) (bHq x) ?_; repeat' first | exact trivial | refine zJ ?_ ?_ | refine zH fun hc => ?_)
   · rw [yI, if_neg (by rw [hc]; simp)]
     exact R7
   · rw [yI, if_pos hc]
     exact aLk
def kQ (s : bX) (x : Str) : LOp × Bool × Bool := match G1 s x with
 | some o => (o, false, true)
 | none => match xS s x with
   | some o => (o, true, true)
   | none => match yI x with
     | some o => (o, true, true)
     | none => (default, true, false)
theorem aMe (s : bX) (x : Str): CT 185 [cB s, .s x] (.tup [elO (kQ s x).1, .b (kQ s x).2.1, .b (kQ s x).2.2]) := by
 refine aF mixed Tryz.func185 g0 ?_
 · skip
   have c1 := bFo s x
   have c2 := bNp s x
   have c3 := bHw x
   cases h1 : G1 s x with
   | some o =>
     rw [h1] at c1
     (repeat' (first | refine gT ?_ ?_ | refine gF ?_ ?_ | refine gC ?_ ?_ | ((refine aX (c1) ?_ ?_; (focus (simp -implicitDefEqProofs (disch := omega) only [oX, zdB, go_sem, simprocAttr]; done))); simp -implicitDefEqProofs (disch := omega) only [oX, go_sem, simprocAttr]) | refine aZ (by omega) ?_ | (intro hr; have hc := hr; (try simp only [zdz] at hc); simp -implicitDefEqProofs (disch := omega) only [hr, oX, go_sem, simprocAttr]; (try clear hr))))
     exact qI (by simp only [kQ, h1])
   | none =>
   rw [h1] at c1
   cases h2 : xS s x with
   | some o =>
     rw [h2] at c2
     (repeat' (first | refine gT ?_ ?_ | refine gF ?_ ?_ | refine gC ?_ ?_ | ((first | (refine aX (c1) ?_ ?_; (focus (simp -implicitDefEqProofs (disch := omega) only [oX, zdB, go_sem, simprocAttr]; done))) | (refine aX (c2) ?_ ?_; (focus (simp -implicitDefEqProofs (disch := omega) only [oX, zdB, go_sem, simprocAttr]; done)))); simp -implicitDefEqProofs (disch := omega) only [oX, go_sem, simprocAttr]) | refine aZ (by omega) ?_ | (intro hr; have hc := hr; (try simp only [zdz] at hc); simp -implicitDefEqProofs (disch := omega) only [hr, oX, go_sem, simprocAttr]; (try clear hr))))
     exact qI (by simp only [kQ, h1, h2])
   | none =>
   rw [h2] at c2
   cases h3 : yI x with
   | some o =>
     rw [h3] at c3
     (repeat' (first | refine gT ?_ ?_ | refine gF ?_ ?_ | refine gC ?_ ?_ | ((first | (refine aX (c1) ?_ ?_; (focus (simp -implicitDefEqProofs (disch := omega) only [oX, zdB, go_sem, simprocAttr]; done))) | (refine aX (c2) ?_ ?_; (focus (simp -implicitDefEqProofs (disch := omega) only [oX, zdB, go_sem, simprocAttr]; done))) | (refine aX (c3) ?_ ?_; (focus (simp -implicitDefEqProofs (disch := omega) only [oX, zdB, go_sem, simprocAttr]; done)))); simp -implicitDefEqProofs (disch := omega) only [oX, go_sem, simprocAttr]) | refine aZ (by omega) ?_ | (intro hr; have hc := hr; (try simp only [zdz] at hc); simp -implicitDefEqProofs (disch := omega) only [hr, oX, go_sem, simprocAttr]; (try clear hr))))
     exact qI (by simp only [kQ, h1, h2, h3])
   | none =>
     rw [h3] at c3
     (repeat' (first | refine gT ?_ ?_ | refine gF ?_ ?_ | refine gC ?_ ?_ | ((first | (refine aX (c1) ?_ ?_; (focus (simp -implicitDefEqProofs (disch := omega) only [oX, zdB, go_sem, simprocAttr]; done))) | (refine aX (c2) ?_ ?_; (focus (simp -implicitDefEqProofs (disch := omega) only [oX, zdB, go_sem, simprocAttr]; done))) | (refine aX (c3) ?_ ?_; (focus (simp -implicitDefEqProofs (disch := omega) only [oX, zdB, go_sem, simprocAttr]; done)))); simp -implicitDefEqProofs (disch := omega) only [oX, go_sem, simprocAttr]) | refine aZ (by omega) ?_ | (intro hr; have hc := hr; (try simp only [zdz] at hc); simp -implicitDefEqProofs (disch := omega) only [hr, oX, go_sem, simprocAttr]; (try clear hr))))
     exact qI (by simp only [kQ, h1, h2, h3])
def pG (s : bX) (t : LTerm) : Str := if t.kind = 1 then jK else if t.kind = 2 then jS else if t.kind = 3 then vK else if t.kind = 4 then idS else if t.kind = 7 then qP else if t.kind = 8 then zC else if t.kind = 5 then (kQ s t.text).1.sort else if dA s t.sort then t.sort else []
theorem aMh (s : bX) (t : LTerm): CT 159 [cB s, elT t] (.s (pG s t)) := by
 refine aF mixed Tryz.func159 g0 ?_
 · skip
   (refine zt2 (aMe s t.text) (H8 s t.sort) ?_; repeat' first | exact trivial | refine zJ ?_ ?_ | refine zH fun hc => ?_)
   all_goals refine aE (congrArg AV.s ?_) rfl
   all_goals simp only [pG, *, if_true, if_false, aP, Int.reduceEq]
   all_goals rfl
def pT (s : bX) (x : Str) : List Str × Str × Bool := match G1 s x with
 | some o => (o.args, o.sort, true)
 | none => match xS s x with
   | some o => (o.args, o.sort, true)
   | none => if hX.contains x then ((T8 x).1, (T8 x).2, true) else ([], [], false)
theorem xU {H : List AObj} {l l' : List Str} {r r' : Str} {b b' : Bool} (h : (l', r', b') = (l, r, b)) : Fin H (.tup [.sl (l.map .s) l.length, .s r, .b b]) (.tup [.sl (l'.map .s) l'.length, .s r', .b b']) := by
 injection h with h1 h2; injection h2 with h2 h3
 subst h1 h2 h3
 exact aE rfl (by simp only [pers, persL, iN, dQ])
theorem aLl {H : List AObj} {l' : List Str} {r r' : Str} {b b' : Bool} (h : (l', r', b') = ([], r, b)) : Fin H (.tup [.e0, .s r, .b b]) (.tup [.sl (l'.map .s) l'.length, .s r', .b b']) := by
 injection h with h1 h2; injection h2 with h2 h3
 subst h1 h2 h3
 exact .inr ⟨⟨rfl, rfl, rfl, trivial⟩, by simp [bK, finIdsL], by simp [bK, finIdsL]⟩
theorem bHp (s : bX) (x : Str) (hs : OkS s): CT 228 [.agg (aO s), .s x] (.tup [avs (pT s x).1, .s (pT s x).2.1, .b (pT s x).2.2]) := by
 refine aF mixed Tryz.func228 g0 ?_
 · skip
   have c1 : Ctr _ _ _ _ (gZ (G1 s x)) := aMk s.ops x hs.ops
   have c2 : Ctr _ _ _ _ (gZ (xS s x)) := aMk s.funs x hs.funs
   cases h1 : G1 s x with
   | some o =>
     rw [h1] at c1
     (repeat' (first | refine gT ?_ ?_ | refine gF ?_ ?_ | refine gC ?_ ?_ | ((refine aX (c1) ?_ ?_; (focus (simp -implicitDefEqProofs (disch := omega) only [gZ, zdB, go_sem, simprocAttr]; done))); simp -implicitDefEqProofs (disch := omega) only [gZ, go_sem, simprocAttr]) | refine aZ (by omega) ?_ | (intro hr; have hc := hr; (try simp only [zdz] at hc); simp -implicitDefEqProofs (disch := omega) only [hr, gZ, go_sem, simprocAttr]; (try clear hr))))
     exact xU (by simp only [pT, h1])
   | none =>
   rw [h1] at c1
   cases h2 : xS s x with
   | some o =>
     rw [h2] at c2
     (repeat' (first | refine gT ?_ ?_ | refine gF ?_ ?_ | refine gC ?_ ?_ | ((first | (refine aX (c1) ?_ ?_; (focus (simp -implicitDefEqProofs (disch := omega) only [gZ, zdB, go_sem, simprocAttr]; done))) | (refine aX (c2) ?_ ?_; (focus (simp -implicitDefEqProofs (disch := omega) only [gZ, zdB, go_sem, simprocAttr]; done)))); simp -implicitDefEqProofs (disch := omega) only [gZ, go_sem, simprocAttr]) | refine aZ (by omega) ?_ | (intro hr; have hc := hr; (try simp only [zdz] at hc); simp -implicitDefEqProofs (disch := omega) only [hr, gZ, go_sem, simprocAttr]; (try clear hr))))
     exact xU (by simp only [pT, h1, h2])
   | none =>
     rw [h2] at c2
     (repeat' (first | refine gT ?_ ?_ | refine gF ?_ ?_ | refine gC ?_ ?_ | ((first | (refine aX (c1) ?_ ?_; (focus (simp -implicitDefEqProofs (disch := omega) only [gZ, zdB, go_sem, simprocAttr]; done))) | (refine aX (c2) ?_ ?_; (focus (simp -implicitDefEqProofs (disch := omega) only [gZ, zdB, go_sem, simprocAttr]; done))) | (refine aX (bAk x) ?_ ?_; (focus (simp -implicitDefEqProofs (disch := omega) only [gZ, zdB, go_sem, simprocAttr]; done))) | (refine aX (bHv x) ?_ ?_; (focus (simp -implicitDefEqProofs (disch := omega) only [gZ, zdB, go_sem, simprocAttr]; done)))); simp -implicitDefEqProofs (disch := omega) only [gZ, go_sem, simprocAttr]) | refine aZ (by omega) ?_ | (intro hr; have hc := hr; (try simp only [zdz] at hc); simp -implicitDefEqProofs (disch := omega) only [hr, gZ, go_sem, simprocAttr]; (try clear hr))))
     · exact aLl (by simp only [pT, h1, h2, hc, aP, if_false])
     · exact xU (by simp only [pT, h1, h2, hc, if_true])
def ofR (s : bX) (t : LTerm) : Str × Bool := if t.kind = 1 then (jK, true) else if t.kind = 2 then (jS, true) else if t.kind = 3 then (vK, true) else if t.kind = 4 then (idS, true) else if t.kind = 7 then (qP, true) else if t.kind = 8 then (zC, true) else if t.kind = 6 then (t.sort, gM s t.sort) else ((pT s t.text).2.1, (pT s t.text).2.2)
theorem aVw (s : bX) (t : LTerm) (hs : OkS s): CT 215 [.agg (aO s), elT t] (.tup [.s (ofR s t).1, .b (ofR s t).2]) := by
 refine aF mixed Tryz.func215 g0 ?_
 · skip
   (refine zt4 (bHp s t.text hs) bAi (vP mW t.sort (by decide)) (vP s.sorts t.sort hs.sorts) ?_; repeat' first | exact trivial | refine zJ ?_ ?_ | refine zH fun hc => ?_)
   all_goals refine aE ?_ rfl
   all_goals simp only [ofR, gM, *, if_true, if_false, cQ, cZ, Int.reduceEq]
   all_goals rfl
theorem fE (b : Bool) : b = true ∨ b = false := by cases b <;> simp

theorem aDj (l m : List LTerm) (hl : l.length ≤ 1466015503701) (hm : m.length ≤ 1466015503701) (ih : ∀ a ∈ l, ∀ b ∈ m, CT 74 [elT a, elT b] (.b (decide (a = b)))): CT 33 [avt l, avt m] (.b (decide (l = m))) := by
 refine bI mixed Tryz.func33 g0 ?_
 · simp -implicitDefEqProofs (disch := omega) only [Tryz.f33, go_sem, List.replicate, simprocAttr, avt]
   (refine zs0 ?_; repeat' first | exact trivial | refine zJ ?_ ?_ | refine zH fun hc => ?_)
   · refine aE ?_ (by rfl)
     have : l ≠ m := fun h => by rw [h] at hc; exact hc rfl
     rw [zf this]
   refine bT (fun (k : Nat) => [.k, .k, .k, .k, .j, .j, .k, .k, .k, .k, .k, .k, .k, .v (.i .i64 k), .j, .j, .j, .j, .j, .j, .j, .j, .j, .j, .j, .j, .j]) (fun k => []) (fun k => k ≤ l.length ∧ ∀ j, j < k → l.getD j default = m.getD j default) (fun k => l.length - k) (0) ⟨aG _, fun j h => by omega⟩ rfl (by simp [eQ]) ?_
   rintro k j ⟨hk, ha⟩
   have o : k < l.length → k < m.length → CT 74 [elT (l.getD k default), elT (m.getD k default)] (.b (decide (l.getD k default = m.getD k default))) := fun h h' => ih _ (aV h) _ (aV h')
   refine zg ?_
   (refine zt1 o ?_; repeat' first | exact trivial | refine zJ ?_ ?_ | refine zH fun hc => ?_)
   · refine aE ?_ (by rfl)
     have : l ≠ m := fun h => by simp [h] at *
     rw [zf this]
   · exact ⟨k + 1, ⟨by omega, bE ha (by simpa using hc)⟩, by omega, by simp⟩
   · refine aE ?_ (by rfl)
     have : l = m := aLp (d := default) (by omega) (fun j hj => ha j (by omega))
     rw [zt this]
theorem aDf (l m : List LTerm) (hl : l.length ≤ 1466015503701) (hm : m.length ≤ 1466015503701) (ih : ∀ a ∈ l, ∀ b ∈ m, CT 154 [elT a, elT b] (.b (decide (a = b)))): CT 200 [avt l, avt m, .fn 154 [] []] (.b (decide (l = m))) := by
 refine bI mixed Tryz.func200 g0 ?_
 · simp -implicitDefEqProofs (disch := omega) only [Tryz.f200, go_sem, List.replicate, simprocAttr, avt]
   (refine zs0 ?_; repeat' first | exact trivial | refine zJ ?_ ?_ | refine zH fun hc => ?_)
   · refine aE ?_ (by rfl)
     have : l ≠ m := fun h => by rw [h] at hc; exact hc rfl
     rw [zf this]
   refine dV (fun (k : Nat) => [.k, .k, .k, .k, .k, .k, .j, .j, .j, .j, .k, .k, .k, .k, .k, .k, .k, .v (.i .i64 k), .j, .j, .j, .j, .j, .j, .j, .j, .j, .j, .j, .j, .j, .j]) (fun k => []) (fun k => k ≤ l.length ∧ ∀ j, j < k → l.getD j default = m.getD j default) (fun k => l.length - k) (0) _ ⟨aG _, fun j h => by omega⟩ rfl (by simp [eQ]) ?_
   rintro k g j ⟨hk, ha⟩
   have o : k < l.length → k < m.length → CT 154 [elT (l.getD k default), elT (m.getD k default)] (.b (decide (l.getD k default = m.getD k default))) := fun h h' => ih _ (aV h) _ (aV h')
   refine zg ?_
   (refine zt1 o ?_; repeat' first | exact trivial | refine zJ ?_ ?_ | refine zH fun hc => ?_)
   · refine aE ?_ (by rfl)
     have : l ≠ m := fun h => by simp [h] at *
     rw [zf this]
   · exact ⟨k + 1, _, ⟨by omega, bE ha (by simpa using hc)⟩, by omega, rfl, by simp⟩
   · refine aE ?_ (by rfl)
     have : l = m := aLp (d := default) (by omega) (fun j hj => ha j (by omega))
     rw [zt this]
def aPg (a b : LTerm) : Bool := decide (a.kind = b.kind) && decide (a.n = b.n) && decide (a.text = b.text) && decide (a.sort = b.sort) && decide (a.kids = b.kids) && decide (a.rest = b.rest)
theorem aBk (a b : LTerm) : aPg a b = decide (a = b) := by
 rw [dC]; simp only [aPg, aB, decide_eq_true_eq, LTerm.ext_iff, and_assoc]
theorem aSt (a b : LTerm) (ha : OkT a) (hb : OkT b) (ihk : ∀ x ∈ a.kids, ∀ y ∈ b.kids, CT 74 [elT x, elT y] (.b (decide (x = y)))) (ihr : ∀ x ∈ a.rest, ∀ y ∈ b.rest, CT 74 [elT x, elT y] (.b (decide (x = y)))): CT 74 [elT a, elT b] (.b (decide (a = b))) := by
 refine aF mixed Tryz.func74 g0 ?_
 · skip
   have h1 := ha.kids
   have h2 := ha.rest
   have h3 := hb.kids
   have h4 := hb.rest
   rw [← aBk]
   (refine zt2 (aDj a.kids b.kids h1 h3 ihk) (aDj a.rest b.rest h2 h4 ihr) ?_; repeat' first | exact trivial | refine zJ ?_ ?_ | refine zH fun hc => ?_)
   all_goals refine aE ?_ rfl
   all_goals simp only [aPg, *, decide_true, decide_false, Bool.true_and, Bool.false_and, Bool.and_true, Bool.and_false]
theorem aDk (a : LTerm) : ∀ (b : LTerm), OkT a → OkT b → CT 74 [elT a, elT b] (.b (decide (a = b))) :=
 dY (Q := fun a => ∀ (b : LTerm), OkT a → OkT b → CT 74 [elT a, elT b] (.b (decide (a = b)))) (fun a hk hr b ha hb => aSt a b ha hb (fun x hx y hy => hk x hx y (ha.kid x hx) (hb.kid y hy)) (fun x hx y hy => hr x hx y (ha.rst x hx) (hb.rst y hy))) a
theorem aSo (a b : LTerm) (ha : OkT a) (hb : OkT b) (ihk : ∀ x ∈ a.kids, ∀ y ∈ b.kids, CT 154 [elT x, elT y] (.b (decide (x = y)))) (ihr : ∀ x ∈ a.rest, ∀ y ∈ b.rest, CT 154 [elT x, elT y] (.b (decide (x = y)))): CT 154 [elT a, elT b] (.b (decide (a = b))) := by
 refine aF mixed Tryz.func154 g0 ?_
 · skip
   have h1 := ha.kids
   have h2 := ha.rest
   have h3 := hb.kids
   have h4 := hb.rest
   rw [← aBk]
   (refine zt2 (aDf a.kids b.kids h1 h3 ihk) (aDf a.rest b.rest h2 h4 ihr) ?_; repeat' first | exact trivial | refine zJ ?_ ?_ | refine zH fun hc => ?_)
   all_goals refine aE ?_ rfl
   all_goals simp only [aPg, *, decide_true, decide_false, Bool.true_and, Bool.false_and, Bool.and_true, Bool.and_false]
theorem aMd (a : LTerm) : ∀ (b : LTerm), OkT a → OkT b → CT 154 [elT a, elT b] (.b (decide (a = b))) :=
 dY (Q := fun a => ∀ (b : LTerm), OkT a → OkT b → CT 154 [elT a, elT b] (.b (decide (a = b)))) (fun a hk hr b ha hb => aSo a b ha hb (fun x hx y hy => hk x hx y (ha.kid x hx) (hb.kid y hy)) (fun x hx y hy => hr x hx y (ha.rst x hx) (hb.rst y hy))) a

mutual
def yZ : LTerm → LTerm → Int
 | .mk k n t s ks rs, .mk k' n' t' s' ks' rs' =>
   if oJ k k' = 0 then (if oJ n n' = 0 then (if oZ t t' = 0 then (if oZ s s' = 0 then (if ordPL ks ks' = 0 then ordPL rs rs' else ordPL ks ks') else oZ s s') else oZ t t') else oJ n n') else oJ k k'
def ordPL : List LTerm → List LTerm → Int
 | [], [] => 0
 | [], _ :: _ => -1
 | _ :: _, [] => 1
 | a :: l, b :: m => if yZ a b = 0 then ordPL l m else yZ a b
end
mutual
def zG : LTerm → LTerm → Int
 | .mk k n t s ks rs, .mk k' n' t' s' ks' rs' =>
   if oJ k k' = 0 then (if k = 1 ∨ k = 2 then oJ n n' else if k = 3 ∨ k = 4 then oZ t t' else if k = 6 then (if oZ t t' = 0 then oZ s s' else oZ t t') else if k = 5 then (if oZ t t' = 0 then ordRL ks ks' else oZ t t') else (if ordRL ks ks' = 0 then ordRL rs rs' else ordRL ks ks')) else oJ k k'
def ordRL : List LTerm → List LTerm → Int
 | [], [] => 0
 | [], _ :: _ => -1
 | _ :: _, [] => 1
 | a :: l, b :: m => if zG a b = 0 then ordRL l m else zG a b
end
theorem X8 (a b : LTerm) : yZ a b = if oJ a.kind b.kind = 0 then (if oJ a.n b.n = 0 then (if oZ a.text b.text = 0 then (if oZ a.sort b.sort = 0 then (if ordPL a.kids b.kids = 0 then ordPL a.rest b.rest else ordPL a.kids b.kids) else oZ a.sort b.sort) else oZ a.text b.text) else oJ a.n b.n) else oJ a.kind b.kind := by
 cases a; cases b; rw [yZ]; rfl
theorem aJq (a b : LTerm) : zG a b = if oJ a.kind b.kind = 0 then (if a.kind = 1 ∨ a.kind = 2 then oJ a.n b.n else if a.kind = 3 ∨ a.kind = 4 then oZ a.text b.text else if a.kind = 6 then (if oZ a.text b.text = 0 then oZ a.sort b.sort else oZ a.text b.text) else if a.kind = 5 then (if oZ a.text b.text = 0 then ordRL a.kids b.kids else oZ a.text b.text) else (if ordRL a.kids b.kids = 0 then ordRL a.rest b.rest else ordRL a.kids b.kids)) else oJ a.kind b.kind := by
 cases a; cases b; rw [zG]; rfl
theorem aAg {a b : Int} (h : a < b) : oJ a b = -1 := if_pos h
theorem aAh {a b : Int} (h : b < a) : oJ a b = 1 := by rw [oJ, if_neg (by omega), if_pos h]
theorem I3 {a b : Int} (h : a = b) : oJ a b = 0 := by rw [oJ, if_neg (by omega), if_neg (by omega)]
theorem aBy {l m : List LTerm} {k : Nat} (h : k < l.length) (h' : k < m.length) : ordPL (l.drop k) (m.drop k) = if yZ (l.getD k default) (m.getD k default) = 0 then ordPL (l.drop (k + 1)) (m.drop (k + 1)) else yZ (l.getD k default) (m.getD k default) := by
 rw [bB h, bB h', ordPL]; simp [List.getD, h, h']
theorem xI {l m : List LTerm} {k : Nat} (h : k = l.length ∨ k = m.length) (h1 : k ≤ l.length) (h2 : k ≤ m.length) : ordPL (l.drop k) (m.drop k) = oJ l.length m.length := by
 by_cases h3 : k < l.length
 · rw [bB h3, aQ (l := m) (by omega), ordPL, aAh (by omega)]
 · by_cases h4 : k < m.length
   · rw [bB h4, aQ (l := l) (by omega), ordPL, aAg (by omega)]
   · rw [aQ (l := l) (by omega), aQ (l := m) (by omega), ordPL, I3 (by omega)]
theorem aBx {l m : List LTerm} {k : Nat} (h : k < l.length) (h' : k < m.length) : ordRL (l.drop k) (m.drop k) = if zG (l.getD k default) (m.getD k default) = 0 then ordRL (l.drop (k + 1)) (m.drop (k + 1)) else zG (l.getD k default) (m.getD k default) := by
 rw [bB h, bB h', ordRL]; simp [List.getD, h, h']
theorem P3 {l m : List LTerm} {k : Nat} (h : k = l.length ∨ k = m.length) (h1 : k ≤ l.length) (h2 : k ≤ m.length) : ordRL (l.drop k) (m.drop k) = oJ l.length m.length := by
 by_cases h3 : k < l.length
 · rw [bB h3, aQ (l := m) (by omega), ordRL, aAh (by omega)]
 · by_cases h4 : k < m.length
   · rw [bB h4, aQ (l := l) (by omega), ordRL, aAg (by omega)]
   · rw [aQ (l := l) (by omega), aQ (l := m) (by omega), ordRL, I3 (by omega)]
theorem aDg (l m : List LTerm) (hl : l.length ≤ 1466015503701) (hm : m.length ≤ 1466015503701) (ih : ∀ a ∈ l, ∀ b ∈ m, CT 160 [elT a, elT b] (.i .i64 (yZ a b))): CT 206 [avt l, avt m, .fn 160 [] []] (.i .i64 (ordPL l m)) := by
 refine bI mixed Tryz.func206 g0 ?_
 · simp -implicitDefEqProofs (disch := omega) only [Tryz.f206, go_sem, List.replicate, simprocAttr, avt]
   refine dV (fun (k : Nat) => [.k, .k, .k, .k, .k, .k, .j, .j, .j, .j, .j, .k, .k, .v (.i .i64 k), .j, .j, .j, .j, .j, .j, .j, .j, .j, .j, .j, .j, .j, .j, .j, .j, .j, .j, .j, .j, .k, .k, .k, .k, .k]) (fun k => []) (fun k => k ≤ l.length ∧ k ≤ m.length ∧ ordPL l m = ordPL (l.drop k) (m.drop k)) (fun k => l.length - k) (0) _ ⟨aG _, aG _, rfl⟩ rfl (by simp [eQ]) ?_
   rintro k g j ⟨hk, hk2, he⟩
   have o : k < l.length → k < m.length → CT 160 [elT (l.getD k default), elT (m.getD k default)] (.i .i64 (yZ (l.getD k default) (m.getD k default))) := fun h h' => ih _ (aV h) _ (aV h')
   refine zg ?_
   (refine zt1 o ?_; repeat' first | exact trivial | refine zJ ?_ ?_ | refine zH fun hc => ?_)
   · exact aE (congrArg _ (by rw [he, xI (.inr (by omega)) hk hk2, aAh (by omega)])) rfl
   · exact aE (congrArg _ (by rw [he, aBy (by omega) (by omega), if_neg hc])) rfl
   · exact ⟨k + 1, _, ⟨by omega, by omega, by rw [he, aBy (by omega) (by omega), if_pos hc]⟩, by omega, rfl, by simp⟩
   · exact aE (congrArg _ (by rw [he, xI (.inl (by omega)) hk hk2, aAg (by omega)])) rfl
   · exact aE (congrArg _ (by rw [he, xI (.inl (by omega)) hk hk2, I3 (by omega)])) rfl
theorem aDe (l m : List LTerm) (hl : l.length ≤ 1466015503701) (hm : m.length ≤ 1466015503701) (ih : ∀ a ∈ l, ∀ b ∈ m, CT 217 [elT a, elT b] (.i .i64 (zG a b))): CT 243 [avt l, avt m] (.i .i64 (ordRL l m)) := by
 refine bI mixed Tryz.func243 g0 ?_
 · simp -implicitDefEqProofs (disch := omega) only [Tryz.f243, go_sem, List.replicate, simprocAttr, avt]
   refine bT (fun (k : Nat) => [.k, .k, .k, .k, .j, .v (.i .i64 k), .j, .j, .j, .j, .j, .j, .j, .j, .j, .j, .j, .j, .j, .j, .j, .j, .j, .j, .j, .j, .j, .j, .j, .j, .j, .k, .k, .k, .k, .k]) (fun k => []) (fun k => k ≤ l.length ∧ k ≤ m.length ∧ ordRL l m = ordRL (l.drop k) (m.drop k)) (fun k => l.length - k) (0) ⟨aG _, aG _, rfl⟩ rfl (by simp [eQ]) ?_
   rintro k j ⟨hk, hk2, he⟩
   have o : k < l.length → k < m.length → CT 217 [elT (l.getD k default), elT (m.getD k default)] (.i .i64 (zG (l.getD k default) (m.getD k default))) := fun h h' => ih _ (aV h) _ (aV h')
   refine zg ?_
   (refine zt2 o (aMb l.length m.length) ?_; repeat' first | exact trivial | refine zJ ?_ ?_ | refine zH fun hc => ?_)
   · exact aE (congrArg _ (by rw [he, aBx (by omega) (by omega), if_neg hc])) rfl
   · exact ⟨k + 1, ⟨by omega, by omega, by rw [he, aBx (by omega) (by omega), if_pos hc]⟩, by omega, by simp⟩
   · exact aE (congrArg _ (by rw [he, P3 (.inr (by omega)) hk hk2])) rfl
   · exact aE (congrArg _ (by rw [he, P3 (.inl (by omega)) hk hk2])) rfl
theorem aUo (a b : LTerm) : (if orI [oJ a.kind b.kind, oJ a.n b.n, oZ a.text b.text, oZ a.sort b.sort] = 0 then orI [ordPL a.kids b.kids, ordPL a.rest b.rest] else orI [oJ a.kind b.kind, oJ a.n b.n, oZ a.text b.text, oZ a.sort b.sort]) = yZ a b := by
 rw [X8]
 by_cases h1 : oJ a.kind b.kind = 0 <;> by_cases h2 : oJ a.n b.n = 0 <;> by_cases h3 : oZ a.text b.text = 0 <;> by_cases h4 : oZ a.sort b.sort = 0 <;> by_cases h5 : ordPL a.kids b.kids = 0 <;> by_cases h6 : ordPL a.rest b.rest = 0 <;> simp only [orI, h1, h2, h3, h4, h5, h6, if_true, if_false]
theorem aSp (a b : LTerm) (ha : OkT a) (hb : OkT b) (ihk : ∀ x ∈ a.kids, ∀ y ∈ b.kids, CT 160 [elT x, elT y] (.i .i64 (yZ x y))) (ihr : ∀ x ∈ a.rest, ∀ y ∈ b.rest, CT 160 [elT x, elT y] (.i .i64 (yZ x y))): CT 160 [elT a, elT b] (.i .i64 (yZ a b)) := by
 refine aF mixed Tryz.func160 g0 ?_
 · skip
   have e := X8 a b
   (repeat' (first | refine gT ?_ ?_ | refine gF ?_ ?_ | refine gC ?_ ?_ | ((first | refine cF (bHj a.kind b.kind) ?_ | refine cF (bHi a.n b.n) ?_ | (refine aX (aVu a.text b.text) ?_ ?_; (focus (simp -implicitDefEqProofs (disch := omega) only [aY, bS, aK, bJ, Nat.reduceAdd, zdB, go_sem, simprocAttr]; done))) | (refine aX (aVu a.sort b.sort) ?_ ?_; (focus (simp -implicitDefEqProofs (disch := omega) only [aY, bS, aK, bJ, Nat.reduceAdd, zdB, go_sem, simprocAttr]; done))) | (refine aX (aVv [oJ a.kind b.kind, oJ a.n b.n, oZ a.text b.text, oZ a.sort b.sort] (by simp)) ?_ ?_; (focus (simp -implicitDefEqProofs (disch := omega) only [aY, bS, aK, bJ, Nat.reduceAdd, zdB, go_sem, simprocAttr]; done))) | (refine aX (aDg a.kids b.kids ha.kids hb.kids ihk) ?_ ?_; (focus (simp -implicitDefEqProofs (disch := omega) only [aY, bS, aK, bJ, Nat.reduceAdd, zdB, go_sem, simprocAttr]; done))) | (refine aX (aDg a.rest b.rest ha.rest hb.rest ihr) ?_ ?_; (focus (simp -implicitDefEqProofs (disch := omega) only [aY, bS, aK, bJ, Nat.reduceAdd, zdB, go_sem, simprocAttr]; done))) | (refine aX (aVv [ordPL a.kids b.kids, ordPL a.rest b.rest] (by simp)) ?_ ?_; (focus (simp -implicitDefEqProofs (disch := omega) only [aY, bS, aK, bJ, Nat.reduceAdd, zdB, go_sem, simprocAttr]; done)))); simp -implicitDefEqProofs (disch := omega) only [aY, bS, aK, bJ, Nat.reduceAdd, go_sem, simprocAttr]) | refine aZ (by omega) ?_ | (intro hr; have hc := hr; (try simp only [zdz] at hc); simp -implicitDefEqProofs (disch := omega) only [hr, aY, bS, aK, bJ, Nat.reduceAdd, go_sem, simprocAttr]; (try clear hr))))
   all_goals refine aE (congrArg _ ?_) rfl
   · rw [← aUo a b, if_neg hc]
   · rw [← aUo a b, if_pos hc]
theorem aSn (a b : LTerm) (ha : OkT a) (hb : OkT b) (ihk : ∀ x ∈ a.kids, ∀ y ∈ b.kids, CT 217 [elT x, elT y] (.i .i64 (zG x y))) (ihr : ∀ x ∈ a.rest, ∀ y ∈ b.rest, CT 217 [elT x, elT y] (.i .i64 (zG x y))): CT 217 [elT a, elT b] (.i .i64 (zG a b)) := by
 refine aF mixed Tryz.func217 g0 ?_
 · skip
   have e := aJq a b
   (repeat' (first | refine gT ?_ ?_ | refine gF ?_ ?_ | refine gC ?_ ?_ | ((first | (refine aX (aMb a.kind b.kind) ?_ ?_; (focus (simp -implicitDefEqProofs (disch := omega) only [zdB, go_sem, simprocAttr]; done))) | (refine aX (aMb a.n b.n) ?_ ?_; (focus (simp -implicitDefEqProofs (disch := omega) only [zdB, go_sem, simprocAttr]; done))) | (refine aX (aVs a.text b.text) ?_ ?_; (focus (simp -implicitDefEqProofs (disch := omega) only [zdB, go_sem, simprocAttr]; done))) | (refine aX (aVs a.sort b.sort) ?_ ?_; (focus (simp -implicitDefEqProofs (disch := omega) only [zdB, go_sem, simprocAttr]; done))) | (refine aX (aDe a.kids b.kids ha.kids hb.kids ihk) ?_ ?_; (focus (simp -implicitDefEqProofs (disch := omega) only [zdB, go_sem, simprocAttr]; done))) | (refine aX (aDe a.rest b.rest ha.rest hb.rest ihr) ?_ ?_; (focus (simp -implicitDefEqProofs (disch := omega) only [zdB, go_sem, simprocAttr]; done)))); simp -implicitDefEqProofs (disch := omega) only [go_sem, simprocAttr]) | refine aZ (by omega) ?_ | (intro hr; have hc := hr; (try simp only [zdz] at hc); simp -implicitDefEqProofs (disch := omega) only [hr, go_sem, simprocAttr]; (try clear hr))))
   all_goals refine aE (congrArg _ ?_) rfl
   all_goals rw [e]
   all_goals (first | rw [if_pos (by assumption)] | rw [if_neg (by assumption)])
   all_goals simp only [*, if_true, if_false, Int.reduceEq, or_true, true_or, or_false, false_or, not_true_eq_false, not_false_eq_true]
theorem bHo (a b : LTerm) (ha : OkT a) (hb : OkT b) : CT 160 [elT a, elT b] (.i .i64 (yZ a b)) :=
 dY (Q := fun a => ∀ (b : LTerm), OkT a → OkT b → CT 160 [elT a, elT b] (.i .i64 (yZ a b))) (fun a hk hr b ha hb => aSp a b ha hb (fun x hx y hy => hk x hx y (ha.kid x hx) (hb.kid y hy)) (fun x hx y hy => hr x hx y (ha.rst x hx) (hb.rst y hy))) a b ha hb
theorem bHl (a b : LTerm) (ha : OkT a) (hb : OkT b) : CT 217 [elT a, elT b] (.i .i64 (zG a b)) :=
 dY (Q := fun a => ∀ (b : LTerm), OkT a → OkT b → CT 217 [elT a, elT b] (.i .i64 (zG a b))) (fun a hk hr b ha hb => aSn a b ha hb (fun x hx y hy => hk x hx y (ha.kid x hx) (hb.kid y hy)) (fun x hx y hy => hr x hx y (ha.rst x hx) (hb.rst y hy))) a b ha hb

theorem aYy : dM [95] = false := by decide
theorem aQm : dM [36] = false := by decide
theorem aYj {s : Str} (h : F9 s = true) : dM s = false := by
 simp only [F9, bO, decide_eq_true_eq] at h
 rcases h with rfl | rfl <;> decide
theorem aQi (s : Str) : dM s = true → ¬ s = [95] ∧ ¬ s = [36] := by
 intro h
 constructor <;> (rintro rfl; revert h; decide)
theorem aMc (t : LTerm) (ht : OkT t) (h6 : t.kind = 6): CT 201 [elT t] (.b (dD t)) := by
 refine dS (rx := true) (th := fun i => if i = 19 then some ⟨some 1, [], false, false, false, [], []⟩ else none) mixed Tryz.func201 g0 ?_
 · simp -implicitDefEqProofs (disch := omega) only [Tryz.f201, go_sem, List.replicate, simprocAttr]
   have no1 := aQi t.text
   (refine zy2 (zA2 h6 (zA2 @decide_true @decide_false)) (H9 t.text ht.text) (H9 t.sort ht.sort) ?_; repeat' first | exact trivial | refine zJ ?_ ?_ | refine zH fun hc => ?_)
   all_goals try simp only [yF, yG, oL, oK] at *
   all_goals refine aE ?_ rfl
   all_goals (simp_all [dD, F9, fJ, aYy, aQm]; done)
theorem aFh {t : LTerm} {so : Str} (hs : dM so = true) (h1 : t.rest.length = 1) (h6 : (t.rest.getD 0 default).kind = 6) : (dD (t.rest.getD 0 default) && dM (t.rest.getD 0 default).text && decide ((t.rest.getD 0 default).sort = so)) = rM t so := by
 have h0 : t.rest.length ≠ 0 := by omega
 generalize hr : t.rest.getD 0 default = r at *
 have h3 : rM t so = (dM r.text && decide (r.sort = so) && fJ r false true true false false) := by
   simp only [rM, hr, h1, h6, decide_true, Nat.one_ne_zero, decide_false, cZ, Bool.true_and]
 rw [h3]
 have h4 : dD r = (if F9 r.text = true then decide (r.sort = aHd) && fJ r false true true false false else dM r.text && dM r.sort && fJ r false true true false false) := by
   simp only [dD, h6]; rfl
 rw [h4]
 cases ho : F9 r.text with
 | true => rw [aYj ho]; simp
 | false =>
   by_cases hq : r.sort = so
   · rw [hq, hs]; cases dM r.text <;> cases fJ r false true true false false <;> simp
   · simp [hq]
theorem aVq (t : LTerm) (so : Str) (ht : OkT t) (hso : dM so = true): CT 236 [elT t, .s so] (.b (rM t so)) := by
 refine aF mixed Tryz.func236 g0 ?_
 · skip
   have h1 : 0 < t.rest.length → OkT (t.rest.getD 0 default) := fun h => ht.rst _ (aV h)
   have hA := fun a b => aFh (t := t) hso a b
   (repeat' (first | refine gT ?_ ?_ | refine gF ?_ ?_ | refine gC ?_ ?_ | ((first | (refine aX (aMc (t.rest.getD 0 default) (h1 (by omega)) (by assumption)) ?_ ?_; (focus (simp -implicitDefEqProofs (disch := omega) only [zdB, go_sem, simprocAttr]; done))) | (refine aX (H9 (t.rest.getD 0 default).text (h1 (by omega)).text) ?_ ?_; (focus (simp -implicitDefEqProofs (disch := omega) only [zdB, go_sem, simprocAttr]; done)))); simp -implicitDefEqProofs (disch := omega) only [go_sem, simprocAttr]) | refine aZ (by omega) ?_ | (intro hr; have hc := hr; (try simp only [zdz] at hc); simp -implicitDefEqProofs (disch := omega) only [hr, go_sem, simprocAttr]; (try clear hr))))
   all_goals try simp only [yF, yG] at *
   all_goals refine aE ?_ rfl
   all_goals first
     | (have e := hA (by assumption) (by assumption); clear hA; rw [← e]; clear e; simp_all only [decide_true, decide_false, cQ, cZ, Bool.true_and, Bool.false_and, Bool.and_false, Bool.and_true]; done)
     | (clear hA; simp_all only [rM, decide_true, decide_false, cQ, cZ, Bool.true_and, Bool.false_and, Bool.and_false, Bool.and_true, Nat.one_ne_zero]; done)
theorem aYv {t : LTerm} (h : t.kind = 1) : dD t = (lP t.n && fJ t true false false false false) := by simp only [dD, h]; rfl
theorem aYu {t : LTerm} (h : t.kind = 2) : dD t = ((decide (t.n = 0) || decide (t.n = 1)) && fJ t true false false false false) := by simp only [dD, h]; rfl
theorem aYt {t : LTerm} (h : t.kind = 3) : dD t = (uX t.text && fJ t false true false false false) := by simp only [dD, h]; rfl
theorem aYs {t : LTerm} (h : t.kind = 4) : dD t = (aUz t.text && fJ t false true false false false) := by simp only [dD, h]; rfl
theorem aYr {t : LTerm} (h : t.kind = 5) : dD t = (B3 t.text && decide (t.kids.length ≤ 8) && fJ t false true false true false) := by simp only [dD, h]; rfl
theorem aYq {t : LTerm} (h : t.kind = 7) : dD t = (rM t qP && fJ t false false false true true) := by simp only [dD, h]; rfl
theorem aYp {t : LTerm} (h : t.kind = 8) : dD t = (rM t zC && decide (t.kids.length % 2 = 0) && fJ t false false false true true) := by simp only [dD, h]; rfl
theorem aZc {α : Type} {l : List α} : l.length = 0 ↔ l = [] := List.length_eq_zero_iff
theorem aSl (t : LTerm) (ht : OkT t) (hk : t.kind = 1): CT 201 [elT t] (.b (dD t)) := by
 refine dS (rx := true) (th := fun i => if i = 19 then some ⟨some 1, [], false, false, false, [], []⟩ else none) mixed Tryz.func201 g0 ?_
 · simp -implicitDefEqProofs (disch := omega) only [Tryz.f201, go_sem, List.replicate, simprocAttr]
   (refine zy1 (zA2 hk (zA2 @decide_true @decide_false)) (aVt t.n) ?_; repeat' first | exact trivial | refine zJ ?_ ?_ | refine zH fun hc => ?_)
   all_goals try simp only [yF, yG, oL, oK, aZc] at *
   all_goals refine aE ?_ rfl
   all_goals rw [aYv hk]
   all_goals clear ht
   all_goals first
     | (simp_all only [fJ, lP, decide_true, decide_false, cQ, cZ, Bool.true_and, Bool.false_and, Bool.and_false, Bool.and_true, cR, cI, not_true_eq_false, not_false_eq_true]; done)
     | (simp_all [fJ, lP] <;> (intros; omega))
theorem aSk (t : LTerm) (ht : OkT t) (hk : t.kind = 2): CT 201 [elT t] (.b (dD t)) := by
 refine dS (rx := true) (th := fun i => if i = 19 then some ⟨some 1, [], false, false, false, [], []⟩ else none) mixed Tryz.func201 g0 ?_
 · simp -implicitDefEqProofs (disch := omega) only [Tryz.f201, go_sem, List.replicate, simprocAttr]
   (refine zy1 (zA2 hk (zA2 @decide_true @decide_false)) (aVt t.n) ?_; repeat' first | exact trivial | refine zJ ?_ ?_ | refine zH fun hc => ?_)
   all_goals try simp only [yF, yG, oL, oK, aZc] at *
   all_goals refine aE ?_ rfl
   all_goals rw [aYu hk]
   all_goals clear ht
   all_goals first
     | (simp_all only [fJ, lP, decide_true, decide_false, cQ, cZ, Bool.true_and, Bool.false_and, Bool.and_false, Bool.and_true, cR, cI, not_true_eq_false, not_false_eq_true]; done)
     | (simp_all [fJ, lP] <;> (intros; omega))
theorem aSj (t : LTerm) (ht : OkT t) (hk : t.kind = 3): CT 201 [elT t] (.b (dD t)) := by
 refine dS (rx := true) (th := fun i => if i = 19 then some ⟨some 1, [], false, false, false, [], []⟩ else none) mixed Tryz.func201 g0 ?_
 · simp -implicitDefEqProofs (disch := omega) only [Tryz.f201, go_sem, List.replicate, simprocAttr]
   (refine zy1 (zA2 hk (zA2 @decide_true @decide_false)) (bHn t.text ht.text) ?_; repeat' first | exact trivial | refine zJ ?_ ?_ | refine zH fun hc => ?_)
   all_goals try simp only [yF, yG, oL, oK, aZc] at *
   all_goals refine aE ?_ rfl
   all_goals rw [aYt hk]
   all_goals clear ht
   all_goals first
     | (simp_all only [fJ, lP, decide_true, decide_false, cQ, cZ, Bool.true_and, Bool.false_and, Bool.and_false, Bool.and_true, cR, cI, not_true_eq_false, not_false_eq_true]; done)
     | (simp_all [fJ, lP] <;> (intros; omega))
theorem aSi (t : LTerm) (ht : OkT t) (hk : t.kind = 4): CT 201 [elT t] (.b (dD t)) := by
 refine dS (rx := true) (th := fun i => if i = 19 then some ⟨some 1, [], false, false, false, [], []⟩ else none) mixed Tryz.func201 g0 ?_
 · simp -implicitDefEqProofs (disch := omega) only [Tryz.f201, go_sem, List.replicate, simprocAttr]
   (refine zy1 (zA2 hk (zA2 @decide_true @decide_false)) (bHf t.text ht.text) ?_; repeat' first | exact trivial | refine zJ ?_ ?_ | refine zH fun hc => ?_)
   all_goals try simp only [yF, yG, oL, oK, aZc] at *
   all_goals refine aE ?_ rfl
   all_goals rw [aYs hk]
   all_goals clear ht
   all_goals first
     | (simp_all only [fJ, lP, decide_true, decide_false, cQ, cZ, Bool.true_and, Bool.false_and, Bool.and_false, Bool.and_true, cR, cI, not_true_eq_false, not_false_eq_true]; done)
     | (simp_all [fJ, lP] <;> (intros; omega))
theorem aSh (t : LTerm) (ht : OkT t) (hk : t.kind = 5): CT 201 [elT t] (.b (dD t)) := by
 refine dS (rx := true) (th := fun i => if i = 19 then some ⟨some 1, [], false, false, false, [], []⟩ else none) mixed Tryz.func201 g0 ?_
 · simp -implicitDefEqProofs (disch := omega) only [Tryz.f201, go_sem, List.replicate, simprocAttr]
   (refine zy1 (zA2 hk (zA2 @decide_true @decide_false)) (aVr t.text ht.text) ?_; repeat' first | exact trivial | refine zJ ?_ ?_ | refine zH fun hc => ?_)
   all_goals try simp only [yF, yG, oL, oK, aZc] at *
   all_goals refine aE ?_ rfl
   all_goals rw [aYr hk]
   all_goals clear ht
   all_goals first
     | (simp_all only [fJ, lP, decide_true, decide_false, cQ, cZ, Bool.true_and, Bool.false_and, Bool.and_false, Bool.and_true, cR, cI, not_true_eq_false, not_false_eq_true]; done)
     | (simp_all [fJ, lP] <;> (intros; omega))
theorem aSg (t : LTerm) (ht : OkT t) (hk : t.kind = 7): CT 201 [elT t] (.b (dD t)) := by
 refine dS (rx := true) (th := fun i => if i = 19 then some ⟨some 1, [], false, false, false, [], []⟩ else none) mixed Tryz.func201 g0 ?_
 · simp -implicitDefEqProofs (disch := omega) only [Tryz.f201, go_sem, List.replicate, simprocAttr]
   (refine zy1 (zA2 hk (zA2 @decide_true @decide_false)) (aVq t qP ht (by decide)) ?_; repeat' first | exact trivial | refine zJ ?_ ?_ | refine zH fun hc => ?_)
   all_goals try simp only [yF, yG, oL, oK, aZc] at *
   all_goals refine aE ?_ rfl
   all_goals rw [aYq hk]
   all_goals clear ht
   all_goals first
     | (simp_all only [fJ, lP, decide_true, decide_false, cQ, cZ, Bool.true_and, Bool.false_and, Bool.and_false, Bool.and_true, cR, cI, not_true_eq_false, not_false_eq_true]; done)
     | (simp_all [fJ, lP] <;> (intros; omega))
theorem aSf (t : LTerm) (ht : OkT t) (hk : t.kind = 8): CT 201 [elT t] (.b (dD t)) := by
 refine dS (rx := true) (th := fun i => if i = 19 then some ⟨some 1, [], false, false, false, [], []⟩ else none) mixed Tryz.func201 g0 ?_
 · simp -implicitDefEqProofs (disch := omega) only [Tryz.f201, go_sem, List.replicate, simprocAttr]
   (refine zy1 (zA2 hk (zA2 @decide_true @decide_false)) (aVq t zC ht (by decide)) ?_; repeat' first | exact trivial | refine zJ ?_ ?_ | refine zH fun hc => ?_)
   all_goals try simp only [yF, yG, oL, oK, aZc] at *
   all_goals refine aE ?_ rfl
   all_goals rw [aYp hk]
   all_goals clear ht
   all_goals first
     | (simp_all only [fJ, lP, decide_true, decide_false, cQ, cZ, Bool.true_and, Bool.false_and, Bool.and_false, Bool.and_true, cR, cI, not_true_eq_false, not_false_eq_true]; done)
     | (simp_all [fJ, lP] <;> (intros; omega))
theorem aSm (t : LTerm) (h1 : ¬ t.kind = 1) (h2 : ¬ t.kind = 2) (h3 : ¬ t.kind = 3) (h4 : ¬ t.kind = 4) (h5 : ¬ t.kind = 5) (h6 : ¬ t.kind = 6) (h7 : ¬ t.kind = 7) (h8 : ¬ t.kind = 8): CT 201 [elT t] (.b (dD t)) := by
 refine dS (rx := true) (th := fun i => if i = 19 then some ⟨some 1, [], false, false, false, [], []⟩ else none) mixed Tryz.func201 g0 ?_
 · simp -implicitDefEqProofs (disch := omega) only [Tryz.f201, go_sem, List.replicate, simprocAttr]
   have hn : dD t = false := by simp only [dD, h1, h2, h3, h4, h5, h6, h7, h8, if_false]
   (refine zx0 (zA2 h1 (zA2 h2 (zA2 h3 (zA2 h4 (zA2 h5 (zA2 h6 (zA2 h7 (zA2 h8 (zA2 @decide_true @decide_false))))))))) ?_; repeat' first | exact trivial | refine zJ ?_ ?_ | refine zH fun hc => ?_)
   all_goals exact aE (by rw [hn]) rfl
theorem bHk (t : LTerm) (ht : OkT t) : CT 201 [elT t] (.b (dD t)) := by
 by_cases h1 : t.kind = 1
 · exact aSl t ht h1
 by_cases h2 : t.kind = 2
 · exact aSk t ht h2
 by_cases h3 : t.kind = 3
 · exact aSj t ht h3
 by_cases h4 : t.kind = 4
 · exact aSi t ht h4
 by_cases h5 : t.kind = 5
 · exact aSh t ht h5
 by_cases h6 : t.kind = 6
 · exact aMc t ht h6
 by_cases h7 : t.kind = 7
 · exact aSg t ht h7
 by_cases h8 : t.kind = 8
 · exact aSf t ht h8
 exact aSm t h1 h2 h3 h4 h5 h6 h7 h8
end Go.Proofs.YtifefbhllfdmlaaGreatDoor
namespace Go.Vo
section
variable (p : LTerm → Bool)
mutual
def kD : LTerm → Int → Int → Int × Bool
 | .mk k n t s ks rs, d, m =>
   if (decide (d ≤ 60) && decide (m + 1 ≤ 2000) && p (.mk k n t s ks rs)) = true then
     (if (lookL ks (d + 1) (m + 1)).2 = true then ((lookL ks (d + 1) (m + 1)).1 + rs.length, decide (rs.length = 0) || (decide (d < 60) && decide ((lookL ks (d + 1) (m + 1)).1 + rs.length ≤ 2000))) else ((lookL ks (d + 1) (m + 1)).1, false))
   else (m + 1, false)
def lookL : List LTerm → Int → Int → Int × Bool
 | [], d, m => (m, true)
 | k :: l, d, m => if (kD k d m).2 = true then lookL l d (kD k d m).1 else ((kD k d m).1, false)
end
mutual
def fK : LTerm → Int → Int → Bool × Int
 | .mk k n t s ks rs, d, left =>
   if (decide (left - (1 + rs.length) < 0) || decide (d < 1) || (decide (0 < rs.length) && decide (d < 2)) || !p (.mk k n t s ks rs)) = true then (false, left - (1 + rs.length)) else formedL ks (d - 1) (left - (1 + rs.length))
def formedL : List LTerm → Int → Int → Bool × Int
 | [], d, left => (true, left)
 | k :: l, d, left => if (fK k d left).1 = true then formedL l d (fK k d left).2 else (false, (fK k d left).2)
end
mutual
def wfT : LTerm → Bool
 | .mk k n t s ks rs => p (.mk k n t s ks rs) && wfL ks
def wfL : List LTerm → Bool
 | [] => true
 | k :: l => wfT k && wfL l
end
end
mutual
def nodesT : LTerm → Nat
 | .mk k n t s ks rs => 1 + rs.length + nodesL ks
def nodesL : List LTerm → Nat
 | [] => 0
 | k :: l => nodesT k + nodesL l
end
mutual
def highT : LTerm → Nat
 | .mk k n t s ks rs => 1 + max rs.length (highL ks)
def highL : List LTerm → Nat
 | [] => 0
 | k :: l => max (highT k) (highL l)
end
section
variable {p : LTerm → Bool}
mutual
theorem tW (hp : ∀ t, p t = true → t.rest.length ≤ 1) : ∀ (t : LTerm) (d m : Int), ((kD p t d m).2 = true ↔ wfT p t = true ∧ d + highT t ≤ 61 ∧ m + nodesT t ≤ 2000) ∧ ((kD p t d m).2 = true → (kD p t d m).1 = m + nodesT t)
 | .mk k n t s ks rs, d, m => by
   rw [kD, wfT, highT, nodesT]
   split
   · rename_i hc
     simp only [aB, decide_eq_true_eq] at hc
     obtain ⟨⟨h1, h2⟩, h3⟩ := hc
     have hr := hp _ h3
     simp only [LTerm.rest] at hr
     obtain ⟨i1, i2⟩ := lookL_spec hp ks (d + 1) (m + 1) (by omega) (by omega)
     rw [h3, Bool.true_and]
     split
     · rename_i hl
       have e := i2 hl
       obtain ⟨w, w2, w3⟩ := i1.1 hl
       simp only [bO, aB, decide_eq_true_eq, w, true_and, e]
       exact ⟨by omega, fun _ => by omega⟩
     · rename_i hl
       refine ⟨⟨(fun h => by cases h), fun ⟨a, b, c⟩ => ?_⟩, fun h => by cases h⟩
       exact absurd (i1.2 ⟨a, by omega, by omega⟩) hl
   · rename_i hc
     refine ⟨⟨(fun h => by cases h), fun ⟨a, b, c⟩ => ?_⟩, fun h => by cases h⟩
     exfalso
     refine hc ?_
     simp only [aB, decide_eq_true_eq] at a ⊢
     exact ⟨⟨by omega, by omega⟩, a.1⟩
theorem lookL_spec (hp : ∀ t, p t = true → t.rest.length ≤ 1) : ∀ (l : List LTerm) (d m : Int), d ≤ 61 → m ≤ 2000 → ((lookL p l d m).2 = true ↔ wfL p l = true ∧ d + highL l ≤ 61 ∧ m + nodesL l ≤ 2000) ∧ ((lookL p l d m).2 = true → (lookL p l d m).1 = m + nodesL l)
 | [], d, m, hd, hm => by
   rw [lookL, wfL, highL, nodesL]
   exact ⟨⟨fun _ => ⟨rfl, by omega, by omega⟩, fun _ => rfl⟩, fun _ => by omega⟩
 | k :: l, d, m, hd, hm => by
   obtain ⟨i1, i2⟩ := tW hp k d m
   rw [lookL, wfL, highL, nodesL]
   split
   · rename_i hk
     have e := i2 hk
     obtain ⟨w, w2, w3⟩ := i1.1 hk
     obtain ⟨j1, j2⟩ := lookL_spec hp l d (kD p k d m).1 hd (by omega)
     rw [w, Bool.true_and, j1]
     exact ⟨⟨fun ⟨a, b, c⟩ => ⟨a, by omega, by omega⟩, fun ⟨a, b, c⟩ => ⟨a, by omega, by omega⟩⟩, fun h => by have := j2 (j1.2 h); omega⟩
   · rename_i hk
     refine ⟨⟨(fun h => by cases h), fun ⟨a, b, c⟩ => ?_⟩, fun h => by cases h⟩
     rw [aB] at a
     exact absurd (i1.2 ⟨a.1, by omega, by omega⟩) hk
end
mutual
theorem pN (hp : ∀ t, p t = true → t.rest.length ≤ 1) : ∀ (t : LTerm) (d m : Int), ((fK p t d m).1 = true ↔ wfT p t = true ∧ (highT t : Int) ≤ d ∧ (nodesT t : Int) ≤ m) ∧ ((fK p t d m).1 = true → (fK p t d m).2 = m - nodesT t)
 | .mk k n t s ks rs, d, m => by
   rw [fK, wfT, highT, nodesT]
   split
   · rename_i hc
     refine ⟨⟨(fun h => by cases h), fun ⟨h1, h2, h3⟩ => ?_⟩, fun h => by cases h⟩
     exfalso
     simp only [aB, bO, decide_eq_true_eq, cO] at h1 hc
     rcases hc with ((hc | hc) | ⟨hc, hc'⟩) | hc
     · omega
     · omega
     · omega
     · rw [h1.1] at hc; cases hc
   · rename_i hc
     simp only [bO, aB, decide_eq_true_eq, cO, not_or, not_and, Bool.not_eq_false] at hc
     obtain ⟨⟨⟨h1, h2⟩, h4⟩, h3⟩ := hc
     have hr := hp _ h3
     simp only [LTerm.rest] at hr
     obtain ⟨i1, i2⟩ := formedL_spec hp ks (d - 1) (m - (1 + rs.length)) (by omega) (by omega)
     rw [h3, Bool.true_and, i1]
     exact ⟨⟨fun ⟨a, b, c⟩ => ⟨a, by omega, by omega⟩, fun ⟨a, b, c⟩ => ⟨a, by omega, by omega⟩⟩, fun h => by have := i2 (i1.2 h); omega⟩
theorem formedL_spec (hp : ∀ t, p t = true → t.rest.length ≤ 1) : ∀ (l : List LTerm) (d m : Int), 0 ≤ d → 0 ≤ m → ((formedL p l d m).1 = true ↔ wfL p l = true ∧ (highL l : Int) ≤ d ∧ (nodesL l : Int) ≤ m) ∧ ((formedL p l d m).1 = true → (formedL p l d m).2 = m - nodesL l)
 | [], d, m, hd, hm => by
   rw [formedL, wfL, highL, nodesL]
   exact ⟨⟨fun _ => ⟨rfl, by omega, by omega⟩, fun _ => rfl⟩, fun _ => by omega⟩
 | k :: l, d, m, hd, hm => by
   obtain ⟨i1, i2⟩ := pN hp k d m
   rw [formedL, wfL, highL, nodesL]
   split
   · rename_i hk
     have e := i2 hk
     obtain ⟨w, w2, w3⟩ := i1.1 hk
     obtain ⟨j1, j2⟩ := formedL_spec hp l d (fK p k d m).2 hd (by omega)
     rw [w, Bool.true_and, j1]
     exact ⟨⟨fun ⟨a, b, c⟩ => ⟨a, by omega, by omega⟩, fun ⟨a, b, c⟩ => ⟨a, by omega, by omega⟩⟩, fun h => by have := j2 (j1.2 h); omega⟩
   · rename_i hk
     refine ⟨⟨(fun h => by cases h), fun ⟨a, b, c⟩ => ?_⟩, fun h => by cases h⟩
     rw [aB] at a
     exact absurd (i1.2 ⟨a.1, by omega, by omega⟩) hk
end
def gO (p : LTerm → Bool) (t : LTerm) : Bool := wfT p t && decide (highT t ≤ 60) && decide (nodesT t ≤ 2000)
theorem aFs (hp : ∀ t, p t = true → t.rest.length ≤ 1) (t : LTerm) : (kD p t 1 0).2 = gO p t := by
 rw [dC, (tW hp t 1 0).1, gO]
 simp only [aB, decide_eq_true_eq]
 exact ⟨fun ⟨a, b, c⟩ => ⟨⟨a, by omega⟩, by omega⟩, fun ⟨⟨a, b⟩, c⟩ => ⟨a, by omega, by omega⟩⟩
theorem Q9 (hp : ∀ t, p t = true → t.rest.length ≤ 1) (t : LTerm) : (fK p t 60 2000).1 = gO p t := by
 rw [dC, (pN hp t 60 2000).1, gO]
 simp only [aB, decide_eq_true_eq]
 exact ⟨fun ⟨a, b, c⟩ => ⟨⟨a, by omega⟩, by omega⟩, fun ⟨⟨a, b⟩, c⟩ => ⟨a, by omega, by omega⟩⟩
end
end Go.Vo
namespace Go.Proofs.YtifefbhllfdmlaaGreatDoor
open Go Go.Vo
open Nat (reduceAdd reduceSub reduceMul reduceLeDiff reduceLT reduceEqDiff)
open Int (reduceNeg)

theorem aCh (p : LTerm → Bool) (t : LTerm) (d m : Int) : kD p t d m = if (decide (d ≤ 60) && decide (m + 1 ≤ 2000) && p t) = true then (if (lookL p t.kids (d + 1) (m + 1)).2 = true then ((lookL p t.kids (d + 1) (m + 1)).1 + t.rest.length, decide (t.rest.length = 0) || (decide (d < 60) && decide ((lookL p t.kids (d + 1) (m + 1)).1 + t.rest.length ≤ 2000))) else ((lookL p t.kids (d + 1) (m + 1)).1, false)) else (m + 1, false) := by
 cases t; rw [kD]; rfl
theorem aQr {p : LTerm → Bool} {l : List LTerm} {k : Nat} {d m : Int} (h : k < l.length) : lookL p (l.drop k) d m = if (kD p (l.getD k default) d m).2 = true then lookL p (l.drop (k + 1)) d (kD p (l.getD k default) d m).1 else ((kD p (l.getD k default) d m).1, false) := by
 rw [bB h, lookL]; simp [List.getD, h]
theorem aQq {p : LTerm → Bool} {t : LTerm} {d m : Int} (hp : ∀ t, p t = true → t.rest.length ≤ 1) (hm : 0 ≤ m) (h : (kD p t d m).2 = true) : 0 ≤ (kD p t d m).1 ∧ (kD p t d m).1 ≤ 2000 := by
 have s := tW hp t d m
 rw [s.2 h]
 have := s.1.1 h
 omega
theorem Z2 {p : LTerm → Bool} {t : LTerm} {d m : Int} (h : (decide (d ≤ 60) && decide (m + 1 ≤ 2000) && p t) = false) : kD p t d m = (m + 1, false) := by
 rw [aCh, if_neg (by rw [h]; simp)]
abbrev aTz (t : LTerm) (d m : Int) : AV → List AObj → Prop := fun r h' => r = .tup [] ∧ ∃ g, h' = .box false [.i .i64 (kD dD t d m).1, .b (kD dD t d m).2] :: g
theorem sT {t : LTerm} {d m a : Int} {b : Bool} {h g : List AObj} (e : kD dD t d m = (a, b)) (hh : h = .box false [.i .i64 a, .b b] :: g) : aTz t d m (.tup []) h := ⟨rfl, g, by rw [e]; exact hh⟩
def wX (d m : Int) (j : Nat) : Bool := decide (j = 0) || (decide (d < 60) && decide (m + j ≤ 2000))
@[simp] theorem bKp {d m : Int} : wX d m 0 = true := by simp [wX]
theorem rL {d m : Int} {j : Nat} : wX d m (j + 1) = (wX d m j && decide (d < 60) && decide (m + j + 1 ≤ 2000)) := by
 rw [dC]
 simp only [wX, bO, aB, decide_eq_true_eq]
 omega
theorem bLx (t : LTerm) (d m : Int) (ht : OkT t) (hm0 : 0 ≤ m) (hm : m ≤ 2000) (hd0 : 0 ≤ d) (hd : d ≤ 100) (ih : ∀ k ∈ t.kids, ∀ (d m : Int), 0 ≤ m → m ≤ 2000 → 0 ≤ d → d ≤ 100 → ACalls Tryz.prog G0 156 [.ptr 0 0, elT k, .i .i64 d] [.box false [.i .i64 m, .b true]] (aTz k d m)): ACalls Tryz.prog G0 156 [.ptr 0 0, elT t, .i .i64 d] [.box false [.i .i64 m, .b true]] (aTz t d m) := by
 refine dI (rx := false) (th := fun _ => none) mixed Tryz.func156 ?_
 · simp -implicitDefEqProofs (disch := omega) only [Tryz.f156, go_sem, List.replicate, simprocAttr]
   have hk1 := ht.kids
   have hr1 := ht.rest
   have c := bHk t ht
   cases hnb : dD t with
   | false =>
     rw [hnb] at c
     (refine zt1 c ?_; repeat' first | exact trivial | refine zJ ?_ ?_ | refine zH fun hc => ?_)
     all_goals exact sT (Z2 (by simp only [hnb, Bool.and_false])) rfl
   | true =>
   rw [hnb] at c
   (refine zt1 c ?_; repeat' first | exact trivial | refine zJ ?_ ?_ | refine zH fun hc => ?_)
   rotate_left
   · exact sT (Z2 (by simp only [*, decide_true, decide_false, Bool.false_and, Bool.and_false, Bool.true_and])) rfl
   · exact sT (Z2 (by simp only [*, decide_true, decide_false, Bool.false_and, Bool.and_false, Bool.true_and])) rfl
   have hif : kD dD t d m = _ := aCh dD t d m
   rw [if_pos (by simp only [*, decide_true, dQ])] at hif
   refine dV (fun (s : Nat × Int) => [.k, .k, .k, .k, .k, .k, .k, .j, .k, .k, .k, .k, .k, .k, .k, .k, .k, .k, .k, .k, .k, .k, .k, .k, .k, .k, .k, .k, .k, .k, .k, .k, .k, .k, .k, .k, .k, .k, .k, .k, .k, .k, .k, .k, .k, .v (.i .i64 (s.1 : Nat)), .j, .j, .j, .j, .j, .j, .j, .j, .j, .j, .j, .j, .j, .j, .k, .k, .k, .k, .k, .k, .k, .k, .k, .k, .k, .k, .k, .k, .k, .k, .k, .k, .k, .k, .k, .k, .k, .k, .k, .k, .k, .k, .k, .k, .k]) (fun s => [.box false [.i .i64 s.2, .b true], .box false [.i .i64 (t).kind, .i .i64 (t).n, .s (t).text, .s (t).sort, .sl ((t).kids.flatMap aD) (t).kids.length, .sl ((t).rest.flatMap aD) (t).rest.length]]) (fun s => s.1 ≤ t.kids.length ∧ lookL dD t.kids (d + 1) (m + 1) = lookL dD (t.kids.drop s.1) (d + 1) s.2 ∧ 0 ≤ s.2 ∧ s.2 ≤ 2000) (fun s => t.kids.length - s.1) ((0, m + 1)) _ ⟨aG _, rfl, by dsimp only; omega, by dsimp only; omega⟩ rfl (by simp [eQ]) ?_
   rintro ⟨k, m2⟩ g j ⟨hk, hL, hm20, hm2⟩
   dsimp only at hk hL hm20 hm2
   refine zg ?_
   (refine zs0 ?_; repeat' first | exact trivial | refine zJ ?_ ?_ | refine zH fun hc => ?_)
   · have hlt : k < t.kids.length := by omega
     rw [aQr hlt] at hL
     refine aMz 0 g0 (ih _ (aV (d := default) hlt) (d + 1) m2 hm20 hm2 (by omega) (by omega)) rfl rfl rfl rfl ?_ ?_
     · simp only [renL, ren, elT, bC, avt, renL_pers _ _ lL, aRw]
     · intro g2
       refine zg ?_
       (refine zs0 ?_; repeat' first | exact trivial | refine zJ ?_ ?_ | refine zH fun hc => ?_)
       · rw [if_neg (by rw [show (kD dD (t.kids.getD k default) (d + 1) m2).2 = false from hc]; simp)] at hL
         rw [hL, if_neg (by simp)] at hif
         rw [show (kD dD (t.kids.getD k default) (d + 1) m2).2 = false from hc]
         exact sT hif rfl
       · have e : (kD dD (t.kids.getD k default) (d + 1) m2).2 = true := hc
         rw [if_pos e] at hL
         have hle := aQq nJ hm20 e
         rw [e]
         exact ⟨(k + 1, (kD dD (t.kids.getD k default) (d + 1) m2).1), _, ⟨by dsimp only; omega, hL, hle.1, hle.2⟩, by dsimp only; omega, rfl, by simp⟩
   · rw [aQ (by omega), lookL] at hL
     rw [hL, if_pos rfl] at hif
     refine bT (fun (i : Nat) => [.k, .k, .k, .k, .k, .k, .k, .k, .k, .k, .k, .k, .k, .k, .k, .k, .k, .k, .k, .k, .k, .k, .k, .k, .k, .k, .k, .k, .k, .k, .k, .k, .k, .k, .k, .k, .k, .k, .k, .k, .k, .k, .k, .k, .k, .k, .k, .k, .k, .k, .k, .k, .k, .k, .k, .k, .k, .k, .k, .k, .k, .k, .k, .v (.i .i64 (i : Nat)), .j, .j, .j, .j, .j, .j, .j, .j, .j, .j, .j, .j, .j, .j, .j, .j, .j, .j, .j, .j, .j, .j, .j, .j, .j, .j, .j]) (fun i => .box false [.i .i64 (m2 + (i : Nat)), .b (wX d m2 i)] :: .box false [.i .i64 (t).kind, .i .i64 (t).n, .s (t).text, .s (t).sort, .sl ((t).kids.flatMap aD) (t).kids.length, .sl ((t).rest.flatMap aD) (t).rest.length] :: g) (fun i => i ≤ t.rest.length) (fun i => t.rest.length - i) (0) (aG _) (by simp [avs, avb, avi, avo, bA]) (by simp [eQ]) ?_
     rintro i j hi
     refine zg ?_
     (refine zs0 ?_; repeat' first | exact trivial | refine zJ ?_ ?_ | refine zH fun hc => ?_)
     · exact ⟨i + 1, by omega, by omega, by rw [rL, show wX d m2 i = true by assumption, Int.natCast_succ, ← Int.add_assoc]; simp only [Bool.true_and, zt hc], by simp⟩
     · exact ⟨i + 1, by omega, by omega, by rw [rL, Int.natCast_succ, ← Int.add_assoc]; simp only [zf hc, Bool.and_false, Bool.false_and], by simp⟩
     · exact ⟨i + 1, by omega, by omega, by rw [rL, hc, Int.natCast_succ, ← Int.add_assoc]; simp only [Bool.false_and], by simp⟩
     · have e : i = t.rest.length := by omega
       exact sT hif (by rw [e]; rfl)
theorem look : ∀ (t : LTerm), OkT t → ∀ (d m : Int), 0 ≤ m → m ≤ 2000 → 0 ≤ d → d ≤ 100 → ACalls Tryz.prog G0 156 [.ptr 0 0, elT t, .i .i64 d] [.box false [.i .i64 m, .b true]] (aTz t d m) :=
 dY fun t hk _ ht d m h1 h2 h3 h4 => bLx t d m ht h1 h2 h3 h4 (fun k hmem d m a b c e => hk k hmem (ht.kid k hmem) d m a b c e)
theorem aMi (t : LTerm) (ht : OkT t): CT 99 [elT t] (.b (gO dD t)) := by
 refine aF mixed Tryz.func99 g0 ?_
 · skip
   (refine zs0 ?_; repeat' first | exact trivial | refine zJ ?_ ?_ | refine zH fun hc => ?_)
   refine aMz 1 g0 (look t ht 1 0 (by decide) (by decide) (by decide) (by decide)) rfl rfl rfl rfl ?_ ?_
   · simp only [renL, ren, elT, bC, avt, renL_pers _ _ lL, aRw]
   · intro g2
     refine zg ?_
     (refine zs0 ?_; repeat' first | exact trivial | refine zJ ?_ ?_ | refine zH fun hc => ?_)
     exact aE (by rw [aFs nJ]) rfl

theorem aGa (p : LTerm → Bool) (t : LTerm) (d m : Int) : fK p t d m = if (decide (m - (1 + t.rest.length) < 0) || decide (d < 1) || (decide (0 < t.rest.length) && decide (d < 2)) || !p t) = true then (false, m - (1 + t.rest.length)) else formedL p t.kids (d - 1) (m - (1 + t.rest.length)) := by
 cases t; rw [fK]; rfl
theorem aGb {p : LTerm → Bool} {l : List LTerm} {k : Nat} {d m : Int} (h : k < l.length) : formedL p (l.drop k) d m = if (fK p (l.getD k default) d m).1 = true then formedL p (l.drop (k + 1)) d (fK p (l.getD k default) d m).2 else (false, (fK p (l.getD k default) d m).2) := by
 rw [bB h, formedL]; simp [List.getD, h]
theorem aFz {p : LTerm → Bool} {t : LTerm} {d m : Int} (hp : ∀ t, p t = true → t.rest.length ≤ 1) (hm : m ≤ 2000) (h : (fK p t d m).1 = true) : 0 ≤ (fK p t d m).2 ∧ (fK p t d m).2 ≤ 2000 := by
 have s := pN hp t d m
 rw [s.2 h]
 have := s.1.1 h
 omega
abbrev J7 (t : LTerm) (d m : Int) : AV → List AObj → Prop := fun r h' => r = .b (fK dD t d m).1 ∧ ∃ g, h' = .box false [.i .i64 (fK dD t d m).2] :: g
theorem nL {t : LTerm} {d m a : Int} {b : Bool} {h g : List AObj} (e : fK dD t d m = (b, a)) (hh : h = .box false [.i .i64 a] :: g) : J7 t d m (.b b) h := ⟨by rw [e], g, by rw [e]; exact hh⟩
theorem aZr (t : LTerm) (d m : Int) (ht : OkT t) (hm0 : 0 ≤ m) (hm : m ≤ 2000) (hd0 : 0 ≤ d) (hd : d ≤ 100) (ih : ∀ k ∈ t.kids, ∀ (d m : Int), 0 ≤ m → m ≤ 2000 → 0 ≤ d → d ≤ 100 → ACalls Tryz.prog G0 213 [elT k, .i .i64 d, .ptr 0 0] [.box false [.i .i64 m]] (J7 k d m)): ACalls Tryz.prog G0 213 [elT t, .i .i64 d, .ptr 0 0] [.box false [.i .i64 m]] (J7 t d m) := by
 refine dI (rx := false) (th := fun _ => none) mixed Tryz.func213 ?_
 · simp -implicitDefEqProofs (disch := omega) only [Tryz.f213, go_sem, List.replicate, simprocAttr]
   have hk1 := ht.kids
   have hr1 := ht.rest
   have c := bHg t ht
   have e := aGa dD t d m
   rw [show decide (0 < t.rest.length) = decide (0 < (t.rest.length : Int)) by simp] at e
   have w1 : IntKind.i64.wrap (1 + (t.rest.length : Int)) = 1 + t.rest.length := wrap64 (by omega) (by omega)
   have w2 : IntKind.i64.wrap (m - (1 + (t.rest.length : Int))) = m - (1 + t.rest.length) := wrap64 (by omega) (by omega)
   cases hnb : dD t with
   | false =>
     rw [hnb] at c
     rw [hnb, Bool.not_false, cR, if_pos rfl] at e
     (refine zy1 (zA2 w1 w2) c ?_; repeat' first | exact trivial | refine zJ ?_ ?_ | refine zH fun hc => ?_)
     all_goals first
       | exact nL e rfl
       | (exfalso; simp only [w1, w2] at *; omega)
   | true =>
   rw [hnb] at c
   rw [hnb, Bool.not_true, cI] at e
   (refine zy1 (zA2 w1 w2) c ?_; repeat' first | exact trivial | refine zJ ?_ ?_ | refine zH fun hc => ?_)
   all_goals try (exfalso; simp only [w1, w2] at *; omega)
   all_goals try exact nL (e.trans (if_pos (by simp only [*, decide_true, decide_false, cQ, cR, cZ, Bool.true_and, Bool.false_and]))) rfl
   all_goals try exact nL (e.trans (if_pos (by simp [*]))) rfl
   all_goals
     rw [if_neg (by simp only [*, decide_true, decide_false, cQ, cR, cI, cZ, Bool.true_and, Bool.false_and, aP, not_false_eq_true]; try omega)] at e
     refine dV (fun (s : Nat × Int) => [.k, .k, .k, .k, .k, .k, .j, .k, .j, .k, .k, .k, .k, .k, .k, .k, .k, .k, .k, .k, .k, .k, .k, .k, .k, .k, .k, .k, .k, .k, .k, .k, .k, .k, .k, .k, .k, .k, .k, .k, .k, .k, .k, .k, .v (.i .i64 (s.1 : Nat)), .j, .j, .j, .j, .j, .j, .j, .j, .j, .j]) (fun s => [.box false [.i .i64 s.2], .box false [.i .i64 (t).kind, .i .i64 (t).n, .s (t).text, .s (t).sort, .sl ((t).kids.flatMap aD) (t).kids.length, .sl ((t).rest.flatMap aD) (t).rest.length]]) (fun s => s.1 ≤ t.kids.length ∧ formedL dD t.kids (d - 1) (m - (1 + t.rest.length)) = formedL dD (t.kids.drop s.1) (d - 1) s.2 ∧ 0 ≤ s.2 ∧ s.2 ≤ 2000) (fun s => t.kids.length - s.1) ((0, m - (1 + t.rest.length))) _ ⟨aG _, rfl, by dsimp only; omega, by dsimp only; omega⟩ rfl (by simp [eQ]) ?_
     rintro ⟨k, m2⟩ g j ⟨hk, hL, hm20, hm2⟩
     dsimp only at hk hL hm20 hm2
     refine zg ?_
     (refine zs0 ?_; repeat' first | exact trivial | refine zJ ?_ ?_ | refine zH fun hc => ?_)
     · have hlt : k < t.kids.length := by omega
       rw [aGb hlt] at hL
       refine aMz 0 g0 (ih _ (aV (d := default) hlt) (d - 1) m2 hm20 hm2 (by omega) (by omega)) rfl rfl rfl rfl ?_ ?_
       · simp only [renL, ren, elT, bC, avt, renL_pers _ _ lL, aRw]
       · intro g2
         refine zg ?_
         (refine zs0 ?_; repeat' first | exact trivial | refine zJ ?_ ?_ | refine zH fun hc => ?_)
         · rw [if_neg (by rw [show (fK dD (t.kids.getD k default) (d - 1) m2).1 = false by assumption]; simp)] at hL
           exact nL (e.trans hL) rfl
         · rw [if_pos (show (fK dD (t.kids.getD k default) (d - 1) m2).1 = true by assumption)] at hL
           have hle := aFz nJ hm2 (show (fK dD (t.kids.getD k default) (d - 1) m2).1 = true by assumption)
           exact ⟨(k + 1, (fK dD (t.kids.getD k default) (d - 1) m2).2), _, ⟨by dsimp only; omega, hL, hle.1, hle.2⟩, by dsimp only; omega, rfl, by simp⟩
     · rw [aQ (by omega), formedL] at hL
       exact nL (e.trans hL) rfl
theorem bEx : ∀ (t : LTerm), OkT t → ∀ (d m : Int), 0 ≤ m → m ≤ 2000 → 0 ≤ d → d ≤ 100 → ACalls Tryz.prog G0 213 [elT t, .i .i64 d, .ptr 0 0] [.box false [.i .i64 m]] (J7 t d m) :=
 dY fun t hk _ ht d m h1 h2 h3 h4 => aZr t d m ht h1 h2 h3 h4 (fun k hmem d m a b c e => hk k hmem (ht.kid k hmem) d m a b c e)
theorem aMg (t : LTerm) (ht : OkT t): CT 171 [elT t] (.b (gO dD t)) := by
 refine aF mixed Tryz.func171 g0 ?_
 · skip
   (refine zs0 ?_; repeat' first | exact trivial | refine zJ ?_ ?_ | refine zH fun hc => ?_)
   refine aMz 1 g0 (bEx t ht 60 2000 (by decide) (by decide) (by decide) (by decide)) rfl rfl rfl rfl ?_ ?_
   · simp only [renL, ren, elT, bC, avt, renL_pers _ _ lL, aRw]
   · intro g2
     refine zg ?_
     (refine zs0 ?_; repeat' first | exact trivial | refine zJ ?_ ?_ | refine zH fun hc => ?_)
     exact aE (by rw [Q9 nJ]) rfl

def aEi (n : Nat) (f : Nat → Bool) : Bool := (List.range n).all f
theorem pU {n : Nat} {f : Nat → Bool} (h : ∀ j, j < n → f j = true) : aEi n f = true := by
 simp only [aEi, aU, gU]; exact h
theorem iZ {n : Nat} {f : Nat → Bool} (j : Nat) (hj : j < n) (h : f j = false) : aEi n f = false := by
 rw [fH]; intro e; simp only [aEi, aU, gU] at e; rw [e j hj] at h; cases h
theorem aEh {n : Nat} {f : Nat → Bool} : aEi n f = true ↔ ∀ j, j < n → f j = true := by
 simp only [aEi, aU, gU]
theorem oO {l : List LTerm} {f : LTerm → Bool} (h : ∀ j, j < l.length → f (l.getD j default) = true) : l.all f = true := by
 rw [aU]; intro x hx; obtain ⟨j, hj, rfl⟩ := bR.1 hx; have := h j hj; simpa [List.getD, hj] using this
theorem yR {l : List LTerm} {f : LTerm → Bool} (j : Nat) (hj : j < l.length) (h : f (l.getD j default) = false) : l.all f = false := by
 rw [fH]; intro e; rw [aU.1 e _ (aV hj)] at h; cases h
def xK (s : bX) (t : LTerm) : Bool := match G1 s t.text with
 | none => false
 | some o => decide (o.args.length = t.kids.length) && aEi t.kids.length (fun i => iM s (pG s (t.kids.getD i default)) (o.args.getD i []))
def B4 (s : bX) (t : LTerm) : Bool := match G1 s t.text with
 | none => false
 | some o => decide (o.args.length = t.kids.length) && aEi t.kids.length (fun i => (ofR s (t.kids.getD i default)).2 && zV s (ofR s (t.kids.getD i default)).1 (o.args.getD i []))
def tX (f : LTerm → LTerm → Int) (t : LTerm) (i : Nat) : Bool := G5 (t.kids.getD (2 * i) default) && (decide (i = 0) || decide (f (t.kids.getD (2 * i - 2) default) (t.kids.getD (2 * i) default) < 0))
def oT (f : LTerm → LTerm → Int) (t : LTerm) : Bool := aEi ((t.kids.length + 1) / 2) (tX f t)
section
variable {f : LTerm → LTerm → Int} {t : LTerm} {i : Nat}
theorem Q2 (h : G5 (t.kids.getD (2 * i) default) = false) : tX f t i = false := by rw [tX, h, Bool.false_and]
theorem aCm (h : 0 < ((2 * i : Nat) : Int)) (h2 : 0 ≤ f (t.kids.getD (2 * i - 2) default) (t.kids.getD (2 * i) default)) : tX f t i = false := by
 rw [tX, zf (by omega : ¬ i = 0), zf (by omega : ¬ f (t.kids.getD (2 * i - 2) default) (t.kids.getD (2 * i) default) < 0), cZ, Bool.and_false]
theorem Q1 (h : G5 (t.kids.getD (2 * i) default) = true) (h2 : ¬ 0 ≤ f (t.kids.getD (2 * i - 2) default) (t.kids.getD (2 * i) default)) : tX f t i = true := by
 rw [tX, h, zt (by omega : f (t.kids.getD (2 * i - 2) default) (t.kids.getD (2 * i) default) < 0), cR]; rfl
theorem aKp (h : G5 (t.kids.getD (2 * i) default) = true) (h2 : ¬ 0 < ((2 * i : Nat) : Int)) : tX f t i = true := by
 rw [tX, h, zt (by omega : i = 0)]; rfl
end
mutual
def iY (s : bX) : LTerm → Bool
 | .mk k n x so ks rs => !decide (k = 6) && decide (rs = []) && plainPL s ks && (if k = 5 then xK s (.mk k n x so ks rs) else if k = 8 then oT yZ (.mk k n x so ks rs) else true)
def plainPL (s : bX) : List LTerm → Bool
 | [] => true
 | k :: l => iY s k && plainPL s l
end
mutual
def nE (s : bX) : LTerm → Bool
 | .mk k n x so ks rs => plainRL s ks && (if k = 6 then false else if k = 5 then B4 s (.mk k n x so ks rs) else if k = 8 then oT zG (.mk k n x so ks rs) else true) && decide (rs = [])
def plainRL (s : bX) : List LTerm → Bool
 | [] => true
 | k :: l => nE s k && plainRL s l
end
theorem A8 {s : bX} : ∀ l, plainPL s l = l.all (iY s)
 | [] => rfl
 | k :: l => by rw [plainPL, A8 l]; rfl
theorem A7 {s : bX} : ∀ l, plainRL s l = l.all (nE s)
 | [] => rfl
 | k :: l => by rw [plainRL, A7 l]; rfl
theorem sN (s : bX) (t : LTerm) : iY s t = (!decide (t.kind = 6) && decide (t.rest = []) && t.kids.all (iY s) && (if t.kind = 5 then xK s t else if t.kind = 8 then oT yZ t else true)) := by
 cases t; rw [iY, A8]; rfl
theorem O6 (s : bX) (t : LTerm) : nE s t = (t.kids.all (nE s) && (if t.kind = 6 then false else if t.kind = 5 then B4 s t else if t.kind = 8 then oT zG t else true) && decide (t.rest = [])) := by
 cases t; rw [nE, A7]; rfl
theorem aSr (s : bX) (t : LTerm) (hs : Small s) (ht : OkT t) (ih : ∀ k ∈ t.kids, CT 100 [cB s, elT k] (.b (iY s k))): CT 100 [cB s, elT t] (.b (iY s t)) := by
 refine aF mixed Tryz.func100 g0 ?_
 · skip
   have e := sN s t
   have hk1 := ht.kids
   by_cases h6 : t.kind = 6
   · rw [zt h6, Bool.not_true, Bool.false_and, Bool.false_and, Bool.false_and] at e
     (refine zs0 ?_; repeat' first | exact trivial | refine zJ ?_ ?_ | refine zH fun hc => ?_)
     all_goals first
       | exact aE (by rw [e]) rfl
       | (exfalso; omega)
   by_cases hr : ¬ t.rest = []
   · rw [zf hr, Bool.and_false, Bool.false_and, Bool.false_and] at e
     have hr2 : ¬ t.rest.length = 0 := fun h => hr (List.length_eq_zero_iff.1 h)
     (refine zs0 ?_; repeat' first | exact trivial | refine zJ ?_ ?_ | refine zH fun hc => ?_)
     all_goals first
       | exact aE (by rw [e]) rfl
       | (exfalso; omega)
   have hr : t.rest = [] := Classical.not_not.1 hr
   have hr2 : t.rest.length = 0 := by rw [hr]; rfl
   rw [zf h6, zt hr, Bool.not_false, Bool.true_and, Bool.true_and] at e
   (refine zs0 ?_; repeat' first | exact trivial | refine zJ ?_ ?_ | refine zH fun hc => ?_)
   · exfalso; omega
   refine dV (fun (k : Nat) => [.k, .k, .k, .k, .j, .k, .j, .k, .k, .k, .k, .k, .k, .k, .k, .k, .k, .k, .k, .k, .k, .k, .k, .k, .v (.i .i64 (k : Nat)), .j, .j, .j, .j, .j, .j, .j, .j, .k, .k, .k, .k, .k, .k, .k, .k, .k, .k, .k, .k, .k, .k, .k, .k, .k, .k, .k, .k, .k, .k, .k, .k, .k, .k, .k, .k, .k, .k, .k, .k, .k, .k, .k, .k, .k, .k, .k, .k, .k, .k, .k, .k, .k, .k, .k, .k, .k, .k, .k, .k, .k, .k, .k, .k, .k, .k, .k, .k, .k, .k, .k, .k, .k, .k, .k, .k, .k, .k, .k, .k, .k, .k, .k, .k, .k]) (fun k => [.box false [.i .i64 (t).kind, .i .i64 (t).n, .s (t).text, .s (t).sort, .sl ((t).kids.flatMap aD) (t).kids.length, .sl ((t).rest.flatMap aD) (t).rest.length]]) (fun k => k ≤ t.kids.length ∧ ∀ j, j < k → iY s (t.kids.getD j default) = true) (fun k => t.kids.length - k) (0) _ ⟨aG _, fun j h => by omega⟩ rfl (by simp [eQ]) ?_
   rintro k g j ⟨hk, ha⟩
   have o : k < t.kids.length → CT 100 [cB s, elT (t.kids.getD k default)] (.b (iY s (t.kids.getD k default))) := fun h => ih _ (aV h)
   refine zg ?_
   (refine zt1 o ?_; repeat' first | exact trivial | refine zJ ?_ ?_ | refine zH fun hc => ?_)
   · exact aE (by rw [e, yR k (by omega) hc, Bool.false_and]) rfl
   · exact ⟨k + 1, _, ⟨by omega, bE ha hc⟩, by omega, rfl, by simp⟩
   · rw [oO (fun j hj => ha j (by omega)), Bool.true_and, if_pos hc] at e
     have c1 := bFo s t.text
     cases h1 : G1 s t.text with
     | none =>
       rw [h1] at c1
       simp only [xK, h1] at e
       (repeat' (first | refine gT ?_ ?_ | refine gF ?_ ?_ | refine gC ?_ ?_ | ((refine aX (c1) ?_ ?_; (focus (simp -implicitDefEqProofs (disch := omega) only [oX, cB, zdB, go_sem, simprocAttr]; done))); simp -implicitDefEqProofs (disch := omega) only [oX, cB, go_sem, simprocAttr]) | refine aZ (by omega) ?_ | (intro hr; have hc := hr; (try simp only [zdz] at hc); simp -implicitDefEqProofs (disch := omega) only [hr, oX, cB, go_sem, simprocAttr]; (try clear hr))))
       all_goals exact aE (by rw [e]) rfl
     | some q =>
       rw [h1] at c1
       simp only [xK, h1] at e
       (repeat' (first | refine gT ?_ ?_ | refine gF ?_ ?_ | refine gC ?_ ?_ | ((refine aX (c1) ?_ ?_; (focus (simp -implicitDefEqProofs (disch := omega) only [oX, cB, zdB, go_sem, simprocAttr]; done))); simp -implicitDefEqProofs (disch := omega) only [oX, cB, go_sem, simprocAttr]) | refine aZ (by omega) ?_ | (intro hr; have hc := hr; (try simp only [zdz] at hc); simp -implicitDefEqProofs (disch := omega) only [hr, oX, cB, go_sem, simprocAttr]; (try clear hr))))
       · have hn : ¬ q.args.length = t.kids.length := by omega
         rw [zf hn, Bool.false_and] at e
         exact aE (by rw [e]) rfl
       have hn : q.args.length = t.kids.length := by omega
       rw [zt hn, Bool.true_and] at e
       refine dV (fun (k : Nat) => [.k, .k, .k, .k, .j, .k, .k, .k, .k, .j, .j, .k, .k, .k, .k, .k, .k, .k, .k, .k, .k, .k, .k, .k, .k, .k, .k, .k, .k, .k, .k, .k, .k, .k, .k, .k, .k, .k, .k, .k, .k, .k, .k, .k, .k, .k, .k, .k, .k, .k, .k, .k, .k, .k, .k, .k, .k, .k, .v (.i .i64 (k : Nat)), .j, .j, .j, .j, .j, .j, .j, .j, .j, .j, .j, .j, .j, .j, .j, .j, .k, .k, .k, .k, .k, .k, .k, .k, .k, .k, .k, .k, .k, .k, .k, .k, .k, .k, .k, .k, .k, .k, .k, .k, .k, .k, .k, .k, .k, .k, .k, .k, .k, .k, .k]) (fun k => (.box false [.i .i64 (t).kind, .i .i64 (t).n, .s (t).text, .s (t).sort, .sl ((t).kids.flatMap aD) (t).kids.length, .sl ((t).rest.flatMap aD) (t).rest.length] :: (g ++ [.box false (bA q)]))) (fun k => k ≤ t.kids.length ∧ ∀ j, j < k → iM s (pG s (t.kids.getD j default)) (q.args.getD j []) = true) (fun k => t.kids.length - k) (0) [] ⟨aG _, fun j h => by omega⟩ (by simp [avs, avb, avi, avo, bA, aO]) (by simp [eQ]) ?_
       rintro kk g2 j2 ⟨hkk, ha2⟩
       refine zg ?_
       (refine zt2 (aMh s (t.kids.getD kk default)) (aRy s (pG s (t.kids.getD kk default)) (q.args.getD kk []) hs) ?_; repeat' first | exact trivial | refine zJ ?_ ?_ | refine zH fun hc => ?_)
       · exact aE (by rw [e, iZ kk (by omega) hc]) rfl
       · exact ⟨kk + 1, _, ⟨by omega, bE ha2 hc⟩, by omega, rfl, by simp⟩
       · exact aE (by rw [e, pU (fun j hj => ha2 j (by omega))]) rfl
   · rw [oO (fun j hj => ha j (by omega)), Bool.true_and, if_neg (by assumption), if_pos hc] at e
     refine bT (fun (i : Nat) => [.k, .k, .k, .k, .j, .k, .k, .k, .k, .k, .k, .v (.i .i64 ((2 * i : Nat) : Int)), .k, .k, .k, .k, .k, .k, .k, .k, .k, .k, .k, .k, .k, .k, .k, .k, .k, .k, .k, .k, .k, .k, .k, .k, .k, .k, .k, .k, .k, .k, .k, .k, .k, .k, .k, .k, .k, .k, .k, .k, .k, .k, .k, .k, .k, .k, .k, .k, .k, .k, .k, .k, .k, .k, .k, .k, .k, .k, .k, .k, .k, .k, .k, .k, .k, .j, .j, .j, .j, .j, .j, .j, .j, .j, .j, .j, .j, .j, .j, .j, .j, .j, .j, .j, .j, .j, .j, .j, .j, .j, .j, .j, .j, .j, .j, .j, .j, .j]) (fun i => (.box false [.i .i64 (t).kind, .i .i64 (t).n, .s (t).text, .s (t).sort, .sl ((t).kids.flatMap aD) (t).kids.length, .sl ((t).rest.flatMap aD) (t).rest.length] :: g)) (fun i => 2 * i ≤ t.kids.length + 1 ∧ ∀ j, j < i → tX yZ t j = true) (fun i => t.kids.length + 1 - 2 * i) (0) ⟨aG _, fun j h => by omega⟩ rfl (by simp [eQ]) ?_
     rintro i j2 ⟨hi, ha2⟩
     have h0 : (((2 * i : Nat) : Int) - 2).toNat = 2 * i - 2 := by omega
     have o1 : 2 * i < t.kids.length → OkT (t.kids.getD (2 * i) default) := fun h => ht.kid _ (aV h)
     have o2 : 2 * i < t.kids.length → OkT (t.kids.getD (2 * i - 2) default) := fun h => ht.kid _ (aV (by omega))
     refine zh h0 ?_
     (repeat' (first | refine gT ?_ ?_ | refine gF ?_ ?_ | refine gC ?_ ?_ | ((first | refine cF (aMf (t.kids.getD (2 * i) default)) ?_ | refine cF (bHo (t.kids.getD (2 * i - 2) default) (t.kids.getD (2 * i) default) (o2 (by omega)) (o1 (by omega))) ?_); simp -implicitDefEqProofs (disch := omega) only [h0, go_sem, simprocAttr]) | refine aZ (by omega) ?_ | (intro hr; have hc := hr; (try simp only [zdz] at hc); simp -implicitDefEqProofs (disch := omega) only [hr, h0, go_sem, simprocAttr]; (try clear hr))))
     · exact aE (by rw [e, oT, iZ i (by omega) (aCm (by assumption) hc)]) rfl
     · exact ⟨i + 1, ⟨by omega, bE ha2 (Q1 (by assumption) hc)⟩, by omega, by rw [show ((2 * (i + 1) : Nat) : Int) = ((2 * i : Nat) : Int) + 2 by omega]⟩
     · exact ⟨i + 1, ⟨by omega, bE ha2 (aKp (by assumption) hc)⟩, by omega, by rw [show ((2 * (i + 1) : Nat) : Int) = ((2 * i : Nat) : Int) + 2 by omega]⟩
     · exact aE (by rw [e, oT, iZ i (by omega) (Q2 hc)]) rfl
     · exact aE (by rw [e, oT, pU (fun j hj => ha2 j (by omega))]) rfl
   · rw [oO (fun j hj => ha j (by omega)), Bool.true_and, if_neg (by assumption), if_neg (by assumption)] at e
     exact aE (by rw [e]) rfl
   · exfalso; omega
theorem bHt (s : bX) (hs : Small s) : ∀ (t : LTerm), OkT t → CT 100 [cB s, elT t] (.b (iY s t)) :=
 dY fun t hk _ ht => aSr s t hs ht (fun k hm => hk k hm (ht.kid k hm))
theorem aSq (s : bX) (t : LTerm) (hm : Small s) (hs : OkS s) (ht : OkT t) (ih : ∀ k ∈ t.kids, CT 173 [.agg (aO s), elT k] (.b (nE s k))): CT 173 [.agg (aO s), elT t] (.b (nE s t)) := by
 refine aF mixed Tryz.func173 g0 ?_
 · skip
   have e := O6 s t
   have er : decide ((t.rest.length : Int) = 0) = decide (t.rest = []) := by rw [dC]; simp
   have hk1 := ht.kids
   refine dV (fun (k : Nat) => [.k, .k, .k, .k, .j, .k, .j, .k, .k, .k, .k, .k, .k, .k, .k, .k, .k, .v (.i .i64 (k : Nat)), .j, .j, .j, .j, .j, .j, .j, .j, .k, .k, .k, .k, .k, .k, .k, .k, .k, .k, .k, .k, .k, .k, .k, .k, .k, .k, .k, .k, .k, .k, .k, .k, .k, .k, .k, .k, .k, .k, .k, .k, .k, .k, .k, .k, .k, .k, .k, .k, .k, .k, .k, .k, .k, .k, .k, .k, .k, .k, .k, .k, .k, .k, .k, .k, .k, .k, .k, .k, .k, .k, .k, .k, .k, .k, .k, .k, .k, .k, .k, .k, .k, .k, .k, .k, .k, .k, .k, .k, .k, .k, .k, .k, .k, .k, .k, .k, .k, .k, .k, .k]) (fun k => [.box false (aO s), .box false [.i .i64 (t).kind, .i .i64 (t).n, .s (t).text, .s (t).sort, .sl ((t).kids.flatMap aD) (t).kids.length, .sl ((t).rest.flatMap aD) (t).rest.length]]) (fun k => k ≤ t.kids.length ∧ ∀ j, j < k → nE s (t.kids.getD j default) = true) (fun k => t.kids.length - k) (0) _ ⟨aG _, fun j h => by omega⟩ rfl (by simp [eQ]) ?_
   rintro k g j ⟨hk, ha⟩
   have o : k < t.kids.length → CT 173 [.agg (aO s), elT (t.kids.getD k default)] (.b (nE s (t.kids.getD k default))) := fun h => ih _ (aV h)
   refine zg ?_
   (refine zt1 o ?_; repeat' first | exact trivial | refine zJ ?_ ?_ | refine zH fun hc => ?_)
   · exact aE (by rw [e, yR k (by omega) hc, Bool.false_and, Bool.false_and]) rfl
   · exact ⟨k + 1, _, ⟨by omega, bE ha hc⟩, by omega, rfl, by simp⟩
   · rw [if_pos hc, Bool.and_false, Bool.false_and] at e
     exact aE (by rw [e]) rfl
   · rw [oO (fun j hj => ha j (by omega)), Bool.true_and, if_neg (by assumption), if_pos hc] at e
     have c1 : Ctr _ _ _ _ (gZ (G1 s t.text)) := aMk s.ops t.text hs.ops
     cases h1 : G1 s t.text with
     | none =>
       rw [h1] at c1
       simp only [B4, h1] at e
       (repeat' (first | refine gT ?_ ?_ | refine gF ?_ ?_ | refine gC ?_ ?_ | ((refine aX (c1) ?_ ?_; (focus (simp -implicitDefEqProofs (disch := omega) only [gZ, zdB, go_sem, simprocAttr]; done))); simp -implicitDefEqProofs (disch := omega) only [gZ, go_sem, simprocAttr]) | refine aZ (by omega) ?_ | (intro hr; have hc := hr; (try simp only [zdz] at hc); simp -implicitDefEqProofs (disch := omega) only [hr, gZ, go_sem, simprocAttr]; (try clear hr))))
       all_goals exact aE (by rw [e]; rfl) rfl
     | some q =>
       rw [h1] at c1
       simp only [B4, h1] at e
       (repeat' (first | refine gT ?_ ?_ | refine gF ?_ ?_ | refine gC ?_ ?_ | ((refine aX (c1) ?_ ?_; (focus (simp -implicitDefEqProofs (disch := omega) only [gZ, zdB, go_sem, simprocAttr]; done))); simp -implicitDefEqProofs (disch := omega) only [gZ, go_sem, simprocAttr]) | refine aZ (by omega) ?_ | (intro hr; have hc := hr; (try simp only [zdz] at hc); simp -implicitDefEqProofs (disch := omega) only [hr, gZ, go_sem, simprocAttr]; (try clear hr))))
       · have hn : ¬ q.args.length = t.kids.length := by omega
         rw [zf hn, Bool.false_and, Bool.false_and] at e
         exact aE (by rw [e]) rfl
       have hn : q.args.length = t.kids.length := by omega
       rw [zt hn, Bool.true_and] at e
       refine dV (fun (k : Nat) => [.k, .k, .k, .k, .j, .k, .k, .k, .k, .j, .j, .j, .j, .k, .k, .k, .k, .k, .k, .k, .k, .k, .k, .k, .k, .k, .k, .k, .k, .k, .k, .k, .k, .k, .k, .k, .k, .k, .k, .k, .k, .k, .k, .k, .k, .k, .k, .k, .k, .k, .k, .k, .k, .k, .v (.i .i64 (k : Nat)), .j, .j, .j, .j, .j, .j, .j, .j, .j, .j, .j, .j, .j, .j, .j, .j, .j, .j, .j, .j, .j, .j, .j, .j, .k, .k, .k, .k, .k, .k, .k, .k, .k, .k, .k, .k, .k, .k, .k, .k, .k, .k, .k, .k, .k, .k, .k, .k, .k, .k, .k, .k, .k, .k, .k, .k, .k, .k, .k, .k, .k, .k, .k]) (fun k => (.box false (aO s) :: .box false [.i .i64 (t).kind, .i .i64 (t).n, .s (t).text, .s (t).sort, .sl ((t).kids.flatMap aD) (t).kids.length, .sl ((t).rest.flatMap aD) (t).rest.length] :: (g ++ [.box false (bA q)]))) (fun k => k ≤ t.kids.length ∧ ∀ j, j < k → ((ofR s (t.kids.getD j default)).2 && zV s (ofR s (t.kids.getD j default)).1 (q.args.getD j [])) = true) (fun k => t.kids.length - k) (0) [] ⟨aG _, fun j h => by omega⟩ (by simp [avs, avb, avi, avo, bA, aO]) (by simp [eQ]) ?_
       rintro kk g2 j2 ⟨hkk, ha2⟩
       refine zg ?_
       (refine zt2 (aVw s (t.kids.getD kk default) hs) (bFl s (ofR s (t.kids.getD kk default)).1 (q.args.getD kk []) hm) ?_; repeat' first | exact trivial | refine zJ ?_ ?_ | refine zH fun hc => ?_)
       · exact aE (by rw [e, iZ kk (by omega) (by rw [hc, Bool.and_false]), Bool.false_and]) rfl
       · exact ⟨kk + 1, _, ⟨by omega, bE ha2 (by rw [hc, Bool.and_true]; assumption)⟩, by omega, rfl, by simp⟩
       · exact aE (by rw [e, iZ kk (by omega) (by rw [hc, Bool.false_and]), Bool.false_and]) rfl
       · exact aE (by rw [e, pU (fun j hj => ha2 j (by omega)), er, Bool.true_and]) rfl
   · rw [oO (fun j hj => ha j (by omega)), Bool.true_and, if_neg (by assumption), if_neg (by assumption), if_pos hc] at e
     refine bT (fun (i : Nat) => [.k, .k, .k, .k, .j, .k, .k, .k, .k, .k, .k, .k, .k, .v (.i .i64 ((2 * i : Nat) : Int)), .k, .k, .k, .k, .k, .k, .k, .k, .k, .k, .k, .k, .k, .k, .k, .k, .k, .k, .k, .k, .k, .k, .k, .k, .k, .k, .k, .k, .k, .k, .k, .k, .k, .k, .k, .k, .k, .k, .k, .k, .k, .k, .k, .k, .k, .k, .k, .k, .k, .k, .k, .k, .k, .k, .k, .k, .k, .k, .k, .k, .k, .k, .k, .k, .k, .k, .k, .j, .j, .j, .j, .j, .j, .j, .j, .j, .j, .j, .j, .j, .j, .j, .j, .j, .j, .j, .j, .j, .j, .j, .j, .j, .j, .j, .j, .j, .j, .j, .j, .j, .k, .k, .k, .k]) (fun i => (.box false (aO s) :: .box false [.i .i64 (t).kind, .i .i64 (t).n, .s (t).text, .s (t).sort, .sl ((t).kids.flatMap aD) (t).kids.length, .sl ((t).rest.flatMap aD) (t).rest.length] :: g)) (fun i => 2 * i ≤ t.kids.length + 1 ∧ ∀ j, j < i → tX zG t j = true) (fun i => t.kids.length + 1 - 2 * i) (0) ⟨aG _, fun j h => by omega⟩ rfl (by simp [eQ]) ?_
     rintro i j2 ⟨hi, ha2⟩
     have h0 : (((2 * i : Nat) : Int) - 2).toNat = 2 * i - 2 := by omega
     have o1 : 2 * i < t.kids.length → OkT (t.kids.getD (2 * i) default) := fun h => ht.kid _ (aV h)
     have o2 : 2 * i < t.kids.length → OkT (t.kids.getD (2 * i - 2) default) := fun h => ht.kid _ (aV (by omega))
     refine zh h0 ?_
     (repeat' (first | refine gT ?_ ?_ | refine gF ?_ ?_ | refine gC ?_ ?_ | ((first | refine cF (bHz (t.kids.getD (2 * i) default)) ?_ | refine cF (bHl (t.kids.getD (2 * i - 2) default) (t.kids.getD (2 * i) default) (o2 (by omega)) (o1 (by omega))) ?_); simp -implicitDefEqProofs (disch := omega) only [h0, go_sem, simprocAttr]) | refine aZ (by omega) ?_ | (intro hr; have hc := hr; (try simp only [zdz] at hc); simp -implicitDefEqProofs (disch := omega) only [hr, h0, go_sem, simprocAttr]; (try clear hr))))
     · exact aE (by rw [e, oT, iZ i (by omega) (aCm (by assumption) hc), Bool.false_and]) rfl
     · exact ⟨i + 1, ⟨by omega, bE ha2 (Q1 (by assumption) hc)⟩, by omega, by rw [show ((2 * (i + 1) : Nat) : Int) = ((2 * i : Nat) : Int) + 2 by omega]⟩
     · exact ⟨i + 1, ⟨by omega, bE ha2 (aKp (by assumption) hc)⟩, by omega, by rw [show ((2 * (i + 1) : Nat) : Int) = ((2 * i : Nat) : Int) + 2 by omega]⟩
     · exact aE (by rw [e, oT, iZ i (by omega) (Q2 hc), Bool.false_and]) rfl
     · exact aE (by rw [e, oT, pU (fun j hj => ha2 j (by omega)), er, Bool.true_and]) rfl
   · rw [oO (fun j hj => ha j (by omega)), Bool.true_and, if_neg (by assumption), if_neg (by assumption), if_neg (by assumption), Bool.true_and] at e
     exact aE (by rw [e, er]) rfl
theorem bHs (s : bX) (hm : Small s) (hs : OkS s) : ∀ (t : LTerm), OkT t → CT 173 [.agg (aO s), elT t] (.b (nE s t)) :=
 dY fun t hk _ ht => aSq s t hm hs ht (fun k hm => hk k hm (ht.kid k hm))

theorem aMq {a b : Int} : oJ a b = 0 ↔ a = b := by
 rw [oJ]; split
 · omega
 · split <;> omega
structure ZN (t : LTerm) : Prop where
 a : t.kind = 1 ∨ t.kind = 2 → t.text = [] ∧ t.sort = [] ∧ t.kids = [] ∧ t.rest = []
 b : t.kind = 3 ∨ t.kind = 4 → t.n = 0 ∧ t.sort = [] ∧ t.kids = [] ∧ t.rest = []
 c : t.kind = 5 → t.n = 0 ∧ t.sort = [] ∧ t.rest = []
 d : t.kind = 6 → t.n = 0 ∧ t.kids = [] ∧ t.rest = []
 e : t.kind = 7 ∨ t.kind = 8 → t.n = 0 ∧ t.text = [] ∧ t.sort = []
 f : 1 ≤ t.kind ∧ t.kind ≤ 8
theorem nR {t : LTerm} {a b c d e : Bool} (h : fJ t a b c d e = true) : (a = false → t.n = 0) ∧ (b = false → t.text = []) ∧ (c = false → t.sort = []) ∧ (d = false → t.kids = []) ∧ (e = false → t.rest = []) := by
 simp only [fJ, aB, bO, decide_eq_true_eq] at h
 obtain ⟨⟨⟨⟨h1, h2⟩, h3⟩, h4⟩, h5⟩ := h
 exact ⟨fun h => h1.resolve_left (by simp [h]), fun h => h2.resolve_left (by simp [h]), fun h => h3.resolve_left (by simp [h]), fun h => h4.resolve_left (by simp [h]), fun h => h5.resolve_left (by simp [h])⟩
theorem aKb {t : LTerm} (h : dD t = true) : ZN t := by
 have two : ∀ {x y : Bool}, (x && y) = true → x = true ∧ y = true := by simp
 unfold dD at h
 split at h
 · have z := nR (two h).2
   exact ⟨fun _ => ⟨z.2.1 rfl, z.2.2.1 rfl, z.2.2.2.1 rfl, z.2.2.2.2 rfl⟩, fun _ => by omega, fun _ => by omega, fun _ => by omega, fun _ => by omega, by omega⟩
 split at h
 · have z := nR (two h).2
   exact ⟨fun _ => ⟨z.2.1 rfl, z.2.2.1 rfl, z.2.2.2.1 rfl, z.2.2.2.2 rfl⟩, fun _ => by omega, fun _ => by omega, fun _ => by omega, fun _ => by omega, by omega⟩
 split at h
 · have z := nR (two h).2
   exact ⟨fun _ => by omega, fun _ => ⟨z.1 rfl, z.2.2.1 rfl, z.2.2.2.1 rfl, z.2.2.2.2 rfl⟩, fun _ => by omega, fun _ => by omega, fun _ => by omega, by omega⟩
 split at h
 · have z := nR (two h).2
   exact ⟨fun _ => by omega, fun _ => ⟨z.1 rfl, z.2.2.1 rfl, z.2.2.2.1 rfl, z.2.2.2.2 rfl⟩, fun _ => by omega, fun _ => by omega, fun _ => by omega, by omega⟩
 split at h
 · have z := nR (two h).2
   exact ⟨fun _ => by omega, fun _ => by omega, fun _ => ⟨z.1 rfl, z.2.2.1 rfl, z.2.2.2.2 rfl⟩, fun _ => by omega, fun _ => by omega, by omega⟩
 split at h
 · have z : fJ t false true true false false = true := by
     split at h
     · exact (two h).2
     · exact (two h).2
   have z := nR z
   exact ⟨fun _ => by omega, fun _ => by omega, fun _ => by omega, fun _ => ⟨z.1 rfl, z.2.2.2.1 rfl, z.2.2.2.2 rfl⟩, fun _ => by omega, by omega⟩
 split at h
 · have z := nR (two h).2
   exact ⟨fun _ => by omega, fun _ => by omega, fun _ => by omega, fun _ => by omega, fun _ => ⟨z.1 rfl, z.2.1 rfl, z.2.2.1 rfl⟩, by omega⟩
 split at h
 · have z := nR (two h).2
   exact ⟨fun _ => by omega, fun _ => by omega, fun _ => by omega, fun _ => by omega, fun _ => ⟨z.1 rfl, z.2.1 rfl, z.2.2.1 rfl⟩, by omega⟩
 · cases h
theorem aIp {t : LTerm} {so : Str} (h : rM t so = true) : ∀ r ∈ t.rest, ZN r ∧ r.kids = [] ∧ r.rest = [] := by
 intro r hr
 simp only [rM, bO, aB, decide_eq_true_eq] at h
 rcases h with h | ⟨⟨⟨⟨h1, h2⟩, h3⟩, h4⟩, h5⟩
 · rw [List.length_eq_zero_iff] at h; rw [h] at hr; cases hr
 · obtain ⟨x, hx⟩ := List.length_eq_one_iff.1 h1
   rw [hx] at hr h2 h5
   simp only [cL] at hr
   subst hr
   simp only [uL] at h2 h5
   have z := nR h5
   exact ⟨⟨fun _ => by omega, fun _ => by omega, fun _ => by omega, fun _ => ⟨z.1 rfl, z.2.2.2.1 rfl, z.2.2.2.2 rfl⟩, fun _ => by omega, by omega⟩, z.2.2.2.1 rfl, z.2.2.2.2 rfl⟩
theorem P6 {t : LTerm} (h : dD t = true) : ∀ r ∈ t.rest, ZN r ∧ r.kids = [] ∧ r.rest = [] := by
 have two : ∀ {x y : Bool}, (x && y) = true → x = true ∧ y = true := by simp
 have z := aKb h
 intro r hr
 have hne : t.rest ≠ [] := fun e => by rw [e] at hr; cases hr
 have h7 : t.kind = 7 ∨ t.kind = 8 := by
   rcases z.f with ⟨f1, f2⟩
   by_cases h1 : t.kind = 1 ∨ t.kind = 2
   · exact absurd (z.a h1).2.2.2 hne
   by_cases h3 : t.kind = 3 ∨ t.kind = 4
   · exact absurd (z.b h3).2.2.2 hne
   by_cases h5 : t.kind = 5
   · exact absurd (z.c h5).2.2 hne
   by_cases h6 : t.kind = 6
   · exact absurd (z.d h6).2.2 hne
   omega
 unfold dD at h
 rw [if_neg (by omega), if_neg (by omega), if_neg (by omega), if_neg (by omega), if_neg (by omega), if_neg (by omega)] at h
 split at h
 · exact aIp (two h).1 r hr
 · split at h
   · exact aIp (two (two h).1).1 r hr
   · cases h
inductive ZT : LTerm → Prop
 | mk {t : LTerm} : ZN t → (∀ k ∈ t.kids, ZT k) → (∀ k ∈ t.rest, ZT k) → ZT t
theorem M0 {p : LTerm → Bool} {t : LTerm} : wfT p t = true ↔ p t = true ∧ ∀ k ∈ t.kids, wfT p k = true := by
 have hl : ∀ l : List LTerm, wfL p l = true ↔ ∀ k ∈ l, wfT p k = true := by
   intro l
   induction l with
   | nil => simp [wfL]
   | cons a l ih => simp [wfL, ih]
 cases t
 rw [wfT, aB, hl]; rfl
theorem aWq : ∀ t : LTerm, wfT dD t = true → ZT t :=
 dY fun t hk _ h => by
   rw [M0] at h
   refine .mk (aKb h.1) (fun k hm => hk k hm (h.2 k hm)) (fun r hr => ?_)
   have z := P6 h.1 r hr
   exact .mk z.1 (fun k hm => by rw [z.2.1] at hm; cases hm) (fun k hm => by rw [z.2.2] at hm; cases hm)
theorem tD (a : Int) : oJ a a = 0 := I3 rfl
theorem tC (a : Str) : oZ a a = 0 := aAf rfl
theorem sO : ordPL [] [] = 0 := by rw [ordPL]
theorem X9 : ∀ (l m : List LTerm), (∀ a ∈ l, ∀ b ∈ m, zG a b = yZ a b) → ordRL l m = ordPL l m
 | [], [], _ => by rw [ordRL, ordPL]
 | [], _ :: _, _ => by rw [ordRL, ordPL]
 | _ :: _, [], _ => by rw [ordRL, ordPL]
 | a :: l, b :: m, h => by
   rw [ordRL, ordPL, h a (by simp) b (by simp), X9 l m (fun x hx y hy => h x (by simp [hx]) y (by simp [hy]))]
theorem bEa : ∀ (a : LTerm), ZT a → ∀ b, ZT b → zG a b = yZ a b :=
 dY (Q := fun a => ZT a → ∀ b, ZT b → zG a b = yZ a b) fun a hk hr ha b hb => by
   obtain ⟨za, ka, ra⟩ := ha
   obtain ⟨zb, kb, rb⟩ := hb
   have e1 : ordRL a.kids b.kids = ordPL a.kids b.kids := X9 _ _ (fun x hx y hy => hk x hx (ka x hx) y (kb y hy))
   have e2 : ordRL a.rest b.rest = ordPL a.rest b.rest := X9 _ _ (fun x hx y hy => hr x hx (ra x hx) y (rb y hy))
   rw [aJq, X8, e1, e2]
   by_cases h0 : oJ a.kind b.kind = 0
   · rw [if_pos h0, if_pos h0]
     have h0 := aMq.1 h0
     by_cases h1 : a.kind = 1 ∨ a.kind = 2
     · obtain ⟨x1, x2, x3, x4⟩ := za.a h1
       obtain ⟨y1, y2, y3, y4⟩ := zb.a (by omega)
       rw [if_pos h1, x1, x2, x3, x4, y1, y2, y3, y4, tC, sO]
       simp only [if_true]
       split
       · assumption
       · rfl
     rw [if_neg h1]
     by_cases h3 : a.kind = 3 ∨ a.kind = 4
     · obtain ⟨x1, x2, x3, x4⟩ := za.b h3
       obtain ⟨y1, y2, y3, y4⟩ := zb.b (by omega)
       rw [if_pos h3, x1, x2, x3, x4, y1, y2, y3, y4, tC, tD, sO]
       simp only [if_true]
       split
       · assumption
       · rfl
     rw [if_neg h3]
     by_cases h6 : a.kind = 6
     · obtain ⟨x1, x3, x4⟩ := za.d h6
       obtain ⟨y1, y3, y4⟩ := zb.d (by omega)
       rw [if_pos h6, x1, x3, x4, y1, y3, y4, tD, sO]
       simp only [if_true]
       split
       · split
         · assumption
         · rfl
       · rfl
     rw [if_neg h6]
     by_cases h5 : a.kind = 5
     · obtain ⟨x1, x3, x4⟩ := za.c h5
       obtain ⟨y1, y3, y4⟩ := zb.c (by omega)
       rw [if_pos h5, x1, x3, x4, y1, y3, y4, tD, tC, sO]
       simp only [if_true]
       split
       · split
         · assumption
         · rfl
       · rfl
     rw [if_neg h5]
     have f := za.f
     obtain ⟨x1, x3, x4⟩ := za.e (by omega)
     obtain ⟨y1, y3, y4⟩ := zb.e (by omega)
     rw [x1, x3, x4, y1, y3, y4, tD, tC]
     simp only [if_true]
   · rw [if_neg h0, if_neg h0]

def kA (s : bX) (t : LTerm) : Bool := gO dD t && iY s t
theorem aMj (s : bX) (t : LTerm) (hs : Small s) (ht : OkT t): CT 50 [cB s, elT t] (.b (kA s t)) := by
 refine aF mixed Tryz.func50 g0 ?_
 · skip
   (refine zt2 (aMi t ht) (bHt s hs t ht) ?_; repeat' first | exact trivial | refine zJ ?_ ?_ | refine zH fun hc => ?_)
   all_goals refine aE ?_ rfl
   all_goals simp only [kA, *, Bool.true_and, Bool.false_and]
theorem aHl {s : bX} (h : cV s = true) : ∀ o ∈ s.ops, aOh s o = true := by
 simp only [cV, mZ, nS, pE, aB, aU, decide_eq_true_eq] at h
 exact h.2.1.2
theorem aYk {s : bX} {o : LOp} (h : aOh s o = true) : dA s o.sort = true := by
 simp only [aOh, opHead, aB, iJ] at h
 simp [dA, keysOf, h.1.1.1.1.1.2]
theorem aQf {s : bX} {x : Str} {o : LOp} (h : G1 s x = some o) : o ∈ s.ops := List.mem_of_find?_eq_some h
theorem qJ {s : bX} {x : Str} (h : x ∈ fU) : dA s x = true := by simp [dA, keysOf, h]
theorem zY {s : bX} {t : LTerm} (hv : cV s = true) (hz : 1 ≤ t.kind ∧ t.kind ≤ 8) (hp : iY s t = true) : ofR s t = (pG s t, true) ∧ dA s (pG s t) = true := by
 rw [sN] at hp
 simp only [aB, cO, decide_eq_false_iff_not] at hp
 obtain ⟨⟨⟨h6, _⟩, _⟩, ha⟩ := hp
 by_cases h5 : t.kind = 5
 · rw [if_pos h5, xK] at ha
   cases ho : G1 s t.text with
   | none => rw [ho] at ha; cases ha
   | some o =>
     have e1 : (kQ s t.text).1 = o := by rw [kQ, ho]
     have e2 : (pT s t.text).2 = (o.sort, true) := by rw [pT, ho]
     simp only [pG, ofR, h5, Int.reduceEq, if_true, if_false, e1, e2, true_and]
     exact aYk (aHl hv o (aQf ho))
 · simp only [pG, ofR]
   split
   · exact ⟨rfl, qJ (by decide)⟩
   split
   · exact ⟨rfl, qJ (by decide)⟩
   split
   · exact ⟨rfl, qJ (by decide)⟩
   split
   · exact ⟨rfl, qJ (by decide)⟩
   split
   · exact ⟨rfl, qJ (by decide)⟩
   split
   · exact ⟨rfl, qJ (by decide)⟩
   · omega
theorem all_congr {l : List LTerm} {f g : LTerm → Bool} (h : ∀ x ∈ l, f x = g x) : l.all f = l.all g := by
 induction l with
 | nil => rfl
 | cons a l ih => rw [jJ, jJ, h a (by simp), ih (fun x hx => h x (by simp [hx]))]
theorem D7 {n : Nat} {f g : Nat → Bool} (h : ∀ j, j < n → f j = g j) : aEi n f = aEi n g := by
 rw [dC, aEh, aEh]
 exact ⟨fun a j hj => h j hj ▸ a j hj, fun a j hj => (h j hj).symm ▸ a j hj⟩
theorem aKo {t : LTerm} (h : ∀ k ∈ t.kids, ZT k) : oT zG t = oT yZ t := by
 refine D7 fun j hj => ?_
 have e : zG (t.kids.getD (2 * j - 2) default) (t.kids.getD (2 * j) default) = yZ (t.kids.getD (2 * j - 2) default) (t.kids.getD (2 * j) default) := bEa _ (h _ (aV (by omega))) _ (h _ (aV (by omega)))
 rw [tX, tX, e]
theorem aPx {s : bX} (hv : cV s = true) : ∀ t : LTerm, wfT dD t = true → nE s t = iY s t :=
 dY (Q := fun t => wfT dD t = true → nE s t = iY s t) fun t hk _ hw => by
   have hw' := M0.1 hw
   have z := aWq t hw
   have e : t.kids.all (nE s) = t.kids.all (iY s) := all_congr fun x hx => hk x hx (hw'.2 x hx)
   rw [O6, sN, e]
   rcases fE (t.kids.all (iY s)) with ha | ha
   · rw [ha, Bool.true_and, Bool.and_true]
     by_cases h6 : t.kind = 6
     · rw [if_pos h6, zt h6]; rfl
     rw [if_neg h6, zf h6, Bool.not_false, Bool.true_and]
     by_cases h5 : t.kind = 5
     · rw [if_pos h5, if_pos h5]
       have e5 : B4 s t = xK s t := by
         rw [B4, xK]
         cases ho : G1 s t.text with
         | none => rfl
         | some o =>
           dsimp only
           congr 1
           refine D7 fun j hj => ?_
           have hm : t.kids.getD j default ∈ t.kids := aV hj
           have zk := aWq _ (hw'.2 _ hm)
           obtain ⟨q1, q2⟩ := zY hv (by cases zk with | mk a _ _ => exact a.f) (aU.1 ha _ hm)
           rw [q1, Bool.true_and]
           exact aBc q2
       rw [e5, Bool.and_comm]
     rw [if_neg h5, if_neg h5]
     by_cases h8 : t.kind = 8
     · rw [if_pos h8, if_pos h8, aKo (by cases z with | mk _ b _ => exact b), Bool.and_comm]
     · rw [if_neg h8, if_neg h8, Bool.and_comm]
   · rw [ha]; simp
theorem aBa {t : LTerm} (h : gO dD t = true) : wfT dD t = true := by
 simp only [gO, aB] at h; exact h.1.1
theorem bHx (s : bX) (t : LTerm) (hm : Small s) (hs : OkS s) (hv : cV s = true) (ht : OkT t): CT 108 [.agg (aO s), elT t] (.b (kA s t)) := by
 refine aF mixed Tryz.func108 g0 ?_
 · skip
   (refine zt2 (aMg t ht) (bHs s hm hs t ht) ?_; repeat' first | exact trivial | refine zJ ?_ ?_ | refine zH fun hc => ?_)
   all_goals refine aE ?_ rfl
   · rw [kA, hc, aPx hv t (aBa hc), Bool.true_and]
   · rw [kA, hc, Bool.false_and]
theorem bIa (s : bX) (t : LTerm) (hm : Small s) (hs : OkS s) (ht : OkT t): CT 54 [.agg (aO s), elT t] (.b (cV s && kA s t)) := by
 refine aF mixed Tryz.func54 g0 ?_
 · skip
   (repeat' (first | refine gT ?_ ?_ | refine gF ?_ ?_ | refine gC ?_ ?_ | ((first | refine cF (bAr s hm hs) ?_ | refine cF (bHx s t hm hs hc ht) ?_); simp -implicitDefEqProofs (disch := omega) only [go_sem, simprocAttr]) | refine aZ (by omega) ?_ | (intro hr; have hc := hr; (try simp only [zdz] at hc); simp -implicitDefEqProofs (disch := omega) only [hr, go_sem, simprocAttr]; (try clear hr))))
   all_goals exact aE rfl rfl

theorem aUm {H g : List AObj} {out : AV} {l : List LTerm} (h : eZ 6 0 g out (l.flatMap aD) l.length) (hH : H = g) : Rd6 H out l := by
 subst hH
 rcases h with ⟨rfl, hn, h0⟩ | ⟨i, rfl, hi, hl⟩
 · exact .inl ⟨rfl, List.length_eq_zero_iff.1 (by omega)⟩
 · refine .inr (.inr ⟨i + 0, 0, _, _, _, rfl, (by simpa using hi), by omega, ?_⟩)
   rw [dJ, aS (by omega)]
theorem aVe {H : List AObj} {v : AV} {l : List LTerm} (r : Rd6 H v l) : Fin H v (.sl (l.flatMap aD) l.length) := by
 have e := xD r
 have e1 : lR H v (.sl (l.flatMap aD) l.length) := e.1
 have e2 : bK v (.sl (l.flatMap aD) l.length) = [] := e.2
 exact .inr ⟨e1, by rw [e2]; exact eC, by rw [e2]; simp⟩
theorem aEx {l : List LTerm} {k : Nat} (h : k < l.length) : (l.take (k + 1)).flatMap aD = (l.take k).flatMap aD ++ aD (l.getD k default) := by
 rw [eX (d := default) h, uM]; simp
theorem gP {α : Type} {l : List α} : (List.replicate 1 l).flatten = l := by simp
theorem aDh (l : List LTerm) (hl : l.length ≤ 1466015503701) (ih : ∀ t ∈ l, CT 44 [elT t] (elT t)): CT 78 [avt l] (avt l) := by
 refine bI mixed Tryz.func78 g0 ?_
 · simp -implicitDefEqProofs (disch := omega) only [Tryz.f78, go_sem, List.replicate, ↓reduceIte, reduceAdd, reduceSub, reduceMul, reduceLeDiff, reduceLT, reduceEqDiff, reduceNeg, Nat.reduceBEq, avt]
   refine bT (fun (s : Nat × AV × List AObj) => [.k, .k, .k, .v (s.2.1), .k, .j, .k, .k, .v (.i .i64 (s.1 : Nat)), .j, .j, .j, .j, .j, .j, .j, .j, .j, .k]) (fun s => s.2.2) (fun s => s.1 ≤ l.length ∧ eZ 6 0 s.2.2 s.2.1 ((l.take s.1).flatMap aD) s.1) (fun s => l.length - s.1) ((0, .e0, [])) ⟨aG _, kU⟩ rfl (by simp [eQ]) ?_
   rintro ⟨k, out, g⟩ j ⟨hk, ho⟩
   dsimp only at hk ho
   have o : k < l.length → CT 44 [elT (l.getD k default)] (elT (l.getD k default)) := fun h => ih _ (aV h)
   refine zg ?_
   (repeat' (first | refine gT ?_ ?_ | refine gF ?_ ?_ | refine gC ?_ ?_ | ((refine aX ((o (by omega))) ?_ ?_; (focus (simp -implicitDefEqProofs (disch := omega) only [gP, zdB, go_sem, ↓reduceIte, reduceAdd, reduceSub, reduceMul, reduceLeDiff, reduceLT, reduceEqDiff, reduceNeg, Nat.reduceBEq]; done))); simp -implicitDefEqProofs (disch := omega) only [gP, go_sem, ↓reduceIte, reduceAdd, reduceSub, reduceMul, reduceLeDiff, reduceLT, reduceEqDiff, reduceNeg, Nat.reduceBEq]) | refine aZ (by omega) ?_ | (intro hr; have hc := hr; (try simp only [zdz] at hc); simp -implicitDefEqProofs (disch := omega) only [hr, gP, go_sem, ↓reduceIte, reduceAdd, reduceSub, reduceMul, reduceLeDiff, reduceLT, reduceEqDiff, reduceNeg, Nat.reduceBEq]; (try clear hr))))
   · refine fN (pre := []) (g := g ++ [.box false [.i .i64 (l.getD k default).kind, .i .i64 (l.getD k default).n, .s (l.getD k default).text, .s (l.getD k default).sort, .sl ((l.getD k default).kids.flatMap aD) (l.getD k default).kids.length, .sl ((l.getD k default).rest.flatMap aD) (l.getD k default).rest.length]]) (more := [.arr false 6 ([.i .i64 (l.getD k default).kind, .i .i64 (l.getD k default).n, .s (l.getD k default).text, .s (l.getD k default).sort, .sl ((l.getD k default).kids.flatMap aD) (l.getD k default).kids.length, .sl ((l.getD k default).rest.flatMap aD) (l.getD k default).rest.length])]) (news := [.i .i64 (l.getD k default).kind, .i .i64 (l.getD k default).n, .s (l.getD k default).text, .s (l.getD k default).sort, .sl ((l.getD k default).kids.flatMap aD) (l.getD k default).kids.length, .sl ((l.getD k default).rest.flatMap aD) (l.getD k default).rest.length]) (m := 1) ((ho).more _) rfl (by simp -implicitDefEqProofs (disch := omega) only [go_sem, ↓reduceIte, reduceAdd, reduceSub, reduceMul, reduceLeDiff, reduceLT, reduceEqDiff, reduceNeg, Nat.reduceBEq]) bQd bOs bOu bQh rfl (by decide) (by simp -implicitDefEqProofs (disch := omega) only [go_sem, ↓reduceIte, reduceAdd, reduceSub, reduceMul, reduceLeDiff, reduceLT, reduceEqDiff, reduceNeg, Nat.reduceBEq]) (by simp -implicitDefEqProofs (disch := omega) only [go_sem, ↓reduceIte, reduceAdd, reduceSub, reduceMul, reduceLeDiff, reduceLT, reduceEqDiff, reduceNeg, Nat.reduceBEq]) ⟨by omega, by omega⟩ ?_
     intro out' g' ho' _
     refine zg ?_
     refine ⟨(k + 1, out', g'), ⟨by dsimp only; omega, ?_⟩, by dsimp only; omega, rfl, by simp⟩
     dsimp only
     rw [aEx (by omega), bC]
     exact ho'
   · have h1 : k = l.length := by omega
     subst h1
     rw [iB] at ho
     exact aVe (aUm ho rfl)
theorem aSs (t : LTerm) (ihk : CT 78 [avt t.kids] (avt t.kids)) (ihr : CT 78 [avt t.rest] (avt t.rest)): CT 44 [elT t] (elT t) := by
 refine aF mixed Tryz.func44 g0 ?_
 · skip
   (refine zt2 ihk ihr ?_; repeat' first | exact trivial | refine zJ ?_ ?_ | refine zH fun hc => ?_)
   all_goals exact aE rfl (by simp only [pers, persL, lL, dQ])
theorem bHy : ∀ (t : LTerm), OkT t → CT 44 [elT t] (elT t) :=
 dY fun t hk hr ht => aSs t (aDh t.kids ht.kids fun x hx => hk x hx (ht.kid x hx)) (aDh t.rest ht.rest fun x hx => hr x hx (ht.rst x hx))

theorem S9 (n : Int) (h0 : -9223372036854775808 ≤ n) (h1 : n ≤ 9223372036854775807) : CT 178 [.i .i64 n] (.s (Lib.itoa n)) := by
 refine ⟨by kernel_rfl, g0, ?_⟩
 intro F w vs hF hgl hl hr
 obtain ⟨v0, rfl⟩ := aUr hl
 have e0 := rF (hr 0 _ v0 rfl rfl)
 subst e0
 refine (Tryz.strconv_Itoa n h0 h1 w (bBe (by kernel_rfl) (hgl 2 (.box F6 0) rfl))).mono ?_
 rintro e w' ⟨rfl, k, os, rfl⟩
 have hgr : yX w (Sort.grow (w.drewN k) os) := by
   refine ⟨fun b hb => ?_, ?_, rfl, rfl, rfl⟩
   · simp only [Sort.grow, World.drewN]; rw [fS hb]
   · simp only [Sort.grow, World.drewN, Array.size_append]; omega
 exact ⟨_, F, [], rfl, hgr, fun _ h => h, fun _ h => .inl h, fun b hb => eH (hF b hb) hgr.size, RR.val (.s _), eC, by simp⟩

abbrev neq : Str := [101, 113]
abbrev Res := LTerm × Int
def aXq (p : Res) : AV := bBw p.1 p.2
attribute [go_sem] aXq
theorem aLj {H : List AObj} {p : Res} {k n e : Int} {t s : Str} {ks rs : List LTerm} {v4 v5 : AV} (h : p = (.mk k n t s ks rs, e)) (r4 : Rd6 H v4 ks) (r5 : Rd6 H v5 rs) : Fin H (.tup [.agg [.i .i64 k, .i .i64 n, .s t, .s s, v4, v5], .i .i64 e]) (aXq p) := by
 subst h
 exact aVd (t := .mk k n t s ks rs) r4 r5
theorem aRp {H : List AObj} {p q : Res} (h : p = q) : Fin H (.tup [.agg [.i .i64 q.1.kind, .i .i64 q.1.n, .s q.1.text, .s q.1.sort, .sl (q.1.kids.flatMap aD) q.1.kids.length, .sl (q.1.rest.flatMap aD) q.1.rest.length], .i .i64 q.2]) (aXq p) := by
 subst h
 exact aVd (t := p.1) aBt aBt

theorem bLu : (28 : Nat) ≠ 3 := by decide
theorem bTj {h : List AObj} : hY Tryz.prog h .cap #[28] [.e0] = some (.i .i64 0, h) := aMw bQx
theorem bOl {dr : Option DR} {d : Option Nat} {os : List fD} {K : List AV → List AObj → Prop} {env : List AV} {h : List AObj} {s x : Operand} : dK Tryz.prog G0 dr (.call ⟨.builtin .append, #[s, x], #[28, 3]⟩) d os K env h = L7 Tryz.prog G0 dr (Tryz.prog.underlying 3) (nO Tryz.prog h 28 (aev G0 env s) (aev G0 env x)) d os K env := sM bLu
attribute [go_sem] bTj
attribute [go_sem ↓] bOl
theorem bHh (n : Nat) (hn : n ≤ 1000000): CT 227 [.e0, .i .i64 n] (.own 6 [] 0) := by
 refine aF mixed Tryz.func227 g0 ?_
 · skip
   (refine zs0 ?_; repeat' first | exact trivial | refine zJ ?_ ?_ | refine zH fun hc => ?_)
   · exfalso; omega
   · rw [if_pos (by omega), if_neg (by omega)]
     refine zg ?_
     refine ⟨by simp [List.length_flatten], ?_⟩
     exact .inr ⟨⟨rfl, rfl, _, rfl, by simp, by simp, rfl⟩, by simp [bK], by simp [bK, hJ]⟩
   · exact .inr ⟨⟨rfl, rfl⟩, by simp [bK], by simp [bK]⟩
theorem Y9 {l : List (List LTerm)} {k : Nat} (h : k < l.length) : (l.map avt)[k]? = some (avt (l.getD k [])) := by simp [h]
attribute [go_sem] Y9
def K6 (l : List (List LTerm)) : Nat := l.flatten.length
@[simp] theorem bKm : K6 [] = 0 := rfl
theorem wP {l : List (List LTerm)} {k : Nat} (h : k < l.length) : K6 (l.take (k + 1)) = K6 (l.take k) + (l.getD k []).length := by
 rw [eX (d := []) h]; simp [K6]
theorem aHw {l : List (List LTerm)} {k : Nat} : K6 (l.take k) ≤ K6 l := by
 have h : (l.take k ++ l.drop k).flatten.length = l.flatten.length := by rw [gH]
 unfold K6
 rw [jH, aI] at h
 omega
theorem aHx {l : List (List LTerm)} {k : Nat} (h : k < l.length) : K6 (l.take k) + (l.getD k []).length ≤ K6 l := by
 rw [← wP h]; exact aHw
theorem bHm (l : List (List LTerm)) (hl : l.length ≤ 1000) (hs : K6 l ≤ 1000000): CT 189 [.sl (l.map avt) l.length] (avt l.flatten) := by
 refine aF mixed Tryz.func189 g0 ?_
 · skip
   refine bT (fun (k : Nat) => [.k, .k, .k, .v (.i .i64 (K6 (l.take k) : Nat)), .k, .j, .k, .k, .k, .k, .k, .v (.i .i64 k), .j, .j, .j, .j, .j, .j, .j, .j, .j, .j, .j, .k, .k, .k, .k, .k, .k, .k, .k, .k, .k, .k, .k, .k]) (fun k => []) (fun k => k ≤ l.length) (fun k => l.length - k) (0) (aG _) rfl (by simp [eQ]) ?_
   rintro k j hk
   have hat : k < l.length → K6 (l.take k) + (l.getD k []).length ≤ K6 l := aHx
   have hkk := aHw (l := l) (k := k)
   refine zg ?_
   (refine zs0 ?_; repeat' first | exact trivial | refine zJ ?_ ?_ | refine zH fun hc => ?_)
   · exfalso; omega
   · refine ⟨k + 1, by omega, by omega, ?_, by simp⟩
     rw [wP (by omega)]; simp
   · have h1 : k = l.length := by omega
     subst h1
     refine aMy (bHh (K6 l) (by omega)) (by simp -implicitDefEqProofs (disch := omega) only [aPc, go_sem, simprocAttr]) ?_
     refine zg ?_
     refine bT (fun (t : Nat × AV × List AObj) => [.k, .k, .k, .k, .k, .k, .v (t.2.1), .k, .j, .k, .k, .k, .k, .k, .k, .k, .k, .k, .k, .k, .k, .k, .k, .k, .k, .k, .k, .v (.i .i64 (t.1 : Nat)), .j, .j, .j, .j, .j, .j, .j, .k]) (fun t => t.2.2) (fun t => t.1 ≤ l.length ∧ eZ 6 0 t.2.2 t.2.1 ((l.take t.1).flatten.flatMap aD) (K6 (l.take t.1))) (fun t => l.length - t.1) ((0, .hs 0 0 0 false, [.arr false 6 []])) ⟨aG _, .inr ⟨0, rfl, rfl, rfl⟩⟩ rfl (by simp [eQ]) ?_
     rintro ⟨k, out, g⟩ j ⟨hk, ho⟩
     dsimp only at hk ho
     have hat : k < l.length → K6 (l.take k) + (l.getD k []).length ≤ K6 l := aHx
     refine zg ?_
     (refine zs0 ?_; repeat' first | exact trivial | refine zJ ?_ ?_ | refine zH fun hc => ?_)
     · refine fN (more := []) (pre := []) (news := (l.getD k []).flatMap aD) (m := (l.getD k []).length) ho rfl (by simp) bQd bOs bOu bQh rfl (by decide) (by simp -implicitDefEqProofs (disch := omega) only [go_sem, simprocAttr]) (by simp -implicitDefEqProofs (disch := omega) only [go_sem, simprocAttr]) ⟨by omega, by omega⟩ ?_
       intro out' g' ho' _
       refine zg ?_
       refine ⟨(k + 1, out', g'), ⟨by omega, ?_⟩, by simp; omega, rfl, by simp⟩
       dsimp only
       rw [wP (by omega), eX (d := []) (by omega), jH, uM]
       simpa using ho'
     · have h1 : k = l.length := by omega
       subst h1
       rw [iB] at ho
       exact aVe (aUm ho rfl)
end Go.Proofs.YtifefbhllfdmlaaGreatDoor
